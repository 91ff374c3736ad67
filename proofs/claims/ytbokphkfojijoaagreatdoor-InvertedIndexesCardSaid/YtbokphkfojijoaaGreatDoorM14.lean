import Derived.Test.YtbokphkfojijoaaGreatDoorM6
import Derived.Test.YtbokphkfojijoaaGreatDoorM13
set_option linter.unusedSimpArgs false
set_option linter.unusedVariables false
set_option maxRecDepth 3000
set_option maxHeartbeats 16000000
section
namespace Go.LA
open Go.RowKit
def spV (k:IntKind) (x:Sp):Value:=.agg #[.int k x.1,.int k x.2]
def e3A (k:IntKind):List Sp→List Value
 | []=>[]
 | x::r=>.int k x.1::.int k x.2::e3A k r
variable {k:IntKind}
theorem gnA:∀ a b,e3A k (a++b)=e3A k a++e3A k b
 | [],b=>rfl
 | x::a,b=>by simp only [List.cons_append,e3A,gnA a b]
theorem khA:∀ a,(e3A k a).length=a.length*2
 | []=>rfl
 | x::a=>by simp only [e3A,List.length_cons,khA a];omega
theorem mkA:∀ (a:List Sp) (j:Nat),j<a.length→((e3A k a).drop (j*2)).take 2=[.int k (a.getD j (0,0)).1,.int k (a.getD j (0,0)).2]
 | [],j,h=>by simp at h
 | x::a,0,_=>rfl
 | x::a,j+1,h=>by
   have ih:=mkA a j (by simpa using h);rw [show (j+1)*2=j*2+1+1 by omega];exact ih
theorem jiA:∀ (a:List Sp) (j:Nat) (c:Int),(e3A k a).set (j*2+1) (.int k c)=e3A k (a.set j ((a.getD j (0,0)).1,c))
 | [],j,c=>by simp [e3A]
 | x::a,0,c=>rfl
 | x::a,j+1,c=>by
   rw [show (j+1)*2+1=j*2+1+1+1 by omega];simp only [e3A,List.set_cons_succ,jiA a j c,List.getD_cons_succ]
def SlP (k:IntKind) (w:World) (v:Value) (rs:List Sp):Prop:=SlC w v rs.length 2 (e3A k rs)
theorem SlP.ext {w w':World} {v:Value} {rs:List Sp} (h:SlP k w v rs) (e:Ext w w'):SlP k w' v rs:=SlC.ext h e
theorem SlP.len {w:World} {v:Value} {rs:List Sp} (h:SlP k w v rs):rs.length≤9223372036854775807:=SlC.len h
def OwnP (base e:Nat) (k:IntKind) (w:World) (v:Value) (rs:List Sp):Prop:=Own base e 2 w v rs.length (e3A k rs)
theorem OwnP.ext {base e:Nat} {w w':World} {v:Value} {rs:List Sp} (h:OwnP base e k w v rs) (x:Ext w w'):OwnP base e k w' v rs:=Own.ext h x
theorem OwnP.slP {base e:Nat} {w:World} {v:Value} {rs:List Sp} (h:OwnP base e k w v rs):SlP k w v rs:=Own.slC h
theorem OwnP.nil {base e:Nat} {w:World}:OwnP base e k w (.slice none 0 0) []:=Own.nil
def k6A (base e:Nat) (k:IntKind) (rs:List Sp):AV:=⟨λ v w=>OwnP base e k w v rs,λ _ _ _ x h=>h.ext x⟩
theorem elA {w:World} {base base' e:Nat} {rs rs':List Sp} (hb:base'≤base) (hr:rs=rs') (en:Ending) (w':World) (h:Ret w (.pred (k6A base e k rs)) en w'):Ret w (.pred (k6A base' e k rs')) en w':=by
 obtain ⟨v,h1,h2,h3⟩:=h;exact ⟨v,h1,h2,hr▸Own.base h3 hb⟩
def HasP (wb:World) (r:AD) (k:IntKind) (rs:List Sp):Prop:=HasC wb r rs.length 2 (e3A k rs)
theorem HasP.val {wb:World} {u:Value} {rs:List Sp} (h:SlP k wb u rs):HasP wb (.val u) k rs:=HasC.val h
theorem HasP.ownV {wb:World} {base e:Nat} {u:Value} {rs:List Sp} (h:OwnP base e k wb u rs):HasP wb (.val u) k rs:=HasC.ownV h
theorem HasP.own {wb:World} {base e:Nat} {rs:List Sp}:HasP wb (.pred (k6A base e k rs)) k rs:=HasC.own
section
variable {P:Program} {l:List Oper} {N:Nn} {wb:World} {K:List Oper→Env→Prop} {rest:List Oper} {E:Env} {Q:Exit→Act→World→Prop}
variable {d:Tmp} {ty t t':TypeId} {pos:String} {after:Array Edge} {g:Option (Nat × Bool)} {x y z:Operand} {k':IntKind}
theorem ccA {rs:List Sp} (hg:bkA l E g=some true) (e:TypeId) (ht:P.underlying t=some (.slice e)) {r:AD} (hr:opE E x=r) (hx:HasP wb r k rs)
 (h:LA P l wb K rest ((d,.val (.int .i64 (rs.length:Int)))::E)):LA P l wb K (⟨some d,.call ⟨.builtin .len,#[x],#[t]⟩,ty,pos,after,g⟩::rest) E:=akA hg e ht hr hx h
theorem buA {rs:List Sp} {j:Nat} (hg:bkA l E g=some true) (e:TypeId) (ht:P.underlying t=some (.slice e)) (hs:∀ w,(sizeOf e).run P w=.ok 2 w)
 {r:AD} (hr:opE E x=r) (hx:HasP wb r k rs) (hi:opE E y=.val (.int k' ((j:Nat):Int))) (hn:j<rs.length)
 (h:LA P l wb K rest ((d,.pred (kcA [.int k (rs.getD j (0,0)).1,.int k (rs.getD j (0,0)).2]))::E)):LA P l wb K (⟨some d,.indexAddr t x y,ty,pos,after,g⟩::rest) E :=
 c1A hg e ht hs hr hx hi j rfl hn (by rw [mkA rs j hn];exact h)
theorem gpA {w0:World} {e b r0:Nat} {v z:Value} {f m:Int} {cs:List Sp} (hg:g=none) (hd:d<N.n) (hel:El P t e z 2 b) (hx:opE E x=.val v) (hown:OwnP w0.heap.size e k wb v cs) (hy:opE E y=.pred (i9A r0 e 2 1 (spV k (f,m)).cells.toList))
 (h63:cs.length+1≤9223372036854775807) (hbytes:(cs.length+1)*b≤140737488355328) (hbase:Ext w0 wb)
 (h:∀ v' w',Ext w0 w'→OwnP w0.heap.size e k w' v' (cs++[(f,m)])→LX P N w' l Q rest ((d,.val v')::vals E)) :
 LX P N wb l Q (⟨some d,.call ⟨.builtin .append,#[x,y],#[t,t]⟩,ty,pos,after,g⟩::rest) E :=
 cyA hg hd hel hx hown hy HasC.own (by intro u hu;simp [spV,Value.cells] at hu;rcases hu with rfl|rfl <;> rfl) h63 hbytes hbase.size (λ v' w w' e1 ho hg'=>h v' w' ((hbase.trans e1).grown hg' (λ q hq=>(Own.lt hown q hq).1))
  (by unfold OwnP;rw [gnA,List.length_append,List.length_singleton];exact ho))
end
theorem OwnP.row {base e:Nat} {w:World} {v:Value} {rs:List Sp} (h:OwnP base e k w v rs) (hp:0<rs.length) :
 ∃ b cap cur,v=.slice (some ⟨b,0,none⟩) rs.length cap∧base≤b∧w.heap[b]?=some (.cells cur e (0,0))∧rs.length≤cap∧cap≤maxLen∧cur.size=cap*2∧cur.toList.take (rs.length*2)=e3A k rs:=by
 rcases h.2 with ⟨_,h0⟩|⟨b,cap,cur,rfl,h1,h2,h3,h4,h5,h6⟩
 ·omega
 ·exact ⟨b,cap,cur,rfl,h1,h2,h3,h4,h5,h6⟩
theorem OwnP.set2 {base e b cap:Nat} {w:World} {cur:Array Value} {rs:List Sp} (hb:base≤b) (hg:w.heap[b]?=some (.cells cur e (0,0))) (hnc:rs.length≤cap) (hm:cap≤maxLen) (hsz:cur.size=cap*2) (ht:cur.toList.take (rs.length*2)=e3A k rs) (i:Nat) (c:Int) :
 OwnP base e k (w.setRow b (cur.setIfInBounds (i*2+1) (.int k c))) (.slice (some ⟨b,0,none⟩) rs.length cap) (rs.set i ((rs.getD i (0,0)).1,c)):=by
 refine ⟨by rw [khA],.inr ⟨b,cap,cur.setIfInBounds (i*2+1) (.int k c),by rw [List.length_set],hb,setRow_heap w b cur _ e _ hg,by rw [List.length_set];exact hnc,hm,by simpa using hsz,?_⟩⟩;rw [Array.toList_setIfInBounds,List.length_set,List.take_set,ht,jiA]
end Go.LA
end
section
namespace Go.LA
open Go.RowKit Go.ArrP
def itv (lo hi y:Nat):Bool:=decide (lo≤y) && decide (y<hi)
theorem siA {lo hi y:Nat} (h1:lo≤y) (h2:y<hi):itv lo hi y=true:=by unfold itv;rw [decide_eq_true h1,decide_eq_true h2];rfl
theorem jaA {lo hi y:Nat} (h:y<lo∨hi≤y):itv lo hi y=false:=by
 unfold itv
 rcases h with h|h
 ·rw [decide_eq_false (Nat.not_le.2 h),Bool.false_and]
 ·rw [decide_eq_false (Nat.not_lt.2 h),Bool.and_false]
theorem sjA {lo hi y:Nat}:itv lo hi y=true↔lo≤y∧y<hi:=by
 unfold itv;rw [Bool.and_eq_true,decide_eq_true_iff,decide_eq_true_iff]
theorem t3A (lo hi:Nat):∀ T,cnt (itv lo hi) T=min hi T-min lo T
 | 0=>by simp [cnt]
 | T+1=>by
   have ih:=t3A lo hi T
   by_cases h1:lo≤T∧T<hi
   ·have:=siA h1.1 h1.2
    simp only [cnt,ih,this,if_true];omega
   ·have:=jaA (lo:=lo) (hi:=hi) (y:=T) oZ
    simp only [cnt,ih,this,Bool.false_eq_true,if_false];omega
theorem yqA {p:Nat→Bool} {a:Nat} (h:∀ x,x<a→p x=false):spL p a=[]:=by
 rw [ecA (p:=p) (Nat.zero_le a) (λ x _ hx=>h x hx),hmA]
theorem azB {p:Nat→Bool} {a:Nat} (h:∀ x,x<a→a≤x+1→p x=false):bel p a=false:=by
 cases a with
 | zero=>rfl
 | succ a=>exact h a (Nat.lt_succ_self a) (Nat.le_refl _)
theorem yrA {p:Nat→Bool} {a lo hi b:Nat} {l:List Sp} (h:spL p a=l) (h1:a<lo∨(a=lo∧a=0)) (h2:lo<hi) (h3:hi≤b) (g1:∀ x,a≤x→x<lo→p x=false) (g2:∀ x,lo≤x→x<hi→p x=true) (g3:∀ x,hi≤x→x<b→p x=false) :
 spL p b=l++[((lo:Int),(hi:Int))]:=by
 have hb:bel p lo=false:=azB (λ x hx1 hx2=>g1 x oZ hx1);rw [ecA h3 g3,reA h2 g2 hb,ecA (a:=a) oZ g1,h]
theorem brB (lo hi T:Nat) (h:hi≤T):spL (itv lo hi) T=if lo<hi then [((lo:Int),(hi:Int))] else []:=by
 by_cases h1:lo<hi
 ·rw [if_pos h1]
  exact yrA (a:=0) (l:=[]) (hmA _) oZ h1 h (λ x _ h3=>jaA (.inl h3)) (λ x h2 h3=>siA h2 h3) (λ x h2 _=>jaA (.inr h2))
 ·rw [if_neg h1];exact yqA (λ x _=>jaA oZ)
end Go.LA
end
section
namespace Go.LA
open Go.RowKit Go.ArrP
structure SpW (p:Nat→Bool) (T n:Nat) (lo hi:Nat→Nat):Prop where
 lt:∀ i,i<n→lo i<hi i∧hi i≤T
 up:∀ i,i+1<n→hi i<lo (i+1)
 on:∀ i,i<n→∀ y,lo i≤y→y<hi i→p y=true
 off:∀ i,i+1<n→∀ y,hi i≤y→y<lo (i+1)→p y=false
 pre:∀ y,(0<n→y<lo 0)→y<T→p y=false
 post:0<n→∀ y,hi (n-1)≤y→y<T→p y=false
theorem uqA {α:Type} {d x:α} {l:List α} {i:Nat} (hl:0<l.length):(l.set (l.length-1) x).getD i d=if i=l.length-1 then x else l.getD i d:=by
 rw [List.getD_eq_getElem?_getD,List.getElem?_set,List.getD_eq_getElem?_getD]
 by_cases e:l.length-1=i
 ·rw [if_pos e,if_pos oZ,if_pos e.symm];rfl
 ·rw [if_neg e,if_neg (λ h=>e h.symm)]
theorem iyA (p:Nat→Bool):∀ T,∃ lo hi:Nat→Nat,SpW p T (spL p T).length lo hi∧∀ i,i<(spL p T).length→(spL p T).getD i (0,0)=((lo i:Int),(hi i:Int))
 | 0=>⟨λ _=>0,λ _=>0,by
  rw [hmA];exact ⟨λ i h=>by simp at h,λ i h=>by simp at h,λ i h=>by simp at h,λ i h=>by simp at h,λ y _ h=>by omega,λ h=>by simp at h⟩,λ i h=>by rw [hmA] at h;simp at h⟩
 | T+1=>by
   obtain ⟨lo,hi,W,hS⟩:=iyA p T;cases hp:p T with
   | false =>
     rw [ecA (p:=p) (Nat.le_succ T) (λ x h1 h2=>by obtain rfl:x=T:=oZ
                                                   exact hp)]
     refine ⟨lo,hi,⟨λ i h=>⟨(W.lt i h).1,by have:=(W.lt i h).2;omega⟩,W.up,W.on,W.off,λ y h1 h2=>?_,λ h y h1 h2=>?_⟩,hS⟩
     ·by_cases e:y=T
      ·subst e;exact hp
      ·exact W.pre y h1 oZ
     ·by_cases e:y=T
      ·subst e;exact hp
      ·exact W.post h y h1 oZ
   | true =>
     have hon:∀ x,T≤x→x<T+1→p x=true:=λ x h1 h2=>by
      obtain rfl:x=T:=oZ;exact hp
     cases hb:bel p T with
     | false =>
       rw [reA (Nat.lt_succ_self T) hon hb];obtain ⟨S,hSd⟩:∃ S,S=spL p T:=⟨_,rfl⟩;rw [← hSd] at W hS ⊢;have hlast:0<S.length→hi (S.length-1)<T:=λ h0=>by
        have h1:=(W.lt (S.length-1) oZ).2
        by_cases e:hi (S.length-1)=T
        ·exfalso
         have h2:=W.lt (S.length-1) oZ;have h3:=W.on (S.length-1) oZ (T-1) oZ oZ;have:bel p T=true:=by
          rw [show T=(T-1)+1 by omega];exact h3
         rw [hb] at this;cases this
        ·omega
       refine ⟨λ i=>if i=S.length then T else lo i,λ i=>if i=S.length then T+1 else hi i,?_,?_⟩
       ·rw [List.length_append,List.length_singleton]
        refine ⟨λ i h=>?_,λ i h=>?_,λ i h y h1 h2=>?_,λ i h y h1 h2=>?_,λ y h1 h2=>?_,λ h y h1 h2=>?_⟩
        ·by_cases e:i=S.length
         ·simp only [if_pos e];omega
         ·simp only [if_neg e];have:=W.lt i oZ;omega
        ·by_cases e:i+1=S.length
         ·simp only [if_pos e,if_neg (show ¬ i=S.length by omega)]
          have:=hlast oZ;rwa [show S.length-1=i by omega] at this
         ·simp only [if_neg e,if_neg (show ¬ i=S.length by omega)];exact W.up i oZ
        ·by_cases e:i=S.length
         ·simp only [if_pos e] at h1 h2;exact hon y h1 h2
         ·simp only [if_neg e] at h1 h2;exact W.on i oZ y h1 h2
        ·by_cases e:i+1=S.length
         ·simp only [if_pos e,if_neg (show ¬ i=S.length by omega)] at h1 h2
          exact W.post oZ y (by rwa [show S.length-1=i by omega]) h2
         ·simp only [if_neg e,if_neg (show ¬ i=S.length by omega)] at h1 h2;exact W.off i oZ y h1 h2
        ·have h3:=h1 oZ
         by_cases e:0=S.length
         ·simp only [if_pos e] at h3;exact W.pre y (λ h=>by omega) h3
         ·simp only [if_neg e] at h3
          have:=W.lt 0 oZ;exact W.pre y (λ _=>h3) oZ
        ·simp only [if_pos (show S.length+1-1=S.length by omega)] at h1;omega
       ·intro i h
        rw [List.length_append,List.length_singleton] at h
        by_cases e:i=S.length
        ·simp only [if_pos e]
         rw [e2A oZ,e,Nat.sub_self];rfl
        ·simp only [if_neg e]
         rw [fiA oZ];exact hS i oZ
     | true =>
       obtain ⟨h0,he⟩:=rfA (Nat.lt_succ_self T) hon hb;have hend:((spL p T).getD ((spL p T).length-1) (0,0)).2=T:=(sp_bel.1 hb).2;rw [he];obtain ⟨S,hSd⟩:∃ S,S=spL p T:=⟨_,rfl⟩;rw [← hSd] at W hS h0 hend ⊢;rw [hS _ oZ] at hend;have hend':hi (S.length-1)=T:=by dsimp only at hend;omega
       refine ⟨lo,λ i=>if i=S.length-1 then T+1 else hi i,?_,?_⟩
       ·rw [List.length_set]
        refine ⟨λ i h=>?_,λ i h=>?_,λ i h y h1 h2=>?_,λ i h y h1 h2=>?_,λ y h1 h2=>?_,λ h y h1 h2=>?_⟩
        ·have:=W.lt i h
         by_cases e:i=S.length-1
         ·simp only [if_pos e];omega
         ·simp only [if_neg e];omega
        ·simp only [if_neg (show ¬ i=S.length-1 by omega)];exact W.up i h
        ·by_cases e:i=S.length-1
         ·simp only [if_pos e] at h2
          by_cases e2:y=T
          ·subst e2;exact hp
          ·exact W.on i h y h1 (by rw [e,hend'];omega)
         ·simp only [if_neg e] at h2;exact W.on i h y h1 h2
        ·simp only [if_neg (show ¬ i=S.length-1 by omega)] at h1;exact W.off i h y h1 h2
        ·have:=h1 h0
         have:=W.lt 0 h0;exact W.pre y h1 oZ
        ·simp only [if_true] at h1;omega
       ·intro i h
        rw [List.length_set] at h;rw [uqA h0]
        by_cases e:i=S.length-1
        ·simp only [if_pos e]
         rw [hS _ oZ,e]
        ·simp only [if_neg e];exact hS i h
def ckA (n:Nat) (lo hi:Nat→Nat) (i:Nat) (b:Bool):Nat:=if n≤i then 4611686018427387904 else if b then hi i else lo i
structure EdgeOK (p:Nat→Bool) (T n:Nat) (lo hi:Nat→Nat) (i:Nat) (b:Bool) (last:Nat):Prop where
 le:i≤n
 inn:b=true→i<n
 ge:last≤ckA n lo hi i b
 is:∀ t,last≤t→t<ckA n lo hi i b→t<T→p t=b
variable {p:Nat→Bool} {T n:Nat} {lo hi:Nat→Nat}
theorem kgA (W:SpW p T n lo hi):EdgeOK p T n lo hi 0 false 0:=by
 refine ⟨Nat.zero_le _,λ h=>Bool.noConfusion h,Nat.zero_le _,λ t _ h2 h3=>W.pre t (λ h0=>?_) h3⟩;unfold ckA at h2;rw [if_neg oZ] at h2;exact h2
theorem mgA {i:Nat} {b:Bool} {last next:Nat} (h:EdgeOK p T n lo hi i b last) (h1:last≤next) (h2:next≤ckA n lo hi i b):EdgeOK p T n lo hi i b next :=
 ⟨h.le,h.inn,h2,λ t g1 g2 g3=>h.is t (Nat.le_trans h1 g1) g2 g3⟩
theorem sxA (W:SpW p T n lo hi) {i:Nat} {b:Bool} (h:i<n):ckA n lo hi i b≤T:=by
 have:=W.lt i h;unfold ckA;rw [if_neg oZ];cases b
 ·exact Nat.le_of_lt (Nat.lt_of_lt_of_le this.1 this.2)
 ·exact this.2
theorem swA (W:SpW p T n lo hi) {i last:Nat} (h:EdgeOK p T n lo hi i false last) (hi':i<n):EdgeOK p T n lo hi i true (ckA n lo hi i false):=by
 have:=W.lt i hi';have e1:ckA n lo hi i false=lo i:=by unfold ckA;rw [if_neg oZ];rfl
 have e2:ckA n lo hi i true=hi i:=by unfold ckA;rw [if_neg oZ];rfl
 refine ⟨h.le,λ _=>hi',by rw [e1,e2];omega,λ t g1 g2 _=>?_⟩;rw [e1] at g1;rw [e2] at g2;exact W.on i hi' t g1 g2
theorem peA (W:SpW p T n lo hi) {i last:Nat} (hT:T≤4294967296) (h:EdgeOK p T n lo hi i true last):EdgeOK p T n lo hi (i+1) false (ckA n lo hi i true):=by
 have hi':=h.inn rfl;have:=W.lt i hi';have e1:ckA n lo hi i true=hi i:=by unfold ckA;rw [if_neg oZ];rfl
 rw [e1]
 by_cases e:i+1<n
 ·have e2:ckA n lo hi (i+1) false=lo (i+1):=by unfold ckA;rw [if_neg oZ];rfl
  have:=W.up i e;exact ⟨hi',λ h=>Bool.noConfusion h,by rw [e2];omega,λ t g1 g2 _=>by rw [e2] at g2;exact W.off i e t g1 g2⟩
 ·have e2:ckA n lo hi (i+1) false=4611686018427387904:=by unfold ckA;rw [if_pos oZ]
  exact ⟨hi',λ h=>Bool.noConfusion h,by rw [e2];omega,λ t g1 _ g3=>W.post oZ t (by rwa [show n-1=i by omega]) g3⟩
theorem teA {F:Bool→Bool→Bool} {q:Nat→Bool} {n':Nat} {lo' hi':Nat→Nat} {i k:Nat} {a b:Bool} {last next:Nat} (h:EdgeOK p T n lo hi i a last) (h':EdgeOK q T n' lo' hi' k b last)
 (h1:next≤ckA n lo hi i a) (h2:next≤ckA n' lo' hi' k b) (hT:next≤T):∀ t,last≤t→t<next→two F p q t=F a b:=λ t g1 g2=>by
 unfold two;rw [h.is t g1 oZ oZ,h'.is t g1 oZ oZ]
def uhA (T n:Nat) (lo:Nat→Nat) (i:Nat):Nat:=if i<n then lo i else T
theorem ouA {i:Nat} (h:i<n):uhA T n lo i=lo i:=if_pos h
theorem n9A {i:Nat} (h:¬ i<n):uhA T n lo i=T:=if_neg h
theorem zeA (W:SpW p T n lo hi) {i:Nat} (h:i<n):hi i≤uhA T n lo (i+1)∧∀ y,hi i≤y→y<uhA T n lo (i+1)→p y=false:=by
 by_cases e:i+1<n
 ·rw [ouA e];exact ⟨Nat.le_of_lt (W.up i e),W.off i e⟩
 ·rw [n9A e]
  refine ⟨(W.lt i h).2,λ y h1 h2=>W.post oZ y ?_ h2⟩;rwa [show n-1=i by omega]
end Go.LA
end
