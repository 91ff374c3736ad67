import Derived.Laws.AppendOwnNone
import Derived.Scope
import Derived.Lib.Overlaps
import Derived.Laws.Externs
import Derived.Laws.OwnMore
import Derived.Test.YtlnaebejmjmepaaGreatDoorM1
set_option linter.unusedSimpArgs false
set_option linter.unusedVariables false
set_option maxRecDepth 3000
set_option maxHeartbeats 16000000
section
namespace Go.LA
open Go.RowKit
structure El (P:Program) (t e:TypeId) (z:Value) (s b:Nat):Prop where
 ht:P.underlying t=some (.slice e)
 info:(P.info? e).map (λ i=>(i.zero,i.size,i.bytes))=some (some z,s,b)
 zs:z.cells.size=s
 pos:0<s
theorem El.parts {P:Program} {t e:TypeId} {z:Value} {s b:Nat} (h:El P t e z s b):∃ i,P.info? e=some i∧i.zero=some z∧i.size=s∧i.bytes=b:=by
 have h1:=h.info;cases hi:P.info? e with
 | none=>rw [hi] at h1;cases h1
 | some i =>
   rw [hi] at h1;simp only [Option.map_some,Option.some.injEq,Prod.mk.injEq] at h1;exact ⟨i,rfl,h1.1,h1.2.1,h1.2.2⟩
theorem El.sizeOf {P:Program} {t e:TypeId} {z:Value} {s b:Nat} (h:El P t e z s b) (w:World):(sizeOf e).run P w=.ok s w:=by
 obtain ⟨i,h1,h2,h3,h4⟩:=h.parts;simp [Go.sizeOf,typeInfo,h1,h3]
theorem El.zero {P:Program} {t e:TypeId} {z:Value} {s b:Nat} (h:El P t e z s b) (w:World):(zeroValue e).run P w=.ok z w:=by
 obtain ⟨i,h1,h2,h3,h4⟩:=h.parts;simp [zeroValue,typeInfo,h1,h2]
def Own (base:Nat) (e s:Nat) (w:World) (v:Value) (n:Nat) (cs:List Value):Prop:=w.ownsRow base e s v n cs
theorem Own.nil {base e s:Nat} {w:World}:Own base e s w (.slice none 0 0) 0 []:=World.ownsRow_nil w base e s
theorem Own.slC {base e s:Nat} {w:World} {v:Value} {n:Nat} {cs:List Value} (h:Own base e s w v n cs):SlC w v n s cs:=by
 refine ⟨h.1,?_⟩
 rcases h.2 with ⟨rfl,rfl⟩|⟨g,cap,cur,rfl,hb,hg,hnc,hm,hsz,htake⟩
 ·exact ⟨none,0,rfl,Nat.le_refl _,Nat.zero_le _,λ _=>rfl,.inl rfl⟩
 ·refine ⟨_,cap,rfl,hnc,hm,(λ h=>by cases h),.inr ⟨g,0,rfl,λ j c hj=>?_⟩⟩
  have:=World.ownsRow.cells (w:=w) (v:=.slice (some ⟨g,0,none⟩) n cap) h (g:=g) rfl j c hj;rwa [Addr.add_lit] at this
theorem Own.ext {base e s:Nat} {w w':World} {v:Value} {n:Nat} {cs:List Value} (h:Own base e s w v n cs) (x:Ext w w'):Own base e s w' v n cs:=by
 refine ⟨h.1,?_⟩
 rcases h.2 with hn|⟨g,cap,cur,hv,hb,hg,r⟩
 ·exact .inl hn
 ·exact .inr ⟨g,cap,cur,hv,hb,x.block hg,r⟩
theorem Own.base {base base' e s:Nat} {w:World} {v:Value} {n:Nat} {cs:List Value} (h:Own base e s w v n cs) (hb:base'≤base):Own base' e s w v n cs:=by
 refine ⟨h.1,?_⟩
 rcases h.2 with hn|⟨g,cap,cur,hv,hb',r⟩
 ·exact .inl hn
 ·exact .inr ⟨g,cap,cur,hv,Nat.le_trans hb hb',r⟩
theorem Own.lt {base e s:Nat} {w:World} {v:Value} {n:Nat} {cs:List Value} (h:Own base e s w v n cs):∀ k,v.ownBlock=some k→base≤k∧k<w.heap.size:=World.ownsRow.lt h
theorem Own.kept {base e s:Nat} {w w':World} {v:Value} {n:Nat} {cs:List Value} {row:Option Nat} (h:Own base e s w v n cs) (hg:w.grownBy w' row) (hne:v.ownBlock=none∨v.ownBlock≠row):Own base e s w' v n cs:=World.ownsRow.kept h hg hne
theorem Ext.grown {w0 w w':World} {row:Option Nat} (h:Ext w0 w) (hg:w.grownBy w' row) (hr:∀ k,row=some k→w0.heap.size≤k):Ext w0 w':=Below.grown h hg h.size hr
def hqA (base e s:Nat) (n:Nat) (cs:List Value):AV:=⟨λ v w=>Own base e s w v n cs,λ _ _ _ x h=>h.ext x⟩
def OwnI (base e:Nat) (k:IntKind) (w:World) (v:Value) (xs:List Int):Prop:=Own base e 1 w v xs.length (xs.map (Value.int k))
theorem OwnI.slI {base e:Nat} {k:IntKind} {w:World} {v:Value} {xs:List Int} (h:OwnI base e k w v xs):SlI k w v xs:=Own.slC h
theorem OwnI.ext {base e:Nat} {k:IntKind} {w w':World} {v:Value} {xs:List Int} (h:OwnI base e k w v xs) (x:Ext w w'):OwnI base e k w' v xs:=Own.ext h x
theorem OwnI.nil {base e:Nat} {k:IntKind} {w:World}:OwnI base e k w (.slice none 0 0) []:=Own.nil
def bnA (base e:Nat) (k:IntKind) (xs:List Int):AV:=⟨λ v w=>OwnI base e k w v xs,λ _ _ _ x h=>h.ext x⟩
theorem HasI.own {wb:World} {base e:Nat} {k:IntKind} {xs:List Int}:HasI wb (.pred (bnA base e k xs)) k xs:=λ _ _ _ hv=>OwnI.slI hv
theorem HasC.own {wb:World} {base e s n:Nat} {cs:List Value}:HasC wb (.pred (hqA base e s n cs)) n s cs:=λ _ _ _ hv=>Own.slC hv
theorem HasI.ownV {wb:World} {base e:Nat} {k:IntKind} {xs:List Int} {v:Value} (h:OwnI base e k wb v xs):HasI wb (.val v) k xs:=HasI.val h.slI
theorem HasC.ownV {wb:World} {base e s n:Nat} {cs:List Value} {v:Value} (h:Own base e s wb v n cs):HasC wb (.val v) n s cs:=HasC.val h.slC
theorem OwnI.cells {base e:Nat} {k:IntKind} {w:World} {v:Value} {xs:List Int} (h:OwnI base e k w v xs):v.cells=#[v]:=by
 obtain ⟨a,c,rfl⟩:=h.slI.isSlice;rfl
theorem OwnI.one {base e:Nat} {k:IntKind} {w:World} {v:Value} {xs:List Int} (h:OwnI base e k w v xs):v.oneCell'=true:=by
 obtain ⟨a,c,rfl⟩:=h.slI.isSlice;rfl
theorem aaA {w:World} {base base' e:Nat} {k:IntKind} {xs:List Int} (hb:base'≤base) (en:Ending) (w':World) (h:Ret w (.pred (bnA base e k xs)) en w'):Ret w (.pred (bnA base' e k xs)) en w':=by
 obtain ⟨v,h1,h2,h3⟩:=h;exact ⟨v,h1,h2,Own.base h3 hb⟩
def epA (v:Value) (l h s:Nat):Value:=match v with
 | .slice a _ cap=>sliced a l h cap s
 | _=>v
theorem SlC.sub {w:World} {v:Value} {n s:Nat} {cs:List Value} (hs:SlC w v n s cs) {l h:Nat} (h1:l≤h) (h2:h≤n):SlC w (epA v l h s) (h-l) s ((cs.take (h*s)).drop (l*s)):=by
 obtain ⟨h0,a,cap,rfl,hc,hm,hn,hcs⟩:=hs;have hh:h*s≤n*s:=Nat.mul_le_mul_right _ h2;refine ⟨by rw [List.length_drop,List.length_take,h0,Nat.min_eq_left hh,Nat.sub_mul],?_⟩;simp only [epA,sliced];refine ⟨_,cap-l,rfl,by omega,by omega,λ ha=>?_,?_⟩
 ·split at ha
  ·omega
  ·cases a with
   | none=>have:=hn rfl;omega
   | some a=>simp at ha
 ·by_cases hz:h-l=0
  ·exact .inl hz
  ·rcases hcs with rfl|⟨b,off,rfl,hc'⟩
   ·omega
   ·refine .inr ⟨b,off+l*s,?_,λ j c hj=>?_⟩
    ·rw [if_neg oZ];simp [Addr.add_lit]
    ·rw [List.getElem?_drop,List.getElem?_take] at hj
     split at hj
     ·have:=hc' _ _ hj;rw [Nat.add_assoc];exact this
     ·cases hj
theorem SlI.sub {k:IntKind} {w:World} {v:Value} {xs:List Int} (hs:SlI k w v xs) {l h:Nat} (h1:l≤h) (h2:h≤xs.length):SlI k w (epA v l h 1) ((xs.take h).drop l):=by
 have:=SlC.sub hs h1 h2;unfold SlI;have e:((xs.take h).drop l).length=h-l:=by simp;omega
 rw [e]
 simpa [List.map_take,List.map_drop] using this
theorem SlI.drop {k:IntKind} {w:World} {v:Value} {xs:List Int} (hs:SlI k w v xs) {l:Nat} (h1:l≤xs.length):SlI k w (epA v l xs.length 1) (xs.drop l):=by
 have:=SlI.sub hs h1 (Nat.le_refl _);rwa [List.take_length] at this
def vals:Env→Env
 | []=>[]
 | (d,r)::E=>(d,match r with|.val v=>.val v|_=>.any)::vals E
theorem pkA (E:Env) (t:Nat):lkE (vals E) t=(match lkE E t with|.val v=>.val v|_=>.any):=by
 induction E with
 | nil=>rfl
 | cons p E ih =>
   obtain ⟨d,r⟩:=p;simp only [vals,cgA]
   split
   ·rfl
   ·exact ih
section
variable {P:Program} {l:List Oper} {N:Nn} {wb:World} {K:List Oper→Env→Prop} {rest:List Oper} {E:Env} {Q:Exit→Act→World→Prop}
variable {d:Tmp} {ty t t':TypeId} {pos:String} {after:Array Edge} {g:Option (Nat × Bool)} {x y z:Operand} {k k':IntKind}
theorem St.vals {a:Act} {w w':World} (s:St N wb E a w):St N w' (LA.vals E) a w':=by
 refine ⟨s.sz,s.df,Ext.refl _,λ t=>?_⟩;rw [pkA];have:=s.sat t
 split
 ·rename_i v hv;rw [hv] at this;exact this
 ·trivial
theorem pzA {n s:Nat} {cs:List Value} {v:Value} {w:World} {e:TypeId} (ht:P.underlying t=some (.slice e)) (hs:∀ w,(sizeOf e).run P w=.ok s w) (h:SlC w v n s cs) (lo hi:Option Value) (l h':Nat)
 (hb:∀ cap,n≤cap→(Instr.sliceBounds true n cap lo hi none).run P w=.ok (l,h',cap) w):(Instr.sliceAt t v lo hi none).run P w=.ok (epA v l h' s) w:=by
 have fin:∀ (a:Option Addr) (cap:Nat),n≤cap→(Instr.sliceAt t (.slice a n cap) lo hi none).run P w=.ok (epA (.slice a n cap) l h' s) w:=λ a cap hc=>by
  simp only [Instr.sliceAt,Instr.slice,Sem.run_bind,run_underlying ht,Result.andThen_ok,hb cap hc,hs,epA];simp [sliced]
 obtain ⟨h0,a,cap,rfl,hc,-⟩:=h;exact fin _ _ hc
theorem v9A {n cap l:Nat} {w:World} (h1:l≤n):(Instr.sliceBounds true n cap (some (.int k (l:Int))) none none).run P w=.ok (l,n,cap) w:=by
 simp only [Instr.sliceBounds,Sem.run_bind,Sem.run_pure,Result.andThen_ok];rw [run_sliceBound w k l n _ oZ oZ];simp
theorem obA {n cap h:Nat} {w:World} (h1:h≤cap):(Instr.sliceBounds true n cap none (some (.int k (h:Int))) none).run P w=.ok (0,h,cap) w:=by
 simp only [Instr.sliceBounds,Sem.run_bind,Sem.run_pure,Result.andThen_ok];rw [run_sliceBound w k h cap _ oZ oZ];simp
theorem cvA {n s:Nat} {cs:List Value} {v:Value} {i:Int} (hg:bmA l E g=some true) (e:TypeId) (ht:P.underlying t=some (.slice e))
 (hx:opE E x=.val v) (hv:HasC wb (.val v) n s cs) (hi:opE E y=.val (.int k i)) (h0:0≤i) (hn:i≤n) (hs:∀ w,(sizeOf e).run P w=.ok s w) (h:LA P l wb K rest ((d,.val (epA v i.toNat n s))::E)) :
 LA P l wb K (⟨some d,.slice t x (some y) none none,ty,pos,after,g⟩::rest) E :=
 bhA _ hg (bwA λ a w he hh=>by
  have h1:=hh x (by simp [Op.operands]);have h2:=hh y (by simp [Op.operands]);rw [hx] at h1;rw [hi] at h2;simp only [AD.ok] at h1 h2;obtain ⟨j,rfl⟩:=Int.eq_ofNat_of_zero_le h0;simp only [execOp,Option.map_some,Option.map_none,h1,h2,Sem.run_bind,pzA ht hs (hv v w he rfl) _ _ j n (λ cap hc=>v9A oZ),Result.andThen_ok,Sem.run_pure,Int.toNat_natCast]) h
theorem fuA {n s:Nat} {cs:List Value} {v:Value} {i:Int} (hg:bmA l E g=some true) (e:TypeId) (ht:P.underlying t=some (.slice e))
 (hx:opE E x=.val v) (hv:HasC wb (.val v) n s cs) (hi:opE E y=.val (.int k i)) (h0:0≤i) (hn:i≤n) (hs:∀ w,(sizeOf e).run P w=.ok s w) (h:LA P l wb K rest ((d,.val (epA v 0 i.toNat s))::E)) :
 LA P l wb K (⟨some d,.slice t x none (some y) none,ty,pos,after,g⟩::rest) E :=
 bhA _ hg (bwA λ a w he hh=>by
  have h1:=hh x (by simp [Op.operands]);have h2:=hh y (by simp [Op.operands]);rw [hx] at h1;rw [hi] at h2;simp only [AD.ok] at h1 h2;obtain ⟨j,rfl⟩:=Int.eq_ofNat_of_zero_le h0;simp only [execOp,Option.map_some,Option.map_none,h1,h2,Sem.run_bind,pzA ht hs (hv v w he rfl) _ _ 0 j (λ cap hc=>obA oZ),Result.andThen_ok,Sem.run_pure,Int.toNat_natCast]) h
theorem nxA {c:Value} {z:Array Value} (hc:c.cells=#[c]) (_hz:z.size=1):Instr.fill (λ i=>some (i*1,1)) ((Array.range (1*1)).map (λ j=>z[j % z.size]!)) [(0,c)]=some #[c]:=by
 have e:Array.range (1*1)=#[0]:=rfl;rw [e];simp [Instr.fill,hc]
theorem hiA {c z:Value} {b:Nat} {e:TypeId} (hg:bmA l E g=some true) (hel:El P t e z 1 b) (hx:opE E x=.val c) (hc:c.cells=#[c]) (h:LA P l wb K rest ((d,.pred (slC 1 1 [c]))::E)) :
 LA P l wb K (⟨some d,.buildSlice t 1 #[(0,x)],ty,pos,after,g⟩::rest) E:=by
 refine bhA (.pred (slC 1 1 [c])) hg (λ a w he hh=>?_) h;have h1:=hh x (by simp [Op.operands]);rw [hx] at h1;simp only [AD.ok] at h1;have hrun:(Instr.buildSlice t 1 #[(0,c)]).run P w=.ok (.slice (some ⟨w.heap.size,0,none⟩) 1 1) (w.alloc (.cells #[c] e)):=by
  simp only [Instr.buildSlice,Sem.run_bind,run_underlying hel.ht,Result.andThen_ok,hel.sizeOf,Nat.reduceMul,Nat.reducePow,gt_iff_lt,Nat.reduceLT,if_false,Sem.run_pure,Nat.reduceEqDiff,hel.zero,nxA hc hel.zs];rfl
 simp only [execOp,List.map_toArray,List.map_cons,List.map_nil,h1,Sem.run_bind,hrun,Result.andThen_ok,Sem.run_pure];refine ⟨Ext.alloc _ _,rfl,_,1,rfl,Nat.le_refl _,by decide,(λ h=>by cases h),.inr ⟨w.heap.size,0,rfl,λ j c' hj=>?_⟩⟩;rw [World.cell?_alloc_at _ _ _ _ rfl]
 match j,hj with
 | 0,hj=>simpa using hj
theorem j8A {w:World} {base e s b n m:Nat} {v vy z:Value} {cs news:List Value} (hel:El P t e z s b) (hown:Own base e s w v n cs) (hy:SlC w vy m s news) (h1:∀ u ∈ news,u.oneCell'=true)
 (h63:n+m≤maxLen) (hbytes:(n+m)*b≤140737488355328) (hbase:base≤w.heap.size) :
 ∃ v' w',(Builtin.append_ #[t,t] ty #[v,vy]).run P w=.ok v' w'∧Own base e s w' v' (n+m) (cs++news)∧w.grownBy w' v.ownBlock:=by
 obtain ⟨i,hi1,hi2,hi3,hi4⟩:=hel.parts;obtain ⟨h0,a,cap,rfl,hc,hm,hn,hcs⟩:=hy;cases a with
 | none =>
   obtain rfl:=hn rfl;obtain rfl:m=0:=oZ;have hnews:news=[]:=List.eq_nil_of_length_eq_zero (by simpa using h0);subst hnews;exact ⟨v,w,run_append_owned_none (P:=P) w base t ty e i s hel.ht hi1 v n cs hown,by simpa using hown,⟨rfl,rfl,rfl,Nat.le_refl _,λ _ _ _=>rfl⟩⟩
 | some a =>
   have hcells:∀ (j:Nat) (u:Value),news[j]?=some u→w.cell? (a.add j)=some u:=λ j u hj=>by
    rcases hcs with rfl|⟨b',off,ha,hc'⟩
    ·have:news=[]:=List.eq_nil_of_length_eq_zero (by simpa using h0)
     subst this;cases hj
    ·obtain rfl:=Option.some.inj ha
     rw [Addr.add_lit];exact hc' j u hj
   obtain ⟨v',w',g1,g2,g3,g4⟩:=run_append_own (P:=P) w base t ty e i z s b hel.ht hi1 hi2 hi3 hi4 hel.zs hel.pos v n cs hown a m cap news h0 hcells h1 h63 hbytes hbase;exact ⟨v',w',g1,g2,g3⟩
theorem cpA {base e s b n m:Nat} {v z:Value} {cs news:List Value} {r:AD} (hg:g=none) (hd:d<N.n) (hel:El P t e z s b) (hx:opE E x=.val v) (hown:Own base e s wb v n cs) (hr:opE E y=r) (hy:HasC wb r m s news)
 (h1:∀ u ∈ news,u.oneCell'=true) (h63:n+m≤maxLen) (hbytes:(n+m)*b≤140737488355328) (hbase:base≤wb.heap.size)
 (h:∀ v' w w',Ext wb w→Own base e s w' v' (n+m) (cs++news)→w.grownBy w' v.ownBlock→LX P N w' l Q rest ((d,.val v')::vals E)) :
 LX P N wb l Q (⟨some d,.call ⟨.builtin .append,#[x,y],#[t,t]⟩,ty,pos,after,g⟩::rest) E:=by
 unfold LX;intro a w st;have e1:=st.opd x;rw [hx] at e1;simp only [AD.ok] at e1;have e2:=st.opd y;rw [hr] at e2;obtain ⟨v',w',g1,g2,g3⟩:=j8A (t:=t) (ty:=ty) hel (hown.ext st.ext) (hy _ _ st.ext e2) h1 h63 hbytes (Nat.le_trans hbase st.ext.size);refine wpList_plain hg λ Kc hK=>?_
 unfold Oper.wp;simp only [execOp,resolve,invoke,builtin,Sem.run_bind,Sem.run_pure,Result.andThen_ok,List.map_toArray,List.map_cons,List.map_nil,e1,g1,Oper.upon];refine hK _ _ ?_
 have h2:=h v' w w' st.ext g2 g3;unfold LX at h2;exact h2 _ _ ((st.vals (w':=w')).push (Ext.refl _) (dst:=some d) (r:=.val v') (λ d' hd'=>by cases hd';exact hd) (.inr rfl))
theorem duA {w0:World} {e b:Nat} {v:Value} {z c:Int} {cs:List Int} {kd:IntKind} (hg:g=none) (hd:d<N.n) (hel:El P t e (.int kd z) 1 b) (hx:opE E x=.val v) (hown:OwnI w0.heap.size e kd wb v cs) (hy:opE E y=.pred (slC 1 1 [.int kd c]))
 (h63:cs.length+1≤9223372036854775807) (hbytes:(cs.length+1)*b≤140737488355328) (hbase:Ext w0 wb)
 (h:∀ v' w',Ext w0 w'→OwnI w0.heap.size e kd w' v' (cs++[c])→LX P N w' l Q rest ((d,.val v')::vals E)) :
 LX P N wb l Q (⟨some d,.call ⟨.builtin .append,#[x,y],#[t,t]⟩,ty,pos,after,g⟩::rest) E :=
 cpA hg hd hel hx hown hy HasC.pred (by simp [Value.oneCell']) (by unfold maxLen;omega) hbytes hbase.size (λ v' w w' he ho hgr=>by
  refine h v' w' ((hbase.trans he).grown hgr (λ k hk=>(Own.lt hown k hk).1)) ?_
  unfold OwnI
  simpa using ho)
def weA (base:Nat) (cs:Array Value) (e:TypeId):AV:=⟨λ v w=>∃ b,base≤b∧v=.pointer (some ⟨b,0,none⟩)∧w.heap[b]?=some (.cells cs e (0,0)),
 λ _ _ _ x ⟨b,h1,h2,h3⟩=>⟨b,h1,h2,x.block h3⟩⟩
theorem b4A {e:TypeId} {z:Value} (hg:bmA l E g=some true) (hz:∀ w,(zeroValue e).run P w=.ok z w) (h:LA P l wb K rest ((d,.pred (weA wb.heap.size z.cells e))::E)) :
 LA P l wb K (⟨some d,.alloc e,ty,pos,after,g⟩::rest) E :=
 bhA _ hg (λ a w he hh=>by
  have hrun:(Instr.alloc e true (.tuple #[])).run P w=.ok (.pointer (some ⟨w.heap.size,0,none⟩)) (w.alloc (.cells z.cells e)):=by
   simp only [Instr.alloc,Sem.run_bind,hz,Result.andThen_ok];rfl
  simp only [execOp,Sem.run_bind,hrun,Result.andThen_ok,Sem.run_pure];exact ⟨Ext.alloc _ _,w.heap.size,he.size,rfl,heap_alloc_new w _⟩) h
theorem j3A {e:TypeId} {c:Value} (hg:bmA l E g=some true) (hx:opE E x=.val c) (h:LA P l wb K rest ((d,.pred (weA wb.heap.size c.cells e))::E)) :
 LA P l wb K (⟨some d,.box e x,ty,pos,after,g⟩::rest) E :=
 bhA _ hg (λ a w he hh=>by
  have h0:=hh x (by simp [Op.operands]);rw [hx] at h0;simp only [AD.ok] at h0;have hrun:(Instr.box e c).run P w=.ok (.pointer (some ⟨w.heap.size,0,none⟩)) (w.alloc (.cells c.cells e)):=rfl;simp only [execOp,h0,Sem.run_bind,hrun,Result.andThen_ok,Sem.run_pure];exact ⟨Ext.alloc _ _,w.heap.size,he.size,rfl,heap_alloc_new w _⟩) h
theorem Ext.setRow {w0 w:World} (h:Ext w0 w) {b:Nat} (hb:w0.heap.size≤b) (cs:Array Value):Ext w0 (w.setRow b cs) :=
 Below.trans h ⟨rfl,rfl,rfl,by simp,λ k hk=>setRow_other w b k cs oZ⟩
theorem Own.setRow {base e s n:Nat} {w:World} {v:Value} {cs:List Value} (h:Own base e s w v n cs) {b:Nat} (cur:Array Value) (hne:v.ownBlock≠some b):Own base e s (w.setRow b cur) v n cs:=by
 refine ⟨h.1,?_⟩
 rcases h.2 with hn|⟨g,cap,cur',rfl,hb',hg,r⟩
 ·exact .inl hn
 ·refine .inr ⟨g,cap,cur',rfl,hb',?_,r⟩
  rw [setRow_other w b g cur (λ e=>hne (by simp [Value.ownBlock,e]))];exact hg
theorem ggA {b:Nat} {cur:Array Value} {e:TypeId} {c:Value} (hg:g=none) (hx:opE E x=.val (.pointer (some ⟨b,0,none⟩))) (hy:opE E y=.val c) (hb:wb.heap[b]?=some (.cells cur e (0,0)))
 (hs:∀ w,(sizeOf t).run P w=.ok c.cells.size w) (hfit:c.cells.size=cur.size) (h1:∀ u ∈ c.cells.toList,u.oneCell'=true) (h:∀ w,Ext wb w→LX P N (w.setRow b c.cells) l Q rest (vals E)) :
 LX P N wb l Q (⟨none,.store t x y,ty,pos,after,g⟩::rest) E:=by
 unfold LX;intro a w st;have e1:=st.opd x;rw [hx] at e1;simp only [AD.ok] at e1;have e2:=st.opd y;rw [hy] at e2;simp only [AD.ok] at e2;have hrun:(Instr.storeAt t (.pointer (some ⟨b,0,none⟩)) c).run P w=.ok () (w.setRow b c.cells):=by
  have hst:=run_storeCells_at P b 0 e c.cells.toList 0 cur w (st.ext.block hb) (by simp [hfit]) h1;have e3:(cur.toList.take (0+0)++c.cells.toList++cur.toList.drop (0+0+c.cells.toList.length)).toArray=c.cells:=by
   rw [List.drop_eq_nil_of_le (by simp [hfit])];simp
  rw [e3] at hst;simp only [Instr.storeAt,Instr.sureAddr,storeVar,Sem.run_bind,Sem.run_pure,Result.andThen_ok,hs,ne_eq,not_true_eq_false,if_false,hst]
 refine wpList_plain hg λ Kc hK=>?_
 unfold Oper.wp;simp only [execOp,Sem.run_bind,e1,e2,hrun,Result.andThen_ok,Sem.run_pure,Oper.upon];refine hK _ _ ?_
 have h2:=h w st.ext;unfold LX at h2;exact h2 _ _ (st.vals (w':=w.setRow b c.cells))
theorem dvA {b n s o:Nat} {e:TypeId} {i:Int} (hg:bmA l E g=some true) (ht:P.underlying t=some (.array n e)) (hs:∀ w,(sizeOf e).run P w=.ok s w) (hx:opE E x=.val (.pointer (some ⟨b,o,none⟩)))
 (hi:opE E y=.val (.int k i)) (j:Nat) (hj:i=j) (hn:j<n) (h:LA P l wb K rest ((d,.val (.pointer (some ⟨b,o+j*s,none⟩)))::E)):LA P l wb K (⟨some d,.indexAddr t x y,ty,pos,after,g⟩::rest) E :=
 bhA _ hg (bwA λ a w he hh=>by
  have h1:=hh x (by simp [Op.operands]);have h2:=hh y (by simp [Op.operands]);rw [hx] at h1;rw [hi] at h2;simp only [AD.ok] at h1 h2;subst hj;have hrun:(Instr.indexAt t (.pointer (some ⟨b,o,none⟩)) (.int k (j:Int))).run P w=.ok (.pointer (some (Addr.add ⟨b,o,none⟩ (j*s)))) w:=by
   simp [Instr.indexAt,run_underlying ht,asIntOf,hs,hn,Instr.sureAddr]
  simp only [execOp,h1,h2,Sem.run_bind,hrun,Result.andThen_ok,Sem.run_pure,Addr.add_lit]) h
theorem a5A {b o:Nat} {cs:Array Value} {e:TypeId} {c:Value} (hg:bmA l E g=some true) (ht:∀ w,(isAgg t).run P w=.ok false w) (hx:opE E x=.val (.pointer (some ⟨b,o,none⟩))) (hb:wb.heap[b]?=some (.cells cs e (0,0))) (hc:cs[o]?=some c)
 (h:LA P l wb K rest ((d,.val c)::E)):LA P l wb K (⟨some d,.load t x,ty,pos,after,g⟩::rest) E :=
 kyA hg ht hx (by rw [cell_of_row wb b o cs e (0,0) hb];exact hc) h
theorem b2A {b:Nat} {cs:Array Value} {e:TypeId} (hg:bmA l E g=some true) (ht:∀ w,(isAgg t).run P w=.ok true w) (hs:∀ w,(sizeOf t).run P w=.ok cs.size w) (hx:opE E x=.val (.pointer (some ⟨b,0,none⟩))) (hb:wb.heap[b]?=some (.cells cs e (0,0)))
 (h:LA P l wb K rest ((d,.val (.agg cs))::E)):LA P l wb K (⟨some d,.load t x,ty,pos,after,g⟩::rest) E :=
 bhA _ hg (bwA λ a w he hh=>by
  have h1:=hh x (by simp [Op.operands]);rw [hx] at h1;simp only [AD.ok] at h1;have hl:=run_loadCells_list (P:=P) w ⟨b,0,none⟩ cs.toList (λ j v hj=>by
   rw [Addr.add_lit,cell_of_row w b (0+j) cs e (0,0) (he.block hb)];simpa using hj)
  simp only [Array.length_toList,Array.toArray_toList] at hl;simp only [execOp,h1,Instr.loadAt,Instr.sureAddr,loadVar,Sem.run_bind,Sem.run_pure,Result.andThen_ok,ht,if_true,hs,hl]) h
theorem m1A {x0:Operand} {v0:Value} {j0:Nat} {c:Value} (hg:bmA l E g=some true) (h0:opE E x0=.val v0) (hr:∀ w,(Instr.build t #[(j0,v0)]).run P w=.ok c w) (h:LA P l wb K rest ((d,.val c)::E)) :
 LA P l wb K (⟨some d,.build t #[(j0,x0)],ty,pos,after,g⟩::rest) E :=
 bhA _ hg (bwA λ a w he hh=>by
  have e0:=hh x0 (by simp [Op.operands]);rw [h0] at e0;simp only [AD.ok] at e0;simp only [execOp,List.map_toArray,List.map_cons,List.map_nil,Sem.run_bind,e0,hr,Result.andThen_ok,Sem.run_pure]) h
theorem cqA {x0 x1:Operand} {v0 v1:Value} {j0 j1:Nat} {c:Value} (hg:bmA l E g=some true) (h0:opE E x0=.val v0) (h1:opE E x1=.val v1) (hr:∀ w,(Instr.build t #[(j0,v0),(j1,v1)]).run P w=.ok c w) (h:LA P l wb K rest ((d,.val c)::E)) :
 LA P l wb K (⟨some d,.build t #[(j0,x0),(j1,x1)],ty,pos,after,g⟩::rest) E :=
 bhA _ hg (bwA λ a w he hh=>by
  have e0:=hh x0 (by simp [Op.operands]);rw [h0] at e0;simp only [AD.ok] at e0;have e1:=hh x1 (by simp [Op.operands]);rw [h1] at e1;simp only [AD.ok] at e1;simp only [execOp,List.map_toArray,List.map_cons,List.map_nil,Sem.run_bind,e0,e1,hr,Result.andThen_ok,Sem.run_pure]) h
theorem c0A {x0 x1 x2:Operand} {v0 v1 v2:Value} {j0 j1 j2:Nat} {c:Value} (hg:bmA l E g=some true) (h0:opE E x0=.val v0) (h1:opE E x1=.val v1) (h2:opE E x2=.val v2) (hr:∀ w,(Instr.build t #[(j0,v0),(j1,v1),(j2,v2)]).run P w=.ok c w) (h:LA P l wb K rest ((d,.val c)::E)) :
 LA P l wb K (⟨some d,.build t #[(j0,x0),(j1,x1),(j2,x2)],ty,pos,after,g⟩::rest) E :=
 bhA _ hg (bwA λ a w he hh=>by
  have e0:=hh x0 (by simp [Op.operands]);rw [h0] at e0;simp only [AD.ok] at e0;have e1:=hh x1 (by simp [Op.operands]);rw [h1] at e1;simp only [AD.ok] at e1;have e2:=hh x2 (by simp [Op.operands]);rw [h2] at e2;simp only [AD.ok] at e2;simp only [execOp,List.map_toArray,List.map_cons,List.map_nil,Sem.run_bind,e0,e1,e2,hr,Result.andThen_ok,Sem.run_pure]) h
end
def IsRow (k:IntKind) (w:World) (a:Option Addr) (len cap:Nat) (zs:List Int):Prop :=
 (a=none∧len=0∧cap=0∧zs=[]) ∨
 ∃ x,a=some x∧len≤cap∧cap≤maxLen∧zs.length=cap∧(∀ i,i<zs.length→w.cell? (x.add i)=some (.int k (zs.getD i 0)))∧∀ n ∈ zs,(Lit.int k n).wf=true
theorem isRow_sl {k:IntKind} {w:World} {a:Option Addr} {len cap:Nat} {zs:List Int} (h:IsRow k w a len cap zs):SlI k w (.slice a len cap) (zs.take len)∧(zs.take len).length=len∧∀ n ∈ zs.take len,(Lit.int k n).wf=true:=by
 rcases h with ⟨rfl,rfl,rfl,rfl⟩|⟨x,rfl,hl,hm,hz,hc,hw⟩
 ·exact ⟨⟨rfl,none,0,rfl,Nat.le_refl _,Nat.zero_le _,λ _=>rfl,.inl rfl⟩,rfl,λ n hn=>by cases hn⟩
 ·have e:(zs.take len).length=len:=by simp;omega
  refine ⟨⟨by simp,some x,cap,by rw [e],by omega,hm,(λ h=>by cases h),?_⟩,e,λ n hn=>hw n (List.mem_of_mem_take hn)⟩
  by_cases h0:len=0
  ·left;omega
  ·right
   have hx:=hc 0 oZ;obtain ⟨b,off,spot⟩:=x;have hs:spot=none:=by
    cases spot with
    | none=>rfl
    | some s =>
      exfalso
      rw [Addr.add_zero'] at hx;simp only [World.cell?] at hx
      split at hx <;> simp at hx
   subst hs;refine ⟨b,off,rfl,λ j c hj=>?_⟩;rw [List.getElem?_map,List.getElem?_take] at hj
   split at hj
   ·rename_i hjl
    have:=hc j oZ;rw [Addr.add_lit] at this;rw [this];simp [List.getElem?_eq_getElem (by omega:j<zs.length)] at hj;simp [List.getD,List.getElem?_eq_getElem (by omega:j<zs.length),hj]
   ·cases hj
theorem adB {k:IntKind} {n:Int} (h:(Lit.int k n).wf=true):k.min≤n∧n≤k.max:=by simpa [Lit.wf] using h
theorem wf_u8 {n:Int} (h:(Lit.int .u8 n).wf=true):0≤n∧n<256:=by
 have h1:=adB h;have e1:IntKind.u8.min=0:=dZ;have e2:IntKind.u8.max=255:=dZ;omega
theorem wf_u16 {n:Int} (h:(Lit.int .u16 n).wf=true):0≤n∧n<65536:=by
 have h1:=adB h;have e1:IntKind.u16.min=0:=dZ;have e2:IntKind.u16.max=65535:=dZ;omega
theorem wf_u32 {n:Int} (h:(Lit.int .u32 n).wf=true):0≤n∧n<4294967296:=by
 have h1:=adB h;have e1:IntKind.u32.min=0:=dZ;have e2:IntKind.u32.max=4294967295:=dZ;omega
theorem wf_u64 {n:Int} (h:(Lit.int .u64 n).wf=true):0≤n∧n<18446744073709551616:=by
 have h1:=adB h;have e1:IntKind.u64.min=0:=dZ;have e2:IntKind.u64.max=18446744073709551615:=dZ;omega
theorem wf_i64 {n:Int} (h:(Lit.int .i64 n).wf=true):-9223372036854775808≤n∧n<9223372036854775808:=by
 have h1:=adB h;have e1:IntKind.i64.min=-9223372036854775808:=dZ;have e2:IntKind.i64.max=9223372036854775807:=dZ;omega
theorem ret_said {w:World} (en:Ending) (w':World) (h:Ret w (.val (.bool true)) en w'):en=.returned (.bool true)∧Below w.heap.size w w':=by
 obtain ⟨v,h1,h2,h3⟩:=h;have h3:v=.bool true:=h3;subst h3;exact ⟨h1,h2⟩
end Go.LA
end
section
namespace Go.LA
open Go.RowKit
section
variable {P:Program} {l:List Oper} {N:Nn} {wb:World} {K:List Oper→Env→Prop} {rest:List Oper} {E:Env} {Q:Exit→Act→World→Prop}
variable {d:Tmp} {ty t t':TypeId} {pos:String} {after:Array Edge} {g:Option (Nat × Bool)} {x y z:Operand} {k k':IntKind}
theorem i5A {w:World} {u:Value} {m s j:Nat} {xs:List Value} (h:SlC w u m s xs) (hj:j≤m):(Builtin.firstCells s j u).run P w=.ok (xs.take (j*s)).toArray w:=by
 obtain ⟨h0,a,cap,rfl,hc,hm,hn,hcs⟩:=h;have hlen:(xs.take (j*s)).length=j*s:=by
  rw [List.length_take,h0];exact Nat.min_eq_left (Nat.mul_le_mul_right _ hj)
 cases a with
 | none =>
   obtain rfl:=hn rfl;obtain rfl:m=0:=oZ;obtain rfl:j=0:=oZ;simp [Builtin.firstCells]
 | some a =>
   show (loadCells a (j*s)).run P w=_
   rw [← hlen];rw [run_loadCells_list w a (xs.take (j*s)) (λ i v hv=>?_)]
   ·rw [hlen]
   ·rw [List.getElem?_take] at hv
    split at hv
    ·rcases hcs with rfl|⟨b,off,ha,hc'⟩
     ·have:j=0:=oZ
      subst this;simp at *
     ·obtain rfl:=Option.some.inj ha
      rw [Addr.add_lit];exact hc' i v hv
    ·cases hv
theorem lcA {w:World} {base e s n m:Nat} {v u z:Value} {b:Nat} {cs xs:List Value} (hel:El P t e z s b) (hown:Own base e s w v n cs) (hsrc:SlC w u m s xs) (i:Nat) (hi:i≤n) (h1:∀ c ∈ xs.take (min m (n-i)*s),c.oneCell'=true) (tt:TypeId) :
 ∃ w',(Builtin.copy_ #[t,tt] ty #[epA v i n s,u]).run P w=.ok (goInt ((min m (n-i):Nat):Int)) w' ∧
  Own base e s w' v n (cs.take (i*s)++xs.take (min m (n-i)*s)++cs.drop ((i+min m (n-i))*s))∧w.grownBy w' v.ownBlock:=by
 have hlen:∀ u',(∃ a c,u'=Value.slice a m c)→(Builtin.lenOf u').run P w=.ok m w:=by rintro _ ⟨a,c,rfl⟩;rfl
 have hf:=i5A (P:=P) hsrc (Nat.min_le_left m (n-i));have hcl:=hown.1
 rcases hown.2 with ⟨rfl,rfl⟩|⟨gb,cap,cur,rfl,hb,hg,hnc,hm,hsz,htake⟩
 ·obtain rfl:i=0:=oZ
  refine ⟨w,?_,?_,⟨rfl,rfl,rfl,Nat.le_refl _,λ _ _ _=>rfl⟩⟩
  ·simp only [Nat.zero_sub,Nat.min_zero,Nat.sub_zero] at hf ⊢
   have e1:epA (.slice none 0 0) 0 0 s=.slice none 0 0:=by simp [epA,sliced]
   rw [e1];simp only [Builtin.copy_,Sem.run_bind,run_underlying hel.ht,Result.andThen_ok,hlen u hsrc.isSlice,hel.sizeOf];simp [run_underlying hel.ht,hlen u hsrc.isSlice,hel.sizeOf,hf]
  ·have:cs=[]:=List.eq_nil_of_length_eq_zero (by simpa using hcl)
   subst this
   simpa using hown
 ·have hks:(xs.take (min m (n-i)*s)).length=min m (n-i)*s:=by
   rw [List.length_take,hsrc.1];exact Nat.min_eq_left (Nat.mul_le_mul_right _ (Nat.min_le_left _ _))
  have hle:i*s+min m (n-i)*s≤n*s:=by
   rw [← Nat.add_mul];exact Nat.mul_le_mul_right _ oZ
  have hcap:n*s≤cap*s:=Nat.mul_le_mul_right _ hnc;have hst:=run_storeCells_at P gb (i*s) e (xs.take (min m (n-i)*s)) 0 cur w hg (by rw [hks,hsz];omega) h1;simp only [Nat.add_zero,hks] at hst;refine ⟨w.setRow gb (cur.toList.take (i*s)++xs.take (min m (n-i)*s)++cur.toList.drop (i*s+min m (n-i)*s)).toArray,?_,?_,?_⟩
  ·by_cases hci:cap=i
   ·have e0:min m (n-i)=0:=oZ
    rw [e0] at hst hf ⊢;simp only [Nat.zero_mul,List.take_zero,List.append_nil,Nat.add_zero,List.take_append_drop,Array.toArray_toList] at hst hf ⊢;rw [setRow_self w gb cur e (0,0) hg];have e1:epA (.slice (some ⟨gb,0,none⟩) n cap) i n s=.slice (some ⟨gb,0,none⟩) (n-i) (cap-i):=by simp only [epA,sliced];rw [if_pos hci]
    rw [e1];simp only [Builtin.copy_,Sem.run_bind,run_underlying hel.ht,Result.andThen_ok,hlen u hsrc.isSlice,hel.sizeOf,List.getElem?_toArray,List.getElem?_cons_zero,List.getElem?_cons_succ,Nat.min_eq_min,e0,hf,storeCells];simp [storeCells]
   ·have e1:epA (.slice (some ⟨gb,0,none⟩) n cap) i n s=.slice (some ⟨gb,i*s,none⟩) (n-i) (cap-i):=by simp only [epA,sliced];rw [if_neg hci];simp [Addr.add_lit]
    rw [e1];simp only [Builtin.copy_,Sem.run_bind,run_underlying hel.ht,Result.andThen_ok,hlen u hsrc.isSlice,hel.sizeOf,List.getElem?_toArray,List.getElem?_cons_zero,List.getElem?_cons_succ,Nat.min_eq_min,hf,hst];simp [hst]
  ·refine ⟨?_,.inr ⟨gb,cap,_,rfl,hb,setRow_heap w gb cur _ e _ hg,hnc,hm,?_,?_⟩⟩
   ·simp only [List.length_append,List.length_take,List.length_drop,hcl,hks,hsrc.1,Nat.add_mul]
    have:=Nat.min_eq_left (Nat.mul_le_mul_right s (Nat.min_le_left m (n-i)));omega
   ·simp only [List.size_toArray,List.length_append,List.length_take,List.length_drop,Array.length_toList,hsz,hks,hsrc.1]
    have:=Nat.min_eq_left (Nat.mul_le_mul_right s (Nat.min_le_left m (n-i)));omega
   ·rw [← htake]
    have l1:(cur.toList.take (i*s)).length=i*s:=by rw [List.length_take,Array.length_toList,hsz];omega
    simp only [List.take_take,Nat.add_mul];rw [List.take_append,List.take_append,List.length_append,l1,hks,Nat.min_eq_left (by omega:i*s≤n*s)];rw [List.take_of_length_le (by omega:(cur.toList.take (i*s)).length≤n*s),List.take_of_length_le (by omega:(xs.take (min m (n-i)*s)).length≤n*s-i*s),List.drop_take]
  ·exact ⟨rfl,rfl,rfl,by simp,λ k _ hk=>setRow_other w gb k _ (λ e=>hk (by simp [Value.ownBlock,e]))⟩
theorem i6A {w:World} {e s b n kn:Nat} {v z:Value} {cap:Nat} {a:Option Addr} {cs:List Value} {tn:TypeId} {kd kd':IntKind} (hel:El P t e z s b) (htn:P.underlying tn=some (.int kd')) (hv:SlC w (.slice a n cap) n s cs) (hroom:cap<n+kn) (hk:0<kn)
 (hz1:∀ c ∈ z.cells.toList,c.oneCell'=true) (hbytes:(n+kn)*b≤140737488355328) (h63:n+kn≤9223372036854775807) :
 ∃ (v':Value) (w':World) (zs:List Value),(Builtin.append_ #[t,tn] ty #[.slice a n cap,.int kd (kn:Int)]).run P w=.ok v' w'∧zs.length=kn*s∧(∀ c ∈ zs,c.oneCell'=true)∧Own w.heap.size e s w' v' (n+kn) (cs++zs)∧Ext w w':=by
 obtain ⟨i,hi1,hi2,hi3,hi4⟩:=hel.parts;have hf:=i5A (P:=P) hv (Nat.le_refl n);have hcl:=hv.1;have hle1:kn*b≤(n+kn)*b:=Nat.mul_le_mul_right _ oZ;have hw:IntKind.i64.wrap (kn:Int)=kn:=by rw [IntKind.wrap_i64];omega
 have hneg:¬ ((kn:Int)<0):=oZ;have h48i:¬ (281474976710656<(kn:Int)*(i.bytes:Int)):=by
  rw [hi4,← Int.natCast_mul];omega
 have h48:=growslice_fits (old:=cap) (need:=n+kn) (bytes:=i.bytes) oZ (by rw [hi4];exact hbytes);have hneed:¬ (n+kn≤cap):=oZ;have hns:¬ (kn*i.size=0):=by rw [hi3];exact Nat.mul_ne_zero oZ (by have:=hel.pos;omega)
 have hzc:∀ j,(Builtin.zeroCells z.cells j).toList.length=j*s:=λ j=>by simp [Builtin.zeroCells,hel.zs]
 have hz1':∀ j,∀ c ∈ (Builtin.zeroCells z.cells j).toList,c.oneCell'=true:=λ j c hc=>by
  simp only [Builtin.zeroCells,Array.toList_map,List.mem_map] at hc;obtain ⟨q,_,rfl⟩:=hc;refine hz1 _ ?_
  have:q % z.cells.size<z.cells.size:=Nat.mod_lt _ (by rw [hel.zs];exact hel.pos);rw [getElem!_pos z.cells _ this];simp
 refine ⟨.slice (some ⟨w.heap.size,0,none⟩) (n+kn) (grownCap w (n+kn) cap e),w.drew.alloc (.cells (cs.toArray++Builtin.zeroCells z.cells kn++Builtin.zeroCells z.cells (grownCap w (n+kn) cap e-(n+kn))) e),(Builtin.zeroCells z.cells kn).toList,?_,hzc kn,hz1' kn,?_,?_⟩
 ·have hf':(Builtin.firstCells i.size n (.slice a n cap)).run P w.drew=.ok cs.toArray w.drew:=by
   have:=i5A (P:=P) (w:=w.drew) (hv.ext ⟨rfl,rfl,rfl,Nat.le_refl _,λ _ _=>rfl⟩) (Nat.le_refl n);rw [hi3];rw [List.take_of_length_le (by rw [hcl];exact Nat.le_refl _)] at this;exact this
  have h64:¬ (9223372036854775807<((n+kn:Nat):Int)):=oZ;simp [Builtin.append_,run_underlying hel.ht,run_underlying htn,sizeOf,typeInfo,zeroValue,hi1,hi2,asInt,asIntOf,hw,hneg,h48i,hneed,hns,h48,Question.forced,newRow,grownCap,hf'];rw [if_neg oZ,if_neg oZ]
 ·exact ⟨by rw [List.length_append,hcl,hzc,Nat.add_mul],.inr ⟨w.heap.size,grownCap w (n+kn) cap e,_,rfl,Nat.le_refl _,heap_alloc_new w.drew _,grownCap_ge ..,grownCap_le_maxLen _ _ _ _ (by unfold maxLen;omega),by
   have:=grownCap_ge w (n+kn) cap e;simp [hcl,Builtin.zeroCells,hel.zs];rw [← Nat.add_assoc,← Nat.add_mul,← Nat.add_mul];congr 1;omega,by
   have l1:(cs++(Builtin.zeroCells z.cells kn).toList).length=(n+kn)*s:=by rw [List.length_append,hcl,hzc,Nat.add_mul]
   rw [Array.toList_append,Array.toList_append];rw [List.take_append_of_le_length (by rw [← l1];simp),List.take_of_length_le (by rw [← l1];simp)]⟩⟩
 ·exact ⟨rfl,rfl,rfl,by simp,λ k hk=>heap_alloc_old w.drew _ hk⟩
theorem vyA {c:Code} (h:CX P N wb c E (Exit.noGoto Q)):CX P N wb (.scope c) E Q:=by unfold CX at *;exact λ a w st=>wp_scope_straight (h a w st)
theorem s1A (h:PX N wb Q .ret E):PX N wb (Exit.noGoto Q) .ret E:=by unfold PX at *;exact h
theorem cwA {a b:Int} {ats:Array TypeId} (hg:bmA l E g=some true) (hx:opE E x=.val (.int k a)) (hy:opE E y=.val (.int k' b)) (h:LA P l wb K rest ((d,.val (.int k (min a b)))::E)) :
 LA P l wb K (⟨some d,.call ⟨.builtin .min,#[x,y],ats⟩,ty,pos,after,g⟩::rest) E :=
 bhA _ hg (bwA λ ac w he hh=>by
  have e1:=hh x (by simp [Op.operands,Call.operands]);have e2:=hh y (by simp [Op.operands,Call.operands]);rw [hx] at e1;rw [hy] at e2;simp only [AD.ok] at e1 e2;have:(Builtin.min_ ats ty #[.int k a,.int k' b]).run P w=.ok (.int k (min a b)) w:=by
   simp only [Builtin.min_,List.foldlM,Builtin.min2];have:(if b<a then b else a)=min a b:=oZ;simp [this]
  simp only [execOp,resolve,Sem.run_bind,Sem.run_pure,Result.andThen_ok,List.map_toArray,List.map_cons,List.map_nil,e1,e2,invoke,builtin,this]) h
theorem f7A {a b:Int} {ats:Array TypeId} (hg:bmA l E g=some true) (hx:opE E x=.val (.int k a)) (hy:opE E y=.val (.int k' b)) (h:LA P l wb K rest ((d,.val (.int k (max a b)))::E)) :
 LA P l wb K (⟨some d,.call ⟨.builtin .max,#[x,y],ats⟩,ty,pos,after,g⟩::rest) E :=
 bhA _ hg (bwA λ ac w he hh=>by
  have e1:=hh x (by simp [Op.operands,Call.operands]);have e2:=hh y (by simp [Op.operands,Call.operands]);rw [hx] at e1;rw [hy] at e2;simp only [AD.ok] at e1 e2;have:(Builtin.max_ ats ty #[.int k a,.int k' b]).run P w=.ok (.int k (max a b)) w:=by
   simp only [Builtin.max_,List.foldlM,Builtin.max2];have:(if b > a then b else a)=max a b:=oZ;simp [this]
  simp only [execOp,resolve,Sem.run_bind,Sem.run_pure,Result.andThen_ok,List.map_toArray,List.map_cons,List.map_nil,e1,e2,invoke,builtin,this]) h
theorem j2A {e:TypeId} {a:Option Addr} {n c:Nat} (hg:bmA l E g=some true) (ht:P.underlying t=some (.slice e)) (hx:opE E x=.val (.slice a n c)) (h:LA P l wb K rest ((d,.val (.int .i64 c))::E)) :
 LA P l wb K (⟨some d,.call ⟨.builtin .cap,#[x],#[t]⟩,ty,pos,after,g⟩::rest) E :=
 bhA _ hg (bwA λ ac w he hh=>by
  have e1:=hh x (by simp [Op.operands,Call.operands]);rw [hx] at e1;simp only [AD.ok] at e1;have:(Builtin.cap_ #[t] ty #[.slice a n c]).run P w=.ok (goInt c) w:=by simp [Builtin.cap_,run_underlying ht]
  simp only [execOp,resolve,Sem.run_bind,Sem.run_pure,Result.andThen_ok,List.map_toArray,List.map_cons,List.map_nil,e1,invoke,builtin,this];rfl) h
theorem ejA {c:Value} (hg:bmA l E g=some true) (hr:∀ w,(Instr.build t #[]).run P w=.ok c w) (h:LA P l wb K rest ((d,.val c)::E)) :
 LA P l wb K (⟨some d,.build t #[],ty,pos,after,g⟩::rest) E :=
 bhA _ hg (bwA λ a w he hh=>by
  have:=hr w;simp only [execOp,List.map_toArray,List.map_nil,Sem.run_bind,this,Result.andThen_ok,Sem.run_pure]) h
theorem a1A {a a':Addr} {f:Nat} (hg:bmA l E g=some true) (hx:opE E x=.val (.pointer (some a))) (hr:∀ w,(Instr.fieldAt t (.pointer (some a)) f).run P w=.ok (.pointer (some a')) w)
 (h:LA P l wb K rest ((d,.val (.pointer (some a')))::E)):LA P l wb K (⟨some d,.fieldAddr t x f,ty,pos,after,g⟩::rest) E :=
 bhA _ hg (bwA λ ac w he hh=>by
  have e1:=hh x (by simp [Op.operands]);rw [hx] at e1;simp only [AD.ok] at e1;simp only [execOp,Sem.run_bind,e1,hr,Result.andThen_ok,Sem.run_pure]) h
theorem afA {a:Addr} (hg:bmA l E g=some true) (hx:opE E x=.val (.pointer (some a))) (h:LA P l wb K rest ((d,.val (.pointer (some a)))::E)) :
 LA P l wb K (⟨some d,.nilCheck x,ty,pos,after,g⟩::rest) E :=
 bhA _ hg (bwA λ ac w he hh=>by
  have e1:=hh x (by simp [Op.operands]);rw [hx] at e1;simp only [AD.ok] at e1;simp only [execOp,e1,Sem.run_pure]) h
theorem blA {op:BinOp} {u v c:Value} (hg:bmA l E g=some true) (hx:opE E x=.val u) (hy:opE E y=.val v) (hr:∀ w,(do eqGuard op t x y u v;binOp op t u v:Sem Value).run P w=.ok c w)
 (h:LA P l wb K rest ((d,.val c)::E)):LA P l wb K (⟨some d,.binOp op t x y t',ty,pos,after,g⟩::rest) E :=
 bhA _ hg (bwA λ ac w he hh=>by
  have e1:=hh x (by simp [Op.operands]);have e2:=hh y (by simp [Op.operands]);rw [hx] at e1;rw [hy] at e2;simp only [AD.ok] at e1 e2;have:=hr w;simp only [execOp,Sem.run_bind,e1,e2,Result.andThen_ok,Sem.run_pure] at this ⊢;rw [this];rfl) h
theorem d2A {b off n cap s:Nat} {e:TypeId} {i:Int} (hg:bmA l E g=some true) (ht:P.underlying t=some (.slice e)) (hs:∀ w,(sizeOf e).run P w=.ok s w) (hx:opE E x=.val (.slice (some ⟨b,off,none⟩) n cap))
 (hy:opE E y=.val (.int k i)) (h0:0≤i) (h1:i<n) (h:LA P l wb K rest ((d,.val (.pointer (some ⟨b,off+i.toNat*s,none⟩)))::E)) :
 LA P l wb K (⟨some d,.indexAddr t x y,ty,pos,after,g⟩::rest) E :=
 bhA _ hg (bwA λ a w he hh=>by
  have e1:=hh x (by simp [Op.operands]);have e2:=hh y (by simp [Op.operands]);rw [hx] at e1;rw [hy] at e2;simp only [AD.ok] at e1 e2;obtain ⟨j,rfl⟩:∃ j:Nat,i=j:=⟨i.toNat,by omega⟩;have hn:j<n:=oZ;have hrun:(Instr.indexAt t (.slice (some ⟨b,off,none⟩) n cap) (.int k (j:Int))).run P w=.ok (.pointer (some (Addr.add ⟨b,off,none⟩ (j*s)))) w:=by
   simp [Instr.indexAt,run_underlying ht,asIntOf,hs,hn,Instr.sureAddr]
  simp only [execOp,e1,e2,Sem.run_bind,hrun,Result.andThen_ok,Sem.run_pure,Addr.add_lit,Int.toNat_natCast]) h
theorem OwnI.row {base e:Nat} {kd:IntKind} {w:World} {v:Value} {xs:List Int} (h:OwnI base e kd w v xs) (hp:0<xs.length) :
 ∃ b cap cur,v=.slice (some ⟨b,0,none⟩) xs.length cap∧base≤b∧w.heap[b]?=some (.cells cur e (0,0))∧xs.length≤cap∧cap≤maxLen∧cur.size=cap∧cur.toList.take xs.length=xs.map (Value.int kd):=by
 rcases h.2 with ⟨_,h0⟩|⟨gb,cap,cur,h1,hb,hg,hnc,hm,hsz,htake⟩
 ·omega
 ·exact ⟨gb,cap,cur,h1,hb,hg,hnc,hm,by simpa using hsz,by simpa using htake⟩
theorem OwnI.set {base e b cap:Nat} {kd:IntKind} {w:World} {cur:Array Value} {xs:List Int} (hb:base≤b) (hg:w.heap[b]?=some (.cells cur e (0,0))) (hnc:xs.length≤cap) (hm:cap≤maxLen) (hsz:cur.size=cap) (ht:cur.toList.take xs.length=xs.map (Value.int kd)) (i:Nat) (hi:i<xs.length) (c:Int) :
 OwnI base e kd (w.setRow b (cur.setIfInBounds i (.int kd c))) (.slice (some ⟨b,0,none⟩) xs.length cap) (xs.set i c):=by
 refine ⟨by simp,.inr ⟨b,cap,cur.setIfInBounds i (.int kd c),by simp,hb,setRow_heap w b cur _ e _ hg,by simpa using hnc,hm,by simpa using hsz,?_⟩⟩;rw [Array.toList_setIfInBounds,List.map_set,← ht];simp only [Nat.mul_one,List.length_set];rw [List.take_set]
theorem d1A {b o:Nat} {cur:Array Value} {e:TypeId} {c:Value} (hg:g=none) (hx:opE E x=.val (.pointer (some ⟨b,o,none⟩))) (hy:opE E y=.val c) (hb:wb.heap[b]?=some (.cells cur e (0,0)))
 (hs:∀ w,(sizeOf t).run P w=.ok 1 w) (ho:o<cur.size) (hc:c.cells=#[c]) (h1:c.oneCell'=true) (h:∀ w,Ext wb w→LX P N (w.setRow b (cur.setIfInBounds o c)) l Q rest (vals E)) :
 LX P N wb l Q (⟨none,.store t x y,ty,pos,after,g⟩::rest) E:=by
 unfold LX;intro a w st;have e1:=st.opd x;rw [hx] at e1;simp only [AD.ok] at e1;have e2:=st.opd y;rw [hy] at e2;simp only [AD.ok] at e2;have hrun:(Instr.storeAt t (.pointer (some ⟨b,o,none⟩)) c).run P w=.ok () (w.setRow b (cur.setIfInBounds o c)):=by
  have hst:=run_storeCells_at P b o e [c] 0 cur w (st.ext.block hb) (by simp;omega) (by simpa using h1);have e3:(cur.toList.take (o+0)++[c]++cur.toList.drop (o+0+[c].length)).toArray=cur.setIfInBounds o c:=by
   apply Array.ext'
   rw [Array.toList_setIfInBounds,List.set_eq_take_append_cons_drop,if_pos (by simpa using ho)];simp
  rw [e3] at hst;simp only [Instr.storeAt,Instr.sureAddr,storeVar,Sem.run_bind,Sem.run_pure,Result.andThen_ok,hs,hc,ne_eq,if_false,List.size_toArray,List.length_cons,List.length_nil,Nat.zero_add,not_true_eq_false,hst]
 refine wpList_plain hg λ Kc hK=>?_
 unfold Oper.wp;simp only [execOp,Sem.run_bind,e1,e2,hrun,Result.andThen_ok,Sem.run_pure,Oper.upon];refine hK _ _ ?_
 have h2:=h w st.ext;unfold LX at h2;exact h2 _ _ (st.vals (w':=w.setRow b (cur.setIfInBounds o c)))
theorem grA {f:FuncId} {ats:Array TypeId} {fv:Operand} {v1:Value} (hg:g=none) (hd:d<N.n) (hfv:opE E fv=.val (.func (.func f) #[] #[])) (hv1:opE E x=.val v1) (R:Value→World→Prop)
 (hc:∀ w,Ext wb w→Fc P f #[v1] w (λ e w'=>∃ v,e=.returned v∧R v w')) (h:∀ v w,R v w→LX P N w l Q rest ((d,.val v)::vals E)) :
 LX P N wb l Q (⟨some d,.call ⟨.value fv,#[x],ats⟩,ty,pos,after,g⟩::rest) E:=by
 unfold LX;intro a w st;have h0:=st.opd fv;rw [hfv] at h0;simp only [AD.ok] at h0;have ev1:=st.opd x;rw [hv1] at ev1;simp only [AD.ok] at ev1;have hcc:=hc w st.ext;refine wpList_plain hg λ Kc hK=>?_
 unfold Oper.wp;rw [cfA h0 (Fc.run hcc _ _)];simp only [Oper.upon,List.map_toArray,List.map_cons,List.map_nil,ev1];refine hcc.calls.mono ?_
 rintro e w' ⟨v,rfl,hv⟩;refine hK _ _ ?_
 have h2:=h v w' hv;unfold LX at h2;exact h2 _ _ ((st.vals (w':=w')).push (Ext.refl _) (dst:=some d) (r:=.val v) (λ d' hd'=>by cases hd';exact hd) (.inr rfl))
theorem kvA {f:FuncId} {ats:Array TypeId} {fv:Operand} {v1 v2:Value} (hg:g=none) (hd:d<N.n) (hfv:opE E fv=.val (.func (.func f) #[] #[])) (hv1:opE E x=.val v1) (hv2:opE E y=.val v2) (R:Value→World→Prop)
 (hc:∀ w,Ext wb w→Fc P f #[v1,v2] w (λ e w'=>∃ v,e=.returned v∧R v w')) (h:∀ v w,R v w→LX P N w l Q rest ((d,.val v)::vals E)) :
 LX P N wb l Q (⟨some d,.call ⟨.value fv,#[x,y],ats⟩,ty,pos,after,g⟩::rest) E:=by
 unfold LX;intro a w st;have h0:=st.opd fv;rw [hfv] at h0;simp only [AD.ok] at h0;have ev1:=st.opd x;rw [hv1] at ev1;simp only [AD.ok] at ev1;have ev2:=st.opd y;rw [hv2] at ev2;simp only [AD.ok] at ev2;have hcc:=hc w st.ext;refine wpList_plain hg λ Kc hK=>?_
 unfold Oper.wp;rw [cfA h0 (Fc.run hcc _ _)];simp only [Oper.upon,List.map_toArray,List.map_cons,List.map_nil,ev1,ev2];refine hcc.calls.mono ?_
 rintro e w' ⟨v,rfl,hv⟩;refine hK _ _ ?_
 have h2:=h v w' hv;unfold LX at h2;exact h2 _ _ ((st.vals (w':=w')).push (Ext.refl _) (dst:=some d) (r:=.val v) (λ d' hd'=>by cases hd';exact hd) (.inr rfl))
theorem cbA {f:FuncId} {ats:Array TypeId} {fv:Operand} {v1 v2 v3:Value} (hg:g=none) (hd:d<N.n) (hfv:opE E fv=.val (.func (.func f) #[] #[])) (hv1:opE E x=.val v1) (hv2:opE E y=.val v2) (hv3:opE E z=.val v3) (R:Value→World→Prop)
 (hc:∀ w,Ext wb w→Fc P f #[v1,v2,v3] w (λ e w'=>∃ v,e=.returned v∧R v w')) (h:∀ v w,R v w→LX P N w l Q rest ((d,.val v)::vals E)) :
 LX P N wb l Q (⟨some d,.call ⟨.value fv,#[x,y,z],ats⟩,ty,pos,after,g⟩::rest) E:=by
 unfold LX;intro a w st;have h0:=st.opd fv;rw [hfv] at h0;simp only [AD.ok] at h0;have ev1:=st.opd x;rw [hv1] at ev1;simp only [AD.ok] at ev1;have ev2:=st.opd y;rw [hv2] at ev2;simp only [AD.ok] at ev2;have ev3:=st.opd z;rw [hv3] at ev3;simp only [AD.ok] at ev3;have hcc:=hc w st.ext;refine wpList_plain hg λ Kc hK=>?_
 unfold Oper.wp;rw [cfA h0 (Fc.run hcc _ _)];simp only [Oper.upon,List.map_toArray,List.map_cons,List.map_nil,ev1,ev2,ev3];refine hcc.calls.mono ?_
 rintro e w' ⟨v,rfl,hv⟩;refine hK _ _ ?_
 have h2:=h v w' hv;unfold LX at h2;exact h2 _ _ ((st.vals (w':=w')).push (Ext.refl _) (dst:=some d) (r:=.val v) (λ d' hd'=>by cases hd';exact hd) (.inr rfl))
theorem doA {f:FuncId} {ats:Array TypeId} {fv:Operand} {q:Operand} {v1 v2 v3 v4:Value} (hg:g=none) (hd:d<N.n) (hfv:opE E fv=.val (.func (.func f) #[] #[])) (hv1:opE E x=.val v1) (hv2:opE E y=.val v2) (hv3:opE E z=.val v3) (hv4:opE E q=.val v4) (R:Value→World→Prop)
 (hc:∀ w,Ext wb w→Fc P f #[v1,v2,v3,v4] w (λ e w'=>∃ v,e=.returned v∧R v w')) (h:∀ v w,R v w→LX P N w l Q rest ((d,.val v)::vals E)) :
 LX P N wb l Q (⟨some d,.call ⟨.value fv,#[x,y,z,q],ats⟩,ty,pos,after,g⟩::rest) E:=by
 unfold LX;intro a w st;have h0:=st.opd fv;rw [hfv] at h0;simp only [AD.ok] at h0;have ev1:=st.opd x;rw [hv1] at ev1;simp only [AD.ok] at ev1;have ev2:=st.opd y;rw [hv2] at ev2;simp only [AD.ok] at ev2;have ev3:=st.opd z;rw [hv3] at ev3;simp only [AD.ok] at ev3;have ev4:=st.opd q;rw [hv4] at ev4;simp only [AD.ok] at ev4;have hcc:=hc w st.ext;refine wpList_plain hg λ Kc hK=>?_
 unfold Oper.wp;rw [cfA h0 (Fc.run hcc _ _)];simp only [Oper.upon,List.map_toArray,List.map_cons,List.map_nil,ev1,ev2,ev3,ev4];refine hcc.calls.mono ?_
 rintro e w' ⟨v,rfl,hv⟩;refine hK _ _ ?_
 have h2:=h v w' hv;unfold LX at h2;exact h2 _ _ ((st.vals (w':=w')).push (Ext.refl _) (dst:=some d) (r:=.val v) (λ d' hd'=>by cases hd';exact hd) (.inr rfl))
theorem c3B {n:Int} (hg:bmA l E g=some true) (hx:opE E x=.val (.int k n)) (h:LA P l wb K rest ((d,.val (.int k (k.wrap (-n))))::E)):LA P l wb K (⟨some d,.unOp .neg t x,ty,pos,after,g⟩::rest) E :=
 bhA _ hg (bwA λ a w he hh=>by
  have h0:=hh x (by simp [Op.operands]);rw [hx] at h0;simp only [AD.ok] at h0;simp [execOp,h0,Op.unary,Op.intArith]) h
theorem ccA (n:Nat) {id:Nat} (hn:l.length=n+1) (hP:P.follows .mixedOrders=true) (hok:okR l n N.n=true)
 (h:∀ K:List Oper→Env→Prop,(∀ rest E,rest.length=1→LX P N wb l Q rest E→K rest E)→LA P l wb K l E):CX P N wb (.region id l.toArray true) E Q :=
 dxA n hP hok oZ (λ K hK=>h K (λ rest E hr=>hK rest E oZ))
theorem ghA (e:TypeId) {s:Nat} (hg:bmA l E g=some true)
 (hr:∀ w,(Instr.buildSlice t 0 #[]).run P w=.ok (.slice (some ⟨w.heap.size,0,none⟩) 0 0) (w.alloc (.cells #[] e))) (h:LA P l wb K rest ((d,.pred (hqA wb.heap.size e s 0 []))::E)) :
 LA P l wb K (⟨some d,.buildSlice t 0 #[],ty,pos,after,g⟩::rest) E :=
 bhA _ hg (λ a w he hh=>by
  simp only [execOp,List.map_toArray,List.map_nil,Sem.run_bind,hr,Result.andThen_ok,Sem.run_pure];refine ⟨Ext.alloc _ _,?_⟩;have:=World.ownsRow_lit (base:=wb.heap.size) (e:=e) (size:=s) w #[] 0 he.size dZ (by simp);show Own _ _ _ _ _ _ _
  simpa [Own] using this) h
theorem ehA {c z:Value} {b:Nat} {e:TypeId} (hg:bmA l E g=some true) (hel:El P t e z 1 b) (hx:opE E x=.val c) (hc:c.cells=#[c]) (h:LA P l wb K rest ((d,.pred (hqA wb.heap.size e 1 1 [c]))::E)) :
 LA P l wb K (⟨some d,.buildSlice t 1 #[(0,x)],ty,pos,after,g⟩::rest) E:=by
 refine bhA (.pred (hqA wb.heap.size e 1 1 [c])) hg (λ a w he hh=>?_) h;have h1:=hh x (by simp [Op.operands]);rw [hx] at h1;simp only [AD.ok] at h1;have hrun:(Instr.buildSlice t 1 #[(0,c)]).run P w=.ok (.slice (some ⟨w.heap.size,0,none⟩) 1 1) (w.alloc (.cells #[c] e)):=by
  simp only [Instr.buildSlice,Sem.run_bind,run_underlying hel.ht,Result.andThen_ok,hel.sizeOf,Nat.reduceMul,Nat.reducePow,gt_iff_lt,Nat.reduceLT,if_false,Sem.run_pure,Nat.reduceEqDiff,hel.zero,nxA hc hel.zs];rfl
 simp only [execOp,List.map_toArray,List.map_cons,List.map_nil,h1,Sem.run_bind,hrun,Result.andThen_ok,Sem.run_pure];refine ⟨Ext.alloc _ _,?_⟩;have:=World.ownsRow_lit (base:=wb.heap.size) (e:=e) (size:=1) w #[c] 1 he.size dZ (by simp);show Own _ _ _ _ _ _ _
 simpa [Own] using this
theorem Own.more {base e s n cap gb:Nat} {w:World} {cs:List Value} (h:Own base e s w (.slice (some ⟨gb,0,none⟩) n cap) n cs) (m:Nat) (hm:n+m≤cap):∃ zs:List Value,zs.length=m*s∧Own base e s w (.slice (some ⟨gb,0,none⟩) (n+m) cap) (n+m) (cs++zs):=by
 rcases h.2 with ⟨h1,_⟩|⟨gb',cap',cur,h1,hb,hg,hnc,hmx,hsz,htake⟩
 ·cases h1
 ·cases h1
  have hle:(n+m)*s≤cap*s:=Nat.mul_le_mul_right _ hm;have e1:(n+m)*s=n*s+m*s:=Nat.add_mul ..;refine ⟨(cur.toList.drop (n*s)).take (m*s),?_,?_⟩
  ·rw [List.length_take,List.length_drop,Array.length_toList,hsz];omega
  ·refine ⟨?_,.inr ⟨gb,cap,cur,rfl,hb,hg,hm,hmx,hsz,?_⟩⟩
   ·rw [List.length_append,h.1,List.length_take,List.length_drop,Array.length_toList,hsz];omega
   ·rw [e1,List.take_add,htake]
theorem fvA {n cap gb s:Nat} {i:Int} (hg:bmA l E g=some true) (e:TypeId) (ht:P.underlying t=some (.slice e))
 (hx:opE E x=.val (.slice (some ⟨gb,0,none⟩) n cap)) (hi:opE E y=.val (.int k i)) (h0:0≤i) (hc0:0<cap) (hn:i≤cap) (hs:∀ w,(sizeOf e).run P w=.ok s w) (h:LA P l wb K rest ((d,.val (.slice (some ⟨gb,0,none⟩) i.toNat cap))::E)) :
 LA P l wb K (⟨some d,.slice t x none (some y) none,ty,pos,after,g⟩::rest) E :=
 bhA _ hg (bwA λ a w he hh=>by
  have h1:=hh x (by simp [Op.operands]);have h2:=hh y (by simp [Op.operands]);rw [hx] at h1;rw [hi] at h2;simp only [AD.ok] at h1 h2;obtain ⟨j,rfl⟩:=Int.eq_ofNat_of_zero_le h0;have hrun:(Instr.sliceAt t (.slice (some ⟨gb,0,none⟩) n cap) none (some (.int k (j:Int))) none).run P w=.ok (.slice (some ⟨gb,0,none⟩) j cap) w:=by
   simp only [Instr.sliceAt,Instr.slice,Sem.run_bind,run_underlying ht,Result.andThen_ok,obA (k:=k) (n:=n) (cap:=cap) (h:=j) (w:=w) (P:=P) oZ,hs];simp only [sliced,Nat.zero_mul,Nat.sub_zero];rw [if_neg oZ];simp [Addr.add_zero']
  simp only [execOp,Option.map_some,Option.map_none,h1,h2,Sem.run_bind,hrun,Result.andThen_ok,Sem.run_pure,Int.toNat_natCast]) h
theorem liA {base e s n cap gb:Nat} {w:World} {cs:List Value} (h:Own base e s w (.slice (some ⟨gb,0,none⟩) n cap) n cs):w.shape? gb=some (e,cap*s)∧(∀ o,w.frozen? ⟨gb,o,none⟩=false):=by
 rcases h.2 with ⟨h1,_⟩|⟨gb',cap',cur,h1,hb,hg,hnc,hmx,hsz,htake⟩
 ·cases h1
 ·cases h1
  refine ⟨by simp [World.shape?,hg,hsz],λ o=>by simp [World.frozen?,hg]⟩
theorem f9A {w:World} {ba bb e s na ca nb cb ga gb:Nat} {xs ys:List Value} {tR:TypeId} (ht:P.underlying t=some (.slice e)) (hs:∀ w,(sizeOf e).run P w=.ok s w) (hsp:0<s)
 (ha:Own ba e s w (.slice (some ⟨ga,0,none⟩) na ca) na xs) (hb:Own bb e s w (.slice (some ⟨gb,0,none⟩) nb cb) nb ys) (hcb:0<cb) (hne:ga≠gb) (o l' c':Nat) :
 (Extern.SlicesOverlaps.overlaps #[t,t] #[tR] #[.slice (some ⟨ga,0,none⟩) na ca,.slice (some ⟨gb,o,none⟩) l' c']).run P w=.ok (.bool false) w:=by
 obtain ⟨a1,a2⟩:=liA ha;obtain ⟨b1,b2⟩:=liA hb;exact Lib.run_overlaps_apart w t tR e ht s hs ⟨ga,0,none⟩ ⟨gb,o,none⟩ na ca l' c' hne e e (ca*s) (cb*s) a1 b1 (by have:=Nat.mul_pos hcb hsp;omega) (a2 _) (a2 _)
theorem smA {f:FuncId} {ats:Array TypeId} {fv:Operand} {v1 v2 c:Value} (hg:bmA l E g=some true) (hfv:opE E fv=.val (.func (.func f) #[] #[])) (h1:opE E x=.val v1) (h2:opE E y=.val v2)
 (hr:∀ w,Ext wb w→(callFunc f #[v1,v2]).run P w=.ok (.value c) w) (h:LA P l wb K rest ((d,.val c)::E)):LA P l wb K (⟨some d,.call ⟨.value fv,#[x,y],ats⟩,ty,pos,after,g⟩::rest) E :=
 bhA _ hg (λ a w he hh=>by
  have h0:=hh fv (by simp [Op.operands,Call.operands]);rw [hfv] at h0;simp only [AD.ok] at h0;have e1:=hh x (by simp [Op.operands,Call.operands]);rw [h1] at e1;simp only [AD.ok] at e1;have e2:=hh y (by simp [Op.operands,Call.operands]);rw [h2] at e2;simp only [AD.ok] at e2;have hrun:(execOp a.eval ⟨some d,.call ⟨.value fv,#[x,y],ats⟩,ty,pos,after,g⟩).run P w=.ok (.value c) w:=by
   simp only [execOp,resolve,Deferred.ofValue,h0,Sem.run_bind,Sem.run_pure,Result.andThen_ok,invoke,List.map_toArray,List.map_cons,List.map_nil,e1,e2]
   simpa using hr w he
  rw [hrun];exact ⟨Ext.refl _,rfl⟩) h
theorem f5A {base e s b n m:Nat} {v u z:Value} {cs xs:List Value} {tt:TypeId} (i:Nat) (hg:g=none) (hd:∀ q,(some d:Option Tmp)=some q→q<N.n) (hel:El P t e z s b) (hx:opE E x=.val (epA v i n s)) (hy:opE E y=.val u) (hown:Own base e s wb v n cs) (hsrc:SlC wb u m s xs) (hi:i≤n)
 (h1:∀ c ∈ xs.take (min m (n-i)*s),c.oneCell'=true) (h:∀ w w',Ext wb w→Own base e s w' v n (cs.take (i*s)++xs.take (min m (n-i)*s)++cs.drop ((i+min m (n-i))*s))→w.grownBy w' v.ownBlock→LX P N w' l Q rest ((d,.val (goInt ((min m (n-i):Nat):Int)))::vals E)) :
 LX P N wb l Q (⟨some d,.call ⟨.builtin .copy,#[x,y],#[t,tt]⟩,ty,pos,after,g⟩::rest) E:=by
 unfold LX;intro a w st;have e1:=st.opd x;rw [hx] at e1;simp only [AD.ok] at e1;have e2:=st.opd y;rw [hy] at e2;simp only [AD.ok] at e2;obtain ⟨w',g1,g2,g3⟩:=lcA (ty:=ty) hel (hown.ext st.ext) (hsrc.ext st.ext) i hi h1 tt;refine wpList_plain hg λ Kc hK=>?_
 unfold Oper.wp;simp only [execOp,resolve,invoke,builtin,Sem.run_bind,Sem.run_pure,Result.andThen_ok,List.map_toArray,List.map_cons,List.map_nil,e1,e2,g1,Oper.upon];refine hK _ _ ?_
 have h2:=h w w' st.ext g2 g3;unfold LX at h2;exact h2 _ _ ((st.vals (w':=w')).push (Ext.refl _) (dst:=some d) (r:=.val _) hd (.inr rfl))
theorem f6A {e s b n kn cap:Nat} {z:Value} {a:Option Addr} {cs:List Value} {tn:TypeId} {kd kd':IntKind} {i:Int} (hg:g=none) (hd:d<N.n) (hel:El P t e z s b) (htn:P.underlying tn=some (.int kd')) (hx:opE E x=.val (.slice a n cap)) (hy:opE E y=.val (.int kd i)) (hv:SlC wb (.slice a n cap) n s cs)
 (hik:i=(kn:Int)) (hroom:cap<n+kn) (hk:0<kn) (hz1:∀ c ∈ z.cells.toList,c.oneCell'=true) (hbytes:(n+kn)*b≤140737488355328) (h63:n+kn≤9223372036854775807)
 (h:∀ v' w w' zs,Ext wb w→zs.length=kn*s→(∀ c ∈ zs,c.oneCell'=true)→Own w.heap.size e s w' v' (n+kn) (cs++zs)→Ext w w'→LX P N w' l Q rest ((d,.val v')::vals E)) :
 LX P N wb l Q (⟨some d,.call ⟨.builtin .append,#[x,y],#[t,tn]⟩,ty,pos,after,g⟩::rest) E:=by
 unfold LX;intro ac w st;have e1:=st.opd x;rw [hx] at e1;simp only [AD.ok] at e1;have e2:=st.opd y;rw [hy,hik] at e2;simp only [AD.ok] at e2;obtain ⟨v',w',zs,g1,g2,g3,g4,g5⟩:=i6A (v:=undef) (t:=t) (ty:=ty) (kd:=kd) hel htn (hv.ext st.ext) hroom hk hz1 hbytes h63;refine wpList_plain hg λ Kc hK=>?_
 unfold Oper.wp;simp only [execOp,resolve,invoke,builtin,Sem.run_bind,Sem.run_pure,Result.andThen_ok,List.map_toArray,List.map_cons,List.map_nil,e1,e2,g1,Oper.upon];refine hK _ _ ?_
 have h2:=h v' w w' zs st.ext g2 g3 g4 g5;unfold LX at h2;exact h2 _ _ ((st.vals (w':=w')).push (Ext.refl _) (dst:=some d) (r:=.val v') (λ d' hd'=>by cases hd';exact hd) (.inr rfl))
theorem f1A {gb n cap l h s:Nat} (hl:l<cap):epA (.slice (some ⟨gb,0,none⟩) n cap) l h s=.slice (some ⟨gb,l*s,none⟩) (h-l) (cap-l):=by
 simp only [epA,sliced];rw [if_neg oZ];simp [Addr.add_lit]
theorem k7A {base e s n cap gb:Nat} {w:World} {cs:List Value} (h:Own base e s w (.slice (some ⟨gb,0,none⟩) n cap) n cs) (i:Nat) (hi:i≤n):Own base e s w (.slice (some ⟨gb,0,none⟩) i cap) i (cs.take (i*s)):=by
 rcases h.2 with ⟨h1,_⟩|⟨gb',cap',cur,h1,hb,hg,hnc,hmx,hsz,htake⟩
 ·cases h1
 ·cases h1
  have hle:i*s≤n*s:=Nat.mul_le_mul_right _ hi;refine ⟨by rw [List.length_take,h.1];exact Nat.min_eq_left hle,.inr ⟨gb,cap,cur,rfl,hb,hg,Nat.le_trans hi hnc,hmx,hsz,?_⟩⟩;rw [← htake,List.take_take,Nat.min_eq_left hle]
theorem jeA {A Z xs D:List Value} {i n s:Nat} (hi:i<n) (hA:A.length=i*s) (hx:xs.length=s) (hZ:Z.length=(n+1-i)*s) (hD:D.length=(n-i)*s) :
 ((A++Z).take (i*s)++xs.take (min 1 (n+1-i)*s)++(A++Z).drop ((i+min 1 (n+1-i))*s)).take ((i+1)*s)++D.take (min (n-i) (n+1-(i+1))*s)++((A++Z).take (i*s)++xs.take (min 1 (n+1-i)*s)++(A++Z).drop ((i+min 1 (n+1-i))*s)).drop ((i+1+min (n-i) (n+1-(i+1)))*s)=A++xs++D:=by
 have m1:min 1 (n+1-i)=1:=oZ;have m2:min (n-i) (n+1-(i+1))=n-i:=oZ;have m3:i+1+(n-i)=n+1:=oZ;have e1:(i+1)*s=i*s+s:=by rw [Nat.add_mul,Nat.one_mul]
 have e2:(n+1-i)*s=(n-i)*s+s:=by rw [show n+1-i=(n-i)+1 by omega,Nat.add_mul,Nat.one_mul]
 have e3:(n+1)*s=i*s+(n-i)*s+s:=by rw [← Nat.add_mul,show i+(n-i)=n by omega,Nat.add_mul,Nat.one_mul]
 have f1:(A++Z).take (i*s)=A:=by rw [List.take_append_of_le_length oZ,List.take_of_length_le oZ]
 have f2:xs.take s=xs:=List.take_of_length_le oZ;have f3:D.take ((n-i)*s)=D:=List.take_of_length_le oZ;have f4:(A++Z).drop ((i+1)*s)=Z.drop s:=by rw [e1,← hA,List.drop_append];simp
 have f5:(A++xs++Z.drop s).take ((i+1)*s)=A++xs:=by rw [List.take_append_of_le_length (by rw [List.length_append];omega),List.take_of_length_le (by rw [List.length_append];omega)]
 have f6:(A++xs++Z.drop s).drop ((n+1)*s)=[]:=List.drop_of_length_le (by simp only [List.length_append,List.length_drop];omega);rw [m1,m2,m3,Nat.one_mul,f1,f2,f3,f4,f5,f6,List.append_nil]
theorem i3A {C Z xs:List Value} {i n s:Nat} (hi:i<n) (hC:C.length=n*s) (hx:xs.length=s) (hZ:Z.length=1*s) :
 ((C++Z).take ((i+1)*s)++(((C++Z).take ((n+1)*s)).drop (i*s)).take (min (n+1-i) (n+1-(i+1))*s)++(C++Z).drop ((i+1+min (n+1-i) (n+1-(i+1)))*s)).take (i*s)++xs.take (min 1 (n+1-i)*s) ++
  ((C++Z).take ((i+1)*s)++(((C++Z).take ((n+1)*s)).drop (i*s)).take (min (n+1-i) (n+1-(i+1))*s)++(C++Z).drop ((i+1+min (n+1-i) (n+1-(i+1)))*s)).drop ((i+min 1 (n+1-i))*s)=C.take (i*s)++xs++C.drop (i*s):=by
 have m1:min 1 (n+1-i)=1:=oZ;have m2:min (n+1-i) (n+1-(i+1))=n-i:=oZ;have m3:i+1+(n-i)=n+1:=oZ;have e1:(i+1)*s=i*s+s:=by rw [Nat.add_mul,Nat.one_mul]
 have e3:(n+1)*s=n*s+s:=by rw [Nat.add_mul,Nat.one_mul]
 have e5:n*s=i*s+(n-i)*s:=by rw [← Nat.add_mul,show i+(n-i)=n by omega]
 have e6:s≤(n-i)*s:=by have:=Nat.mul_le_mul_right s (show 1≤n-i by omega);omega
 have d1:(C++Z).take ((n+1)*s)=C++Z:=List.take_of_length_le (by rw [List.length_append];omega);have d2:(C++Z).drop ((n+1)*s)=[]:=List.drop_of_length_le (by rw [List.length_append];omega);have d3:((C++Z).drop (i*s)).take ((n-i)*s)=C.drop (i*s):=by
  rw [List.drop_append_of_le_length oZ,List.take_append_of_le_length (by rw [List.length_drop];omega),List.take_of_length_le (by rw [List.length_drop];omega)]
 have d4:(C++Z).take ((i+1)*s)=C.take ((i+1)*s):=List.take_append_of_le_length oZ;have l4:(C.take ((i+1)*s)).length=(i+1)*s:=by rw [List.length_take];omega
 rw [m1,m2,m3,d1,d2,d3,d4,List.append_nil,Nat.one_mul,List.take_of_length_le (by omega:xs.length≤s),List.take_append_of_le_length oZ,List.take_take,Nat.min_eq_left (by omega:i*s≤(i+1)*s)];congr 1;rw [List.drop_append,l4,Nat.sub_self,List.drop_of_length_le (by omega:(C.take ((i+1)*s)).length≤(i+1)*s)];rfl
theorem nbA {C Z:List Value} {i n s:Nat} (hi:i<n) (hC:C.length=n*s) (hZ:Z.length=1*s) :
 (((C++Z).take ((n+1)*s)).drop (i*s)).take (min (n+1-i) (n+1-(i+1))*s)=C.drop (i*s):=by
 have m2:min (n+1-i) (n+1-(i+1))=n-i:=oZ;have e3:(n+1)*s=n*s+s:=by rw [Nat.add_mul,Nat.one_mul]
 have e5:n*s=i*s+(n-i)*s:=by rw [← Nat.add_mul,show i+(n-i)=n by omega]
 have d1:(C++Z).take ((n+1)*s)=C++Z:=List.take_of_length_le (by rw [List.length_append];omega);rw [m2,d1,List.drop_append_of_le_length oZ,List.take_append_of_le_length (by rw [List.length_drop];omega),List.take_of_length_le (by rw [List.length_drop];omega)]
theorem evA {w w2 w3:World} {b:Option Nat} (e:Ext w w2) (h:w2.grownBy w3 b):w.grownBy w3 b :=
 ⟨h.os.trans e.os,h.tape.trans e.tape,h.output.trans e.output,Nat.le_trans e.size h.size,λ k hk hn=>(h.block k (Nat.lt_of_lt_of_le hk e.size) hn).trans (Below.block e k hk)⟩
theorem fzA {w w2 w3:World} {b:Option Nat} (h:w.grownBy w2 b) (e:Ext w2 w3):w.grownBy w3 b :=
 ⟨e.os.trans h.os,e.tape.trans h.tape,e.output.trans h.output,Nat.le_trans h.size e.size,λ k hk hn=>(Below.block e k (Nat.lt_of_lt_of_le hk h.size)).trans (h.block k hk hn)⟩
theorem ipA {w w2 w3:World} {b:Option Nat} (h:w.grownBy w2 b) (h':w2.grownBy w3 b):w.grownBy w3 b :=
 ⟨h'.os.trans h.os,h'.tape.trans h.tape,h'.output.trans h.output,Nat.le_trans h.size h'.size,λ k hk hn=>(h'.block k (Nat.lt_of_lt_of_le hk h.size) hn).trans (h.block k hk hn)⟩
theorem lqA {w w2:World} (b:Option Nat) (e:Ext w w2):w.grownBy w2 b :=
 ⟨e.os,e.tape,e.output,e.size,λ k hk _=>Below.block e k hk⟩
theorem uvA {w w2:World} (h:w.grownBy w2 none):Ext w w2:=⟨h.os,h.tape,h.output,h.size,λ k hk=>h.block k hk (by simp)⟩
theorem qwA (k:IntKind) (n:Nat):(madeCells (Value.int k 0).cells (n*1)).toList=(List.replicate n (0:Int)).map (Value.int k):=by
 rw [List.map_replicate];refine List.ext_getElem (by simp [madeCells]) λ i h1 h2=>?_
 simp [madeCells,Value.cells,Nat.mod_one]
theorem kxA {e:TypeId} {b n:Nat} {kl kc:IntKind} (hg:bmA l E g=some true) (hel:El P t e (.int k 0) 1 b) (hx:opE E x=.val (.int kl (n:Int))) (hy:opE E y=.val (.int kc (n:Int))) (hb:b*n≤281474976710656) (hn:n≤9223372036854775807)
 (h:LA P l wb K rest ((d,.pred (bnA wb.heap.size e k (List.replicate n 0)))::E)):LA P l wb K (⟨some d,.makeSlice t x y,ty,pos,after,g⟩::rest) E :=
 bhA (.pred (bnA wb.heap.size e k (List.replicate n 0))) hg (λ a w he hh=>by
  have e1:=hh x (by simp [Op.operands]);have e2:=hh y (by simp [Op.operands]);rw [hx] at e1;rw [hy] at e2;simp only [AD.ok] at e1 e2;obtain ⟨i,hi1,hi2,hi3,hi4⟩:=hel.parts;obtain ⟨w',g1,g2,g3⟩:=run_make_full (P:=P) w wb.heap.size t e i _ 1 hel.ht hi1 hi2 hi3 kl kc n (by rw [hi4];exact hb) (by unfold maxLen;omega) he.size;rw [qwA] at g2;simp only [execOp,Sem.run_bind,e1,e2,g1,Result.andThen_ok,Sem.run_pure];refine ⟨uvA g3,?_⟩;show Own _ _ _ _ _ _ _;rw [List.length_replicate];exact g2) h
theorem joA {a b:Int} (hg:bmA l E g=some true) (hx:opE E x=.val (.int k a)) (hy:opE E y=.val (.int k b)) (ha:0≤a) (hb:0<b) (hf:fits k (a / b)) (h:LA P l wb K rest ((d,.val (.int k (a / b)))::E)) :
 LA P l wb K (⟨some d,.binOp .quo t x y t',ty,pos,after,g⟩::rest) E :=
 bhA _ hg (bwA λ ac w he hh=>by
  have e1:=hh x (by simp [Op.operands]);have e2:=hh y (by simp [Op.operands]);rw [hx] at e1;rw [hy] at e2;simp only [AD.ok] at e1 e2;have h0:b≠0:=oZ;simp [execOp,e1,e2,eqGuard_quo,binOp_quo,Op.intDiv,h0,Int.tdiv_eq_ediv_of_nonneg ha,daA k _ hf]) h
theorem jnA {a b:Int} (hg:bmA l E g=some true) (hx:opE E x=.val (.int k a)) (hy:opE E y=.val (.int k b)) (ha:0≤a) (hb:0<b) (hf:fits k (a % b)) (h:LA P l wb K rest ((d,.val (.int k (a % b)))::E)) :
 LA P l wb K (⟨some d,.binOp .rem t x y t',ty,pos,after,g⟩::rest) E :=
 bhA _ hg (bwA λ ac w he hh=>by
  have e1:=hh x (by simp [Op.operands]);have e2:=hh y (by simp [Op.operands]);rw [hx] at e1;rw [hy] at e2;simp only [AD.ok] at e1 e2;have h0:b≠0:=oZ;simp [execOp,e1,e2,eqGuard_rem,binOp_rem,Op.intDiv,h0,Int.tmod_eq_emod_of_nonneg ha,daA k _ hf]) h
theorem zsA {k'':IntKind} {a b c:Int} {ats:Array TypeId} (hg:bmA l E g=some true) (hx:opE E x=.val (.int k a)) (hy:opE E y=.val (.int k' b)) (hz:opE E z=.val (.int k'' c)) (h:LA P l wb K rest ((d,.val (.int k (min (min a b) c)))::E)) :
 LA P l wb K (⟨some d,.call ⟨.builtin .min,#[x,y,z],ats⟩,ty,pos,after,g⟩::rest) E :=
 bhA _ hg (bwA λ ac w he hh=>by
  have e1:=hh x (by simp [Op.operands,Call.operands]);have e2:=hh y (by simp [Op.operands,Call.operands]);have e3:=hh z (by simp [Op.operands,Call.operands]);rw [hx] at e1;rw [hy] at e2;rw [hz] at e3;simp only [AD.ok] at e1 e2 e3;have:(Builtin.min_ ats ty #[.int k a,.int k' b,.int k'' c]).run P w=.ok (.int k (min (min a b) c)) w:=by
   have h1:(if b<a then b else a)=min a b:=oZ;have h2:(if c<min a b then c else min a b)=min (min a b) c:=oZ;simp [Builtin.min_,List.foldlM,Builtin.min2,h1,h2]
  simp only [execOp,resolve,Sem.run_bind,Sem.run_pure,Result.andThen_ok,List.map_toArray,List.map_cons,List.map_nil,e1,e2,e3,invoke,builtin,this]) h
end
end Go.LA
end
section
namespace Go.LA
open Go.RowKit
section
variable {P:Program} {l:List Oper} {N:Nn} {wb:World} {K:List Oper→Env→Prop} {rest:List Oper} {E:Env} {Q:Exit→Act→World→Prop}
variable {d:Tmp} {dd:Option Tmp} {ty t t':TypeId} {pos:String} {after:Array Edge} {g:Option (Nat × Bool)} {x y z:Operand} {k k' km:IntKind} {op:Op} {o o1 o2 o3:Option Operand}
theorem oD (n:Nat) (h:LA P l wb K (⟨some n,op,ty,pos,after,g⟩::rest) E):LA P l wb K (⟨some n,op,ty,pos,after,g⟩::rest) E:=h
theorem oM (h:LA P l wb K (⟨dd,.move x,ty,pos,after,g⟩::rest) E):LA P l wb K (⟨dd,.move x,ty,pos,after,g⟩::rest) E:=h
theorem oA (h:LA P l wb K (⟨dd,.assign x,ty,pos,after,g⟩::rest) E):LA P l wb K (⟨dd,.assign x,ty,pos,after,g⟩::rest) E:=h
theorem oP (h:LA P l wb K (⟨dd,.pick x y z,ty,pos,after,g⟩::rest) E):LA P l wb K (⟨dd,.pick x y z,ty,pos,after,g⟩::rest) E:=h
theorem oN (h:LA P l wb K (⟨dd,.unOp .not t x,ty,pos,after,g⟩::rest) E):LA P l wb K (⟨dd,.unOp .not t x,ty,pos,after,g⟩::rest) E:=h
theorem oX {n:Nat} (h:LA P l wb K (⟨dd,.extract x n,ty,pos,after,g⟩::rest) E):LA P l wb K (⟨dd,.extract x n,ty,pos,after,g⟩::rest) E:=h
theorem oB (b:BinOp) (h:LA P l wb K (⟨dd,.binOp b t x y t',ty,pos,after,g⟩::rest) E):LA P l wb K (⟨dd,.binOp b t x y t',ty,pos,after,g⟩::rest) E:=h
theorem oI (h:LA P l wb K (⟨dd,.indexAddr t x y,ty,pos,after,g⟩::rest) E):LA P l wb K (⟨dd,.indexAddr t x y,ty,pos,after,g⟩::rest) E:=h
theorem oL (h:LA P l wb K (⟨dd,.load t x,ty,pos,after,g⟩::rest) E):LA P l wb K (⟨dd,.load t x,ty,pos,after,g⟩::rest) E:=h
theorem oLt (t:TypeId) (h:LA P l wb K (⟨dd,.load t x,ty,pos,after,g⟩::rest) E):LA P l wb K (⟨dd,.load t x,ty,pos,after,g⟩::rest) E:=h
theorem oF (n:Nat) (h:LA P l wb K (⟨dd,.fieldAddr t x n,ty,pos,after,g⟩::rest) E):LA P l wb K (⟨dd,.fieldAddr t x n,ty,pos,after,g⟩::rest) E:=h
theorem oV (h:LA P l wb K (⟨dd,.convert t t' x,ty,pos,after,g⟩::rest) E):LA P l wb K (⟨dd,.convert t t' x,ty,pos,after,g⟩::rest) E:=h
theorem oS (h:LA P l wb K (⟨dd,.slice t x o1 o2 o3,ty,pos,after,g⟩::rest) E):LA P l wb K (⟨dd,.slice t x o1 o2 o3,ty,pos,after,g⟩::rest) E:=h
theorem c7A {as0:Array Operand} {ats:Array TypeId} (h:LA P l wb K (⟨dd,.call ⟨.builtin .len,as0,ats⟩,ty,pos,after,g⟩::rest) E):LA P l wb K (⟨dd,.call ⟨.builtin .len,as0,ats⟩,ty,pos,after,g⟩::rest) E:=h
theorem oC (f:FuncId) {as0:Array Operand} {ats:Array TypeId} (h:LA P l wb K (⟨dd,.call ⟨.value (.func f),as0,ats⟩,ty,pos,after,g⟩::rest) E):LA P l wb K (⟨dd,.call ⟨.value (.func f),as0,ats⟩,ty,pos,after,g⟩::rest) E:=h
theorem yV {fv:Operand} {as0:Array Operand} {ats:Array TypeId} (h:LA P l wb K (⟨dd,.call ⟨.value fv,as0,ats⟩,ty,pos,after,g⟩::rest) E):LA P l wb K (⟨dd,.call ⟨.value fv,as0,ats⟩,ty,pos,after,g⟩::rest) E:=h
theorem yL (h:LA P l wb K rest E):LA P l wb K rest E:=h
theorem oCX {c:Code} (h:CX P N wb c E Q):CX P N wb c E Q:=h
theorem oPX {e:Exit} (h:PX N wb Q e E):PX N wb Q e E:=h
theorem oLX (h:LX P N wb l Q rest E):LX P N wb l Q rest E:=h
theorem stAdd {a b:Int} (hg:bmA l E g=some true) (hx:opE E x=.val (.int k a)) (hy:opE E y=.val (.int k b)) (h:LA P l wb K rest ((d,.val (.int k (a+b)))::E)) (hf:fits k (a+b):=by dsimp only [fits];omega):LA P l wb K (⟨some d,.binOp .add t x y t',ty,pos,after,g⟩::rest) E:=beA hg hx hy hf h
theorem stSub {a b:Int} (hg:bmA l E g=some true) (hx:opE E x=.val (.int k a)) (hy:opE E y=.val (.int k b)) (h:LA P l wb K rest ((d,.val (.int k (a-b)))::E)) (hf:fits k (a-b):=by dsimp only [fits];omega):LA P l wb K (⟨some d,.binOp .sub t x y t',ty,pos,after,g⟩::rest) E:=abA hg hx hy hf h
theorem stMul {a b:Int} (hg:bmA l E g=some true) (hx:opE E x=.val (.int k a)) (hy:opE E y=.val (.int k b)) (h:LA P l wb K rest ((d,.val (.int k (a*b)))::E)) (hf:fits k (a*b):=by dsimp only [fits];omega):LA P l wb K (⟨some d,.binOp .mul t x y t',ty,pos,after,g⟩::rest) E:=kwA hg hx hy hf h
theorem stQuo {a b:Int} (hg:bmA l E g=some true) (hx:opE E x=.val (.int k a)) (hy:opE E y=.val (.int k b)) (h:LA P l wb K rest ((d,.val (.int k (a / b)))::E)) (ha:0≤a:=by omega) (hb:0<b:=by omega) (hf:fits k (a / b):=by dsimp only [fits];omega):LA P l wb K (⟨some d,.binOp .quo t x y t',ty,pos,after,g⟩::rest) E:=joA hg hx hy ha hb hf h
theorem stRem {a b:Int} (hg:bmA l E g=some true) (hx:opE E x=.val (.int k a)) (hy:opE E y=.val (.int k b)) (h:LA P l wb K rest ((d,.val (.int k (a % b)))::E)) (ha:0≤a:=by omega) (hb:0<b:=by omega) (hf:fits k (a % b):=by dsimp only [fits];omega):LA P l wb K (⟨some d,.binOp .rem t x y t',ty,pos,after,g⟩::rest) E:=jnA hg hx hy ha hb hf h
theorem stShr {n m:Int} (hg:bmA l E g=some true) (hx:opE E x=.val (.int k n)) (hy:opE E y=.val (.int km m)) (h:LA P l wb K rest ((d,.val (.int k (n / 2 ^ m.toNat)))::E)) (h0:0≤m:=by omega) (h1:m≤k.bits:=by dsimp only [IntKind.bits];omega):LA P l wb K (⟨some d,.binOp .shr t x y t',ty,pos,after,g⟩::rest) E:=f0A hg hx hy h0 h1 h
theorem stShl {n m:Int} (hg:bmA l E g=some true) (hx:opE E x=.val (.int k n)) (hy:opE E y=.val (.int km m)) (h:LA P l wb K rest ((d,.val (.int k (k.wrap (n*2 ^ m.toNat))))::E)) (h0:0≤m:=by omega) (h1:m≤k.bits:=by dsimp only [IntKind.bits];omega):LA P l wb K (⟨some d,.binOp .shl t x y t',ty,pos,after,g⟩::rest) E:=hhA hg hx hy h0 h1 h
theorem stCnv {src dst:TypeId} {n:Int} {kd:IntKind} (hg:bmA l E g=some true) (hs:(P.underlying src).isSome=true) (hd:P.underlying dst=some (.int kd)) (hx:opE E x=.val (.int k n)) (h:LA P l wb K rest ((d,.val (.int kd n))::E)) (hf:fits kd n:=by dsimp only [fits];omega):LA P l wb K (⟨some d,.convert src dst x,ty,pos,after,g⟩::rest) E:=olA hg hs hd hx hf h
theorem stT {b:BinOp} {m n:Int} (hg:bmA l E g=some true) (hx:opE E x=.val (.int k m)) (hy:opE E y=.val (.int k n)) (hc:kgA b=true) (h:LA P l wb K rest ((d,.val (.bool true))::E)) (hp:jkA b m n:=by first|(dsimp only [jkA];done)|(dsimp only [jkA];omega)):LA P l wb K (⟨some d,.binOp b t x y t',ty,pos,after,g⟩::rest) E:=mxA hg hx hy hc hp h
theorem stF {b:BinOp} {m n:Int} (hg:bmA l E g=some true) (hx:opE E x=.val (.int k m)) (hy:opE E y=.val (.int k n)) (hc:kgA b=true) (h:LA P l wb K rest ((d,.val (.bool false))::E)) (hp:¬ jkA b m n:=by dsimp only [jkA];omega):LA P l wb K (⟨some d,.binOp b t x y t',ty,pos,after,g⟩::rest) E:=f8A hg hx hy hc hp h
theorem stBET {a b:Bool} (hg:bmA l E g=some true) (ht:P.underlying t=some .bool) (hx:opE E x=.val (.bool a)) (hy:opE E y=.val (.bool b)) (h:LA P l wb K rest ((d,.val (.bool true))::E)) (hab:a=b:=by first|rfl|assumption):LA P l wb K (⟨some d,.binOp .eql t x y t',ty,pos,after,g⟩::rest) E:=p6A hg ht hx hy hab h
theorem stBEF {a b:Bool} (hg:bmA l E g=some true) (ht:P.underlying t=some .bool) (hx:opE E x=.val (.bool a)) (hy:opE E y=.val (.bool b)) (h:LA P l wb K rest ((d,.val (.bool false))::E)) (hab:a≠b:=by first|assumption|decide):LA P l wb K (⟨some d,.binOp .eql t x y t',ty,pos,after,g⟩::rest) E:=p7A hg ht hx hy hab h
theorem stBNT {a b:Bool} (hg:bmA l E g=some true) (ht:P.underlying t=some .bool) (hx:opE E x=.val (.bool a)) (hy:opE E y=.val (.bool b)) (h:LA P l wb K rest ((d,.val (.bool true))::E)) (hab:a≠b:=by first|assumption|decide):LA P l wb K (⟨some d,.binOp .neq t x y t',ty,pos,after,g⟩::rest) E:=p4A hg ht hx hy hab h
theorem stBNF {a b:Bool} (hg:bmA l E g=some true) (ht:P.underlying t=some .bool) (hx:opE E x=.val (.bool a)) (hy:opE E y=.val (.bool b)) (h:LA P l wb K rest ((d,.val (.bool false))::E)) (hab:a=b:=by first|rfl|assumption):LA P l wb K (⟨some d,.binOp .neq t x y t',ty,pos,after,g⟩::rest) E:=p5A hg ht hx hy hab h
theorem stIN {xs:List Int} {j:Nat} (hg:bmA l E g=some true) (e:TypeId) (ht:P.underlying t=some (.slice e)) (hs:∀ w,(sizeOf e).run P w=.ok 1 w) {r:AD} (hr:opE E x=r) (hi:opE E y=.val (.int k ((j:Nat):Int))) (h:LA P l wb K rest ((d,.pred (hpA [.int k' (xs.getD j 0)]))::E))
 (hx:HasI wb r k' xs:=by first|exact HasI.val (by assumption)|exact HasI.pred|exact HasI.own|exact HasI.ownV (by assumption)) (hn:j<xs.length:=by omega):LA P l wb K (⟨some d,.indexAddr t x y,ty,pos,after,g⟩::rest) E:=ahA hg e ht hs hr hx hi hn h
theorem stII {xs:List Int} {i:Int} (hg:bmA l E g=some true) (e:TypeId) (ht:P.underlying t=some (.slice e)) (hs:∀ w,(sizeOf e).run P w=.ok 1 w) {r:AD} (hr:opE E x=r) (hi:opE E y=.val (.int k i)) (h:LA P l wb K rest ((d,.pred (hpA [.int k' (xs.getD i.toNat 0)]))::E))
 (hx:HasI wb r k' xs:=by first|exact HasI.val (by assumption)|exact HasI.pred|exact HasI.own|exact HasI.ownV (by assumption)) (h0:0≤i:=by omega) (hn:i<xs.length:=by omega):LA P l wb K (⟨some d,.indexAddr t x y,ty,pos,after,g⟩::rest) E:=gsA hg e ht hs hr hx hi h0 hn h
theorem stLen {n s:Nat} {cs:List Value} (hg:bmA l E g=some true) (e:TypeId) (ht:P.underlying t=some (.slice e)) {r:AD} (hr:opE E x=r) (h:LA P l wb K rest ((d,.val (.int .i64 (n:Int)))::E))
 (hx:HasC wb r n s cs:=by first|exact (HasI.val (by assumption)).c|exact HasI.pred.c|exact HasC.val (by assumption)|exact HasC.pred|exact HasI.own.c|exact HasC.own|exact (HasI.ownV (by assumption)).c|exact HasC.ownV (by assumption)):LA P l wb K (⟨some d,.call ⟨.builtin .len,#[x],#[t]⟩,ty,pos,after,g⟩::rest) E:=asA hg e ht hr hx h
theorem stSL {n s:Nat} {cs:List Value} {v:Value} {i:Int} (hg:bmA l E g=some true) (e:TypeId) (ht:P.underlying t=some (.slice e)) (hx:opE E x=.val v) (hi:opE E y=.val (.int k i)) (hs:∀ w,(sizeOf e).run P w=.ok s w) (h:LA P l wb K rest ((d,.val (epA v i.toNat n s))::E))
 (hv:HasC wb (.val v) n s cs:=by first|exact (HasI.val (by assumption)).c|exact HasC.val (by assumption)|exact (HasI.ownV (by assumption)).c|exact HasC.ownV (by assumption)) (h0:0≤i:=by omega) (hn:i≤n:=by omega):LA P l wb K (⟨some d,.slice t x (some y) none none,ty,pos,after,g⟩::rest) E:=cvA hg e ht hx hv hi h0 hn hs h
theorem stSH {n s:Nat} {cs:List Value} {v:Value} {i:Int} (hg:bmA l E g=some true) (e:TypeId) (ht:P.underlying t=some (.slice e)) (hx:opE E x=.val v) (hi:opE E y=.val (.int k i)) (hs:∀ w,(sizeOf e).run P w=.ok s w) (h:LA P l wb K rest ((d,.val (epA v 0 i.toNat s))::E))
 (hv:HasC wb (.val v) n s cs:=by first|exact (HasI.val (by assumption)).c|exact HasC.val (by assumption)|exact (HasI.ownV (by assumption)).c|exact HasC.ownV (by assumption)) (h0:0≤i:=by omega) (hn:i≤n:=by omega):LA P l wb K (⟨some d,.slice t x none (some y) none,ty,pos,after,g⟩::rest) E:=fuA hg e ht hx hv hi h0 hn hs h
end
end Go.LA
end
