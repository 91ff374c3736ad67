import Derived.ChangeSame
import Derived.ChangeSlices
import Derived.Test.YtbokphkfojijoaaGreatDoorJ13
set_option linter.unusedSimpArgs false
set_option linter.unusedVariables false
set_option maxRecDepth 3000
set_option maxHeartbeats 16000000
section
namespace Go.LA
open Go.RowKit Go.ArrP Go.ChangeShapes
def IsRowP (w:World) (a:Option Addr) (len cap:Nat) (rs:List Sp):Prop:=SlP .u64 w (.slice a len cap) rs∧(∀ x ∈ rs,0≤x.1∧x.1<18446744073709551616∧0≤x.2∧x.2<18446744073709551616)∧rs.length=len
section
variable {H:Type} {enc:TypeId × Value→H} {P:Program} {w:World} {base:Nat} {spare:Nat→Bool} {held:Bool}
theorem open_spans {t e u:TypeId} {f0 f1:Field} {fuel:Nat} {a:Option Addr} {len cap:Nat} {x:DataW H × List MemPlace} (ht:P.underlying t=some (.slice e)) (he:P.underlying e=some (.struct #[f0,f1])) (hc:P.cellsOf e=2)
 (h0:f0.type=u) (h1:f1.type=u) (o0:f0.offset=0) (o1:f1.offset=1) (hu:P.underlying u=some (.int .u64)) (hcu:P.cellsOf u=1)
 (h:DataW.trod enc P w base spare held fuel t [.slice a len cap]=some x):∃ rs,IsRowP w a len cap rs:=by
 rcases DataW.trod_slice ht h with ⟨h2,-⟩|⟨ad,len',cap',elems,rest,n,-,h2,-,hb,hl,hm,hlen,hel,-,-⟩
 ·simp only [List.cons.injEq,Value.slice.injEq,and_true] at h2
  obtain ⟨rfl,rfl,rfl⟩:=h2;exact ⟨[],⟨rfl,none,0,rfl,Nat.le_refl _,Nat.zero_le _,λ _=>rfl,.inl rfl⟩,λ x hx=>(by cases hx),rfl⟩
 simp only [List.cons.injEq,Value.slice.injEq,and_true] at h2;obtain ⟨rfl,rfl,rfl⟩:=h2;have each:∀ i,i<len→∃ f m:Int,(0≤f∧f<18446744073709551616∧0≤m∧m<18446744073709551616)∧w.cell? (ad.add (i*2))=some (.int .u64 f)∧w.cell? (ad.add (i*2+1))=some (.int .u64 m):=λ i hi=>by
  have h3:=hel i hi;rw [List.getElem?_eq_getElem oZ,hc,Option.bind_eq_some_iff] at h3;obtain ⟨cs,hcs,hy⟩:=h3;obtain ⟨y0,y1,n',-,hcl,e0,e1⟩:=trod_struct2 he hy;rw [h0,o0,hcu] at e0;rw [h1,o1,hcu] at e1;obtain ⟨f,hf,-,wf0⟩:=DataW.trod_int hu e0;obtain ⟨m,hm',-,wf1⟩:=DataW.trod_int hu e1;have b0:=wf_u64 wf0;have b1:=wf_u64 wf1;have g0:cs[0]?=some (.int .u64 f):=by
   have:=congrArg (λ l=>l[0]?) hf
   simpa [List.getElem?_take,List.getElem?_drop] using this
  have g1:cs[1]?=some (.int .u64 m):=by
   have:=congrArg (λ l=>l[0]?) hm'
   simpa [List.getElem?_take,List.getElem?_drop] using this
  have hcell:=(World.cells?_some hcs).2.2;refine ⟨f,m,⟨b0.1,b0.2,b1.1,b1.2⟩,?_,?_⟩
  ·rw [← g0,← hcell 0 dZ,Addr.add_add,Nat.add_zero]
  ·rw [← g1,← hcell 1 dZ,Addr.add_add]
 obtain ⟨q,hq⟩:∃ q:Nat→Sp,∀ i,i<len→(0≤(q i).1∧(q i).1<18446744073709551616∧0≤(q i).2∧(q i).2<18446744073709551616)∧w.cell? (ad.add (i*2))=some (.int .u64 (q i).1)∧w.cell? (ad.add (i*2+1))=some (.int .u64 (q i).2) :=
  ⟨λ i=>if hi:i<len then (Classical.choose (each i hi),Classical.choose (Classical.choose_spec (each i hi))) else (0,0),λ i hi=>by
   have h5:=Classical.choose_spec (Classical.choose_spec (each i hi));simp only [hi,dif_pos];exact h5⟩
 obtain ⟨rs,hrs⟩:∃ rs,rs=(List.range len).map q:=⟨_,rfl⟩;have hl2:rs.length=len:=by rw [hrs];simp
 have hget:∀ i,i<len→rs.getD i (0,0)=q i:=λ i hi=>by rw [hrs];simp [List.getD,List.getElem?_range hi]
 refine ⟨rs,⟨by rw [fxA],some ad,cap,by rw [hl2],by omega,hm,(λ h=>by cases h),?_⟩,λ x hx=>?_,hl2⟩
 ·by_cases hz:len=0
  ·left;omega
  ·right
   have hx:=(hq 0 oZ).2.1;obtain ⟨b,off,spot⟩:=ad;have hs:spot=none:=by
    cases spot with
    | none=>rfl
    | some s =>
      exfalso
      rw [Nat.zero_mul,Addr.add_zero'] at hx;simp only [World.cell?] at hx
      split at hx <;> simp at hx
   subst hs;refine ⟨b,off,rfl,λ j c hj=>?_⟩;have hjl:j<len*2:=by
    have:=(List.getElem?_eq_some_iff.1 hj).1;rwa [fxA,hl2] at this
   have hi:j / 2<len:=oZ;have hat:=irA (k:=.u64) rs (j / 2) oZ;rw [hget _ hi] at hat;obtain ⟨-,c0,c1⟩:=hq (j / 2) hi;rw [Addr.add_lit] at c0 c1;have h2:j % 2=0∨j % 2=1:=oZ
   rcases h2 with h2|h2
   ·have e:=congrArg (λ l=>l[0]?) hat
    simp only [List.getElem?_take,List.getElem?_drop,List.getElem?_cons_zero] at e;rw [if_pos dZ,show j / 2*2+0=j by omega,hj] at e;rw [show j / 2*2=j by omega] at c0;rw [c0,Option.some.inj e]
   ·have e:=congrArg (λ l=>l[1]?) hat
    simp only [List.getElem?_take,List.getElem?_drop,List.getElem?_cons_succ,List.getElem?_cons_zero] at e;rw [if_pos dZ,show j / 2*2+1=j by omega,hj] at e;rw [show j / 2*2+1=j by omega] at c1;rw [c1,Option.some.inj e]
 ·rw [hrs,List.mem_map] at hx
  obtain ⟨i,hi,rfl⟩:=hx;exact (hq i (List.mem_range.1 hi)).1
theorem size_spans {t e:TypeId} {fuel:Nat} {a:Option Addr} {len cap:Nat} {d:DataW H} {ps:List MemPlace} {ts:List TypeId} {ds:List (DataW H)} (ht:P.underlying t=some (.slice e)) (hb:P.bytesOf e=16)
 (h:DataW.trod enc P w base spare held fuel t [.slice a len cap]=some (d,ps)) (hw:(DataW.weights P t d).all (·≤reachBytes)=true):(1+len)*16≤140737488355328:=by
 rcases DataW.trod_slice ht h with ⟨h2,-⟩|⟨ad,len',cap',elems,rest,n,-,h2,hd,-,hl,-,hlen,-,-,-⟩
 ·simp only [List.cons.injEq,Value.slice.injEq,and_true] at h2
  obtain ⟨rfl,rfl,rfl⟩:=h2;decide
 ·simp only [List.cons.injEq,Value.slice.injEq,and_true] at h2
  obtain ⟨rfl,rfl,rfl⟩:=h2;obtain ⟨rfl,-⟩:=Prod.mk.inj hd;unfold DataW.weights at hw;rw [ht] at hw;simp only [List.all_cons,Bool.and_eq_true,decide_eq_true_eq,List.length_map,hb] at hw;have h3:=hw.1;unfold reachBytes at h3;rw [hlen] at h3;have h4:len*16≤(len+rest.length)*16:=Nat.mul_le_mul_right _ oZ;omega
theorem sized_at {gs:List (DataW H)} {vs:List TypeId}:∀ {ts:List TypeId} {ds:List (DataW H)} {j:Nat} {t:TypeId} {d:DataW H},(DataW.weightsEach P (ts++vs) (ds++gs)).all (·≤reachBytes)=true→ts[j]?=some t→ds[j]?=some d→(DataW.weights P t d).all (·≤reachBytes)=true
 | [],_,_,_,_,_,h,_=>by cases h
 | _::_,[],_,_,_,_,_,h=>by cases h
 | t::ts,d::ds,0,_,_,hw,h1,h2=>by
   simp only [List.getElem?_cons_zero,Option.some.injEq] at h1 h2;subst h1;subst h2;simp only [List.cons_append,DataW.weightsEach,List.all_append,Bool.and_eq_true] at hw;exact hw.1
 | t::ts,d::ds,j+1,_,_,hw,h1,h2=>by
   simp only [List.cons_append,DataW.weightsEach,List.all_append,Bool.and_eq_true] at hw;exact sized_at hw.2 h1 h2
end
end Go.LA
end
section
namespace Go.LA
open Go.RowKit Go.ArrP
structure SpW (p:Nat→Bool) (T n:Nat) (lo hi:Nat→Nat):Prop where
 lt:∀ i,i<n→lo i<hi i∧hi i≤T
 up:∀ i,i+1<n→hi i<lo (i+1)
 on:∀ i,i<n→∀ y,lo i≤y→y<hi i→p y=true
 off:∀ i,i+1<n→∀ y,hi i≤y→y<lo (i+1)→p y=false
 pre:∀ y,(0<n→y<lo 0)→y<T→p y=false
 post:0<n→∀ y,hi (n-1)≤y→y<T→p y=false
theorem svA {α:Type} {d x:α} {l:List α} {i:Nat} (hl:0<l.length):(l.set (l.length-1) x).getD i d=if i=l.length-1 then x else l.getD i d:=by
 rw [List.getD_eq_getElem?_getD,List.getElem?_set,List.getD_eq_getElem?_getD]
 by_cases e:l.length-1=i
 ·rw [if_pos e,if_pos oZ,if_pos e.symm];rfl
 ·rw [if_neg e,if_neg (λ h=>e h.symm)]
theorem i5A (p:Nat→Bool):∀ T,∃ lo hi:Nat→Nat,SpW p T (spL p T).length lo hi∧∀ i,i<(spL p T).length→(spL p T).getD i (0,0)=((lo i:Int),(hi i:Int))
 | 0=>⟨λ _=>0,λ _=>0,by
  rw [gwA];exact ⟨λ i h=>by simp at h,λ i h=>by simp at h,λ i h=>by simp at h,λ i h=>by simp at h,λ y _ h=>by omega,λ h=>by simp at h⟩,λ i h=>by rw [gwA] at h;simp at h⟩
 | T+1=>by
   obtain ⟨lo,hi,W,hS⟩:=i5A p T;cases hp:p T with
   | false =>
     rw [edA (p:=p) (Nat.le_succ T) (λ x h1 h2=>by obtain rfl:x=T:=oZ
                                                   exact hp)]
     refine ⟨lo,hi,⟨λ i h=>⟨(W.lt i h).1,by have:=(W.lt i h).2;omega⟩,W.up,W.on,W.off,λ y h1 h2=>?_,λ h y h1 h2=>?_⟩,hS⟩
     ·by_cases e:y=T
      ·subst e;exact hp
      ·exact W.pre y h1 oZ
     ·by_cases e:y=T
      ·subst e;exact hp
      ·exact W.post h y h1 oZ
   | true =>
     have hon:∀ x,T≤x→x<T+1→p x=true:=λ x h1 h2=>by
      obtain rfl:x=T:=oZ;exact hp
     cases hb:bel p T with
     | false =>
       rw [ppA (Nat.lt_succ_self T) hon hb];obtain ⟨S,hSd⟩:∃ S,S=spL p T:=⟨_,rfl⟩;rw [← hSd] at W hS ⊢;have hlast:0<S.length→hi (S.length-1)<T:=λ h0=>by
        have h1:=(W.lt (S.length-1) oZ).2
        by_cases e:hi (S.length-1)=T
        ·exfalso
         have h2:=W.lt (S.length-1) oZ;have h3:=W.on (S.length-1) oZ (T-1) oZ oZ;have:bel p T=true:=by
          rw [show T=(T-1)+1 by omega];exact h3
         rw [hb] at this;cases this
        ·omega
       refine ⟨λ i=>if i=S.length then T else lo i,λ i=>if i=S.length then T+1 else hi i,?_,?_⟩
       ·rw [List.length_append,List.length_singleton]
        refine ⟨λ i h=>?_,λ i h=>?_,λ i h y h1 h2=>?_,λ i h y h1 h2=>?_,λ y h1 h2=>?_,λ h y h1 h2=>?_⟩
        ·by_cases e:i=S.length
         ·simp only [if_pos e];omega
         ·simp only [if_neg e];have:=W.lt i oZ;omega
        ·by_cases e:i+1=S.length
         ·simp only [if_pos e,if_neg (show ¬ i=S.length by omega)]
          have:=hlast oZ;rwa [show S.length-1=i by omega] at this
         ·simp only [if_neg e,if_neg (show ¬ i=S.length by omega)];exact W.up i oZ
        ·by_cases e:i=S.length
         ·simp only [if_pos e] at h1 h2;exact hon y h1 h2
         ·simp only [if_neg e] at h1 h2;exact W.on i oZ y h1 h2
        ·by_cases e:i+1=S.length
         ·simp only [if_pos e,if_neg (show ¬ i=S.length by omega)] at h1 h2
          exact W.post oZ y (by rwa [show S.length-1=i by omega]) h2
         ·simp only [if_neg e,if_neg (show ¬ i=S.length by omega)] at h1 h2;exact W.off i oZ y h1 h2
        ·have h3:=h1 oZ
         by_cases e:0=S.length
         ·simp only [if_pos e] at h3;exact W.pre y (λ h=>by omega) h3
         ·simp only [if_neg e] at h3
          have:=W.lt 0 oZ;exact W.pre y (λ _=>h3) oZ
        ·simp only [if_pos (show S.length+1-1=S.length by omega)] at h1;omega
       ·intro i h
        rw [List.length_append,List.length_singleton] at h
        by_cases e:i=S.length
        ·simp only [if_pos e]
         rw [dfA oZ,e,Nat.sub_self];rfl
        ·simp only [if_neg e]
         rw [exA oZ];exact hS i oZ
     | true =>
       obtain ⟨h0,he⟩:=pqA (Nat.lt_succ_self T) hon hb;have hend:((spL p T).getD ((spL p T).length-1) (0,0)).2=T:=(sp_bel.1 hb).2;rw [he];obtain ⟨S,hSd⟩:∃ S,S=spL p T:=⟨_,rfl⟩;rw [← hSd] at W hS h0 hend ⊢;rw [hS _ oZ] at hend;have hend':hi (S.length-1)=T:=by dsimp only at hend;omega
       refine ⟨lo,λ i=>if i=S.length-1 then T+1 else hi i,?_,?_⟩
       ·rw [List.length_set]
        refine ⟨λ i h=>?_,λ i h=>?_,λ i h y h1 h2=>?_,λ i h y h1 h2=>?_,λ y h1 h2=>?_,λ h y h1 h2=>?_⟩
        ·have:=W.lt i h
         by_cases e:i=S.length-1
         ·simp only [if_pos e];omega
         ·simp only [if_neg e];omega
        ·simp only [if_neg (show ¬ i=S.length-1 by omega)];exact W.up i h
        ·by_cases e:i=S.length-1
         ·simp only [if_pos e] at h2
          by_cases e2:y=T
          ·subst e2;exact hp
          ·exact W.on i h y h1 (by rw [e,hend'];omega)
         ·simp only [if_neg e] at h2;exact W.on i h y h1 h2
        ·simp only [if_neg (show ¬ i=S.length-1 by omega)] at h1;exact W.off i h y h1 h2
        ·have:=h1 h0
         have:=W.lt 0 h0;exact W.pre y h1 oZ
        ·simp only [if_true] at h1;omega
       ·intro i h
        rw [List.length_set] at h;rw [svA h0]
        by_cases e:i=S.length-1
        ·simp only [if_pos e]
         rw [hS _ oZ,e]
        ·simp only [if_neg e];exact hS i h
def c6A (n:Nat) (lo hi:Nat→Nat) (i:Nat) (b:Bool):Nat:=if n≤i then 4611686018427387904 else if b then hi i else lo i
structure EdgeOK (p:Nat→Bool) (T n:Nat) (lo hi:Nat→Nat) (i:Nat) (b:Bool) (last:Nat):Prop where
 le:i≤n
 inn:b=true→i<n
 ge:last≤c6A n lo hi i b
 is:∀ t,last≤t→t<c6A n lo hi i b→t<T→p t=b
variable {p:Nat→Bool} {T n:Nat} {lo hi:Nat→Nat}
theorem jnA (W:SpW p T n lo hi):EdgeOK p T n lo hi 0 false 0:=by
 refine ⟨Nat.zero_le _,λ h=>Bool.noConfusion h,Nat.zero_le _,λ t _ h2 h3=>W.pre t (λ h0=>?_) h3⟩;unfold c6A at h2;rw [if_neg oZ] at h2;exact h2
theorem liA {i:Nat} {b:Bool} {last next:Nat} (h:EdgeOK p T n lo hi i b last) (h1:last≤next) (h2:next≤c6A n lo hi i b):EdgeOK p T n lo hi i b next :=
 ⟨h.le,h.inn,h2,λ t g1 g2 g3=>h.is t (Nat.le_trans h1 g1) g2 g3⟩
theorem raA (W:SpW p T n lo hi) {i:Nat} {b:Bool} (h:i<n):c6A n lo hi i b≤T:=by
 have:=W.lt i h;unfold c6A;rw [if_neg oZ];cases b
 ·exact Nat.le_of_lt (Nat.lt_of_lt_of_le this.1 this.2)
 ·exact this.2
theorem r9A (W:SpW p T n lo hi) {i last:Nat} (h:EdgeOK p T n lo hi i false last) (hi':i<n):EdgeOK p T n lo hi i true (c6A n lo hi i false):=by
 have:=W.lt i hi';have e1:c6A n lo hi i false=lo i:=by unfold c6A;rw [if_neg oZ];rfl
 have e2:c6A n lo hi i true=hi i:=by unfold c6A;rw [if_neg oZ];rfl
 refine ⟨h.le,λ _=>hi',by rw [e1,e2];omega,λ t g1 g2 _=>?_⟩;rw [e1] at g1;rw [e2] at g2;exact W.on i hi' t g1 g2
theorem nzA (W:SpW p T n lo hi) {i last:Nat} (hT:T≤4294967296) (h:EdgeOK p T n lo hi i true last):EdgeOK p T n lo hi (i+1) false (c6A n lo hi i true):=by
 have hi':=h.inn rfl;have:=W.lt i hi';have e1:c6A n lo hi i true=hi i:=by unfold c6A;rw [if_neg oZ];rfl
 rw [e1]
 by_cases e:i+1<n
 ·have e2:c6A n lo hi (i+1) false=lo (i+1):=by unfold c6A;rw [if_neg oZ];rfl
  have:=W.up i e;exact ⟨hi',λ h=>Bool.noConfusion h,by rw [e2];omega,λ t g1 g2 _=>by rw [e2] at g2;exact W.off i e t g1 g2⟩
 ·have e2:c6A n lo hi (i+1) false=4611686018427387904:=by unfold c6A;rw [if_pos oZ]
  exact ⟨hi',λ h=>Bool.noConfusion h,by rw [e2];omega,λ t g1 _ g3=>W.post oZ t (by rwa [show n-1=i by omega]) g3⟩
theorem rmA {F:Bool→Bool→Bool} {q:Nat→Bool} {n':Nat} {lo' hi':Nat→Nat} {i k:Nat} {a b:Bool} {last next:Nat} (h:EdgeOK p T n lo hi i a last) (h':EdgeOK q T n' lo' hi' k b last)
 (h1:next≤c6A n lo hi i a) (h2:next≤c6A n' lo' hi' k b) (hT:next≤T):∀ t,last≤t→t<next→two F p q t=F a b:=λ t g1 g2=>by
 unfold two;rw [h.is t g1 oZ oZ,h'.is t g1 oZ oZ]
def sjA (T n:Nat) (lo:Nat→Nat) (i:Nat):Nat:=if i<n then lo i else T
theorem nfA {i:Nat} (h:i<n):sjA T n lo i=lo i:=if_pos h
theorem m7A {i:Nat} (h:¬ i<n):sjA T n lo i=T:=if_neg h
theorem wpA (W:SpW p T n lo hi) {i:Nat} (h:i<n):hi i≤sjA T n lo (i+1)∧∀ y,hi i≤y→y<sjA T n lo (i+1)→p y=false:=by
 by_cases e:i+1<n
 ·rw [nfA e];exact ⟨Nat.le_of_lt (W.up i e),W.off i e⟩
 ·rw [m7A e]
  refine ⟨(W.lt i h).2,λ y h1 h2=>W.post oZ y ?_ h2⟩;rwa [show n-1=i by omega]
end Go.LA
end
