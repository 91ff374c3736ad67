import Derived.Laws.StructEq
import Derived.Test.YtbokphkfojijoaaGreatDoorM12
import Derived.Test.YtbokphkfojijoaaGreatDoorM13
import Derived.Test.YtbokphkfojijoaaGreatDoorM14
section
set_option linter.unusedSimpArgs false
set_option linter.unusedVariables false
set_option maxRecDepth 3000
namespace Go.Proofs.YtbokphkfojijoaaGreatDoor
open Go.LA Go.ArrP Go.RowKit
variable {A:Nat → Prop}
theorem s1A {w:World} {va vw vr:Value} {kd:Int} {p:Nat → Bool} {x:Nat} (h:SlI .u16 w va (ahA p 65536)) (hx:x ≤ 65536):Fc Tryz.prog 140 #[.agg #[.int .u8 kd,va,vw,vr],.int .i64 x] w (Ret w (.val (.int .i64 (cnt p x)))):=by
  have hb:=ilA p x hx
  have hl:=b7A p 65536
  have hn:(ahA p 65536).length ≤ 4611686018427387903:=by rw [b7A];have:=cnt_le p 65536;omega
  obtain ⟨n,hnn⟩:∃ n,n=(ahA p 65536).length:=⟨_,rfl⟩
  by_cases h0:x=0
  · subst h0
    refine Fc.of (args:=[_,_]) Tryz.func140 rfl rfl Tryz.ntmps140 (Nat.le_of_ble_eq_true rfl) ?_
    repeat' (first|(refine oLA ?_;first|refine a0A rfl ?_|refine dvA ?_|refine wOp ?_|(refine wCm ?_ ?_<;>intro hc)|(refine wNl hK ?_;clear hK K))|refine wG ?_|(refine wCR ?_;intro K hK)|fail)
    all_goals skip
    all_goals exact abA rfl rfl (Ext.refl _) rfl
  by_cases h1:x=65536
  · subst h1
    refine Fc.of (args:=[_,_]) Tryz.func140 rfl rfl Tryz.ntmps140 (Nat.le_of_ble_eq_true rfl) ?_
    repeat' (first|(refine oLA ?_;first|refine a0A rfl ?_|refine dvA ?_|(refine dkA ?_;refine azA rfl _ rfl rfl (by exact (HasI.val h).c) ?_)|refine wOp ?_|(refine wCm ?_ ?_<;>intro hc)|(refine wNl hK ?_;clear hK K))|refine wG ?_|(refine wCR ?_;intro K hK)|fail)
    all_goals skip
    all_goals exact abA rfl rfl (Ext.refl _) (by rw [hl])
  · have q0:True:=trivial
    refine Fc.of (args:=[_,_]) Tryz.func140 rfl rfl Tryz.ntmps140 (Nat.le_of_ble_eq_true rfl) ?_
    repeat' (first|(refine oLA ?_;first|refine a0A rfl ?_|refine dvA ?_|refine wOp ?_|(refine wCm ?_ ?_<;>intro hc)|(refine oCv ?_;first|(refine oC 179 ?_;refine a3A (f:=179) rfl rfl rfl rfl  (.tup2 (.val (.int .i64 (bsS (ahA p 65536) x))) (.val (.bool (dcA (ahA p 65536) x)))) (by intro u1 u2 w e hu1 hu2;(try obtain rfl:u1=_:=hu1);(try obtain rfl:u2=_:=hu2);exact w9A _ _ (ahA p 65536) x (h.ext e) hn) ?_))|(refine wNl hK ?_;clear hK K))|refine wG ?_|(refine wCR ?_;intro K hK)|fail)
    all_goals skip
    all_goals exact abA rfl rfl (Ext.refl _) (by rw [hb])
theorem pnA {w:World} {va vw vr:Value} {kd:Int} {p:Nat → Bool} {x:Nat} (h:SlI .u64 w vw (wordsOf p)) (hx:x ≤ 65536):Fc Tryz.prog 141 #[.agg #[.int .u8 kd,va,vw,vr],.int .i64 x] w (Ret w (.val (.int .i64 (cnt p x)))):=by
  refine Fc.of (args:=[_,_]) Tryz.func141 rfl rfl Tryz.ntmps141 (Nat.le_of_ble_eq_true rfl) ?_
  repeat' (first|(refine oLA ?_;first|refine a0A rfl ?_|refine dvA ?_|refine wOp ?_|(refine wCm ?_ ?_<;>intro hc)|(refine oCv ?_;first|(refine oC 184 ?_;refine a3A (f:=184) rfl rfl rfl rfl  (.val (.int .i64 (cnt p x))) (by intro u1 u2 w e hu1 hu2;(try obtain rfl:u1=_:=hu1);(try obtain rfl:u2=_:=hu2);exact anA (by rw [show (min (max (x:Int) 0) 65536).toNat=x by omega]) (zgA _ _ p (h.ext e) x (by omega))) ?_))|(refine wNl hK ?_;clear hK K))|refine wG ?_|(refine wCR ?_;intro K hK)|fail)
  all_goals skip
  all_goals exact abA rfl rfl (Ext.refl _) rfl
theorem q3A {w:World} {va vw vr:Value} {kd:Int} {p:Nat → Bool} {x:Nat} (h:SlR w vr (auA p)) (hx:x ≤ 65536):Fc Tryz.prog 142 #[.agg #[.int .u8 kd,va,vw,vr],.int .i64 x] w (Ret w (.val (.int .i64 (cnt p x)))):=by
  have hr:j4A (auA p) x=cnt p x:=by rw [show j4A (auA p) x=_ from npA p x 65536,show (min (max (x:Int) 0) (65536:Nat)).toNat=x by omega]
  have hn:(auA p).length ≤ 70000:=by have:=dnA p;omega
  refine Fc.of (args:=[_,_]) Tryz.func142 rfl rfl Tryz.ntmps142 (Nat.le_of_ble_eq_true rfl) ?_
  repeat' (first|(refine oLA ?_;first|refine a0A rfl ?_|refine dvA ?_|refine wOp ?_|(refine wCm ?_ ?_<;>intro hc)|(refine oCv ?_;first|(refine oC 185 ?_;refine a3A (f:=185) rfl rfl rfl rfl  (.val (.int .i64 (cnt p x))) (by intro u1 u2 w e hu1 hu2;(try obtain rfl:u1=_:=hu1);(try obtain rfl:u2=_:=hu2);exact anA (by rw [hr]) (t9A _ _ (auA p) x (h.ext e) (e3A p) hn (by omega))) ?_))|(refine wNl hK ?_;clear hK K))|refine wG ?_|(refine wCR ?_;intro K hK)|fail)
  all_goals skip
  all_goals exact abA rfl rfl (Ext.refl _) rfl
theorem a3B {w:World} {v:Value} {p:Nat → Bool} {kk:Int} {x:Nat} (h:Cn A w v p kk) (hx:x ≤ 65536):Fc Tryz.prog 107 #[v,.int .i64 x] w (Ret w (.val (.int .i64 (cnt p x)))):=by
  have hk:∀ w',Ext w w' → _:=fun w' e=>egA (h.ext e)
  obtain ⟨hp,⟨rfl,kd,va,hkd,rfl,ho⟩ | ⟨rfl,vw,rfl,ho⟩ | ⟨rfl,vr,rfl,ho⟩⟩:=h
  · skip
    refine Fc.of (args:=[_,_]) Tryz.func107 rfl rfl Tryz.ntmps107 (Nat.le_of_ble_eq_true rfl) ?_
    repeat' (first|(refine oLA ?_;first|refine a0A rfl ?_|refine dvA ?_|refine cyA (c:=.agg #[.nilFunc,.func (.func 140) #[] #[],.func (.func 141) #[] #[],.func (.func 142) #[] #[]]) rfl rfl rfl rfl (fun _=>by kernel_rfl) ?_|(refine drA 1 (c:=.func (.func 140) #[] #[]) rfl rfl (fun _=>rfl) rfl rfl rfl (by decide) (fun _=>by kernel_rfl) ?_)|refine wOp ?_|(refine wCm ?_ ?_<;>intro hc)|(refine oCv ?_;first|(refine oC 63 ?_;refine a2A (f:=63) rfl rfl rfl _ (by intro u1 w' e hu1;obtain rfl:u1=_:=hu1;exact hk w' e) ?_)|(refine a3A (f:=140) rfl rfl rfl rfl (.val (.int .i64 (cnt p x))) (by intro u1 u2 w' e hu1 hu2;obtain rfl:u1=_:=hu1;obtain rfl:u2=_:=hu2;exact s1A (ho.ext e).slI hx) ?_))|(refine wNl hK ?_;clear hK K))|refine wG ?_|(refine wCR ?_;intro K hK)|fail)
    all_goals skip
    all_goals exact abA rfl rfl (Ext.refl _) rfl
  · skip
    refine Fc.of (args:=[_,_]) Tryz.func107 rfl rfl Tryz.ntmps107 (Nat.le_of_ble_eq_true rfl) ?_
    repeat' (first|(refine oLA ?_;first|refine a0A rfl ?_|refine dvA ?_|refine cyA (c:=.agg #[.nilFunc,.func (.func 140) #[] #[],.func (.func 141) #[] #[],.func (.func 142) #[] #[]]) rfl rfl rfl rfl (fun _=>by kernel_rfl) ?_|(refine drA 2 (c:=.func (.func 141) #[] #[]) rfl rfl (fun _=>rfl) rfl rfl rfl (by decide) (fun _=>by kernel_rfl) ?_)|refine wOp ?_|(refine wCm ?_ ?_<;>intro hc)|(refine oCv ?_;first|(refine oC 63 ?_;refine a2A (f:=63) rfl rfl rfl _ (by intro u1 w' e hu1;obtain rfl:u1=_:=hu1;exact hk w' e) ?_)|(refine a3A (f:=141) rfl rfl rfl rfl (.val (.int .i64 (cnt p x))) (by intro u1 u2 w' e hu1 hu2;obtain rfl:u1=_:=hu1;obtain rfl:u2=_:=hu2;exact pnA (ho.ext e).slI hx) ?_))|(refine wNl hK ?_;clear hK K))|refine wG ?_|(refine wCR ?_;intro K hK)|fail)
    all_goals skip
    all_goals exact abA rfl rfl (Ext.refl _) rfl
  · skip
    refine Fc.of (args:=[_,_]) Tryz.func107 rfl rfl Tryz.ntmps107 (Nat.le_of_ble_eq_true rfl) ?_
    repeat' (first|(refine oLA ?_;first|refine a0A rfl ?_|refine dvA ?_|refine cyA (c:=.agg #[.nilFunc,.func (.func 140) #[] #[],.func (.func 141) #[] #[],.func (.func 142) #[] #[]]) rfl rfl rfl rfl (fun _=>by kernel_rfl) ?_|(refine drA 3 (c:=.func (.func 142) #[] #[]) rfl rfl (fun _=>rfl) rfl rfl rfl (by decide) (fun _=>by kernel_rfl) ?_)|refine wOp ?_|(refine wCm ?_ ?_<;>intro hc)|(refine oCv ?_;first|(refine oC 63 ?_;refine a2A (f:=63) rfl rfl rfl _ (by intro u1 w' e hu1;obtain rfl:u1=_:=hu1;exact hk w' e) ?_)|(refine a3A (f:=142) rfl rfl rfl rfl (.val (.int .i64 (cnt p x))) (by intro u1 u2 w' e hu1 hu2;obtain rfl:u1=_:=hu1;obtain rfl:u2=_:=hu2;exact q3A (ho.ext e).slR hx) ?_))|(refine wNl hK ?_;clear hK K))|refine wG ?_|(refine wCR ?_;intro K hK)|fail)
    all_goals skip
    all_goals exact abA rfl rfl (Ext.refl _) rfl
end Go.Proofs.YtbokphkfojijoaaGreatDoor
end
section
set_option linter.unusedSimpArgs false
set_option linter.unusedVariables false
set_option maxRecDepth 3000
namespace Go.Proofs.YtbokphkfojijoaaGreatDoor
open Go.LA Go.ArrP Go.RowKit
theorem dbA:El Tryz.prog 92 96 (.agg #[.int .u8 0,.slice none 0 0,.slice none 0 0,.slice none 0 0]) 4 80:=⟨rfl,rfl,rfl,by decide⟩
theorem rrA (w:World) (v:Value) (n:Nat) (cs:List Value) (h:SlC w v n 4 cs) (h1:∀ u ∈ cs,u.oneCell'=true) (hb:n * 80 ≤ 140737488355328):Fc Tryz.prog 109 #[v] w (Ret w (.pred (j5A w.heap.size 96 4 n cs))):=by
  obtain ⟨h0,a,cap,rfl,hc,hm,hn,hcs⟩:=id h
  have hlen:=h.len
  cases a with
  | none =>
    obtain rfl:=hn rfl
    obtain rfl:n=0:=by omega
    obtain rfl:cs=[]:=List.eq_nil_of_length_eq_zero (by omega)
    refine Fc.of (args:=[_]) Tryz.func109 rfl rfl Tryz.ntmps109 (Nat.le_of_ble_eq_true rfl) ?_
    repeat' (first|(refine oLA ?_;first|refine a0A rfl ?_|refine bpA (c:=.bool true) rfl rfl rfl (fun _=>rfl) ?_|refine wOp ?_|(refine wCm ?_ ?_<;>intro hc)|(refine wNl hK ?_;clear hK K))|refine wG ?_|(refine wCR ?_;intro K hK)|(refine oPX ?_;first|exact akA rfl rfl (Ext.refl _) (fun u w2 e2 hu=>by obtain rfl:u=_:=hu;exact Own.nil))|fail)
  | some a =>
    refine Fc.of (args:=[_]) Tryz.func109 rfl rfl Tryz.ntmps109 (Nat.le_of_ble_eq_true rfl) ?_
    repeat' (first|(refine oLA ?_;first|refine a0A rfl ?_|refine bpA (c:=.bool false) rfl rfl rfl (fun _=>rfl) ?_|refine ivA 96 (s:=4) rfl (fun _=>by kernel_rfl) ?_|(refine a4A (hK _ _ (b8A 5 rfl (fun v5 w5 e5 h5=>?_)));clear hK K;have h6:=h.ext e5;have ho:Own w.heap.size _ _ w5 v5 0 []:=h5;refine aeA (by kernel_rfl) (fun K hK=>?_))|(refine a4A (hK _ _ (cxA rfl (by decide) dbA rfl ho rfl (HasC.val h6) h1 (by rw [Nat.zero_add];unfold maxLen;omega) (by rw [Nat.zero_add];exact hb) e5.size (fun v' w2 w3 he2 ho3 hg3=>?_)));clear hK K;dsimp only [vals];refine aeA (by kernel_rfl) (fun K hK=>?_))|refine wOp ?_|(refine wCm ?_ ?_<;>intro hc)|(refine wNl hK ?_;clear hK K))|refine wG ?_|(refine wCR ?_;intro K hK)|fail)
    exact akA rfl rfl ((e5.trans he2).grown hg3 (fun q hq=>(Own.lt ho q hq).1)) (fun u w4 e4 hu=>by
      obtain rfl:u=_:=hu
      have h9:Own w.heap.size 96 4 w3 u n cs:=by simpa using ho3
      exact h9.ext e4)
abbrev tS:Nat:=102
abbrev tK:Nat:=31
abbrev Qd:=Int × Value × Value × Value
def qv (q:Qd):Value:=.agg #[.int .u8 q.1,q.2.1,q.2.2.1,q.2.2.2]
def qcs (q:Qd):List Value:=[.int .u8 q.1,q.2.1,q.2.2.1,q.2.2.2]
def q0:Qd:=(0,nilS,nilS,nilS)
def clA:List Qd → List Value
  | []=>[]
  | q :: r=>.int .u8 q.1 :: q.2.1 :: q.2.2.1 :: q.2.2.2 :: clA r
theorem ezA:∀ a b,clA (a ++ b)=clA a ++ clA b
  | [],b=>rfl
  | x :: a,b=>by simp only [List.cons_append,clA,ezA a b]
theorem fjA:∀ (a:List Qd) (j:Nat),j < a.length → ((clA a).drop (j * 4)).take 4=qcs (a.getD j q0)
  | [],j,h=>by simp at h
  | x :: a,0,_=>rfl
  | x :: a,j + 1,h=>by
    have ih:=fjA a j (by simpa using h)
    rw [show (j + 1) * 4=j * 4 + 4 by omega]
    exact ih
theorem jkA:∀ (a:List Qd),∀ u ∈ clA a,∃ j,j < a.length ∧ u ∈ qcs (a.getD j q0)
  | [],u,h=>by cases h
  | x :: a,u,h=>by
    have h':u ∈ qcs x ++ clA a:=h
    rcases List.mem_append.1 h' with h1 | h1
    · exact ⟨0,by simp,h1⟩
    · obtain ⟨j,h2,h3⟩:=jkA a u h1
      exact ⟨j + 1,by simpa using h2,h3⟩
theorem Cn.qd {A:Nat → Prop} {w:World} {v:Value} {p:Nat → Bool} {kk:Int} (h:Cn A w v p kk):∃ q:Qd,v=qv q ∧ (∀ u ∈ qcs q,u.oneCell'=true):=by
  obtain ⟨kd,va,vw,vr,rfl,-,-,-,-,-,-,h1⟩:=h.parts
  exact ⟨(kd,va,vw,vr),rfl,h1⟩
theorem Cn.mono {A A':Nat → Prop} {w:World} {v:Value} {p:Nat → Bool} {kk:Int} (h:Cn A w v p kk) (hA:∀ k,k < w.heap.size → A k → A' k):Cn A' w v p kk:=by
  obtain ⟨hp,⟨h1,kd,va,h2,h3,h4⟩ | h | h⟩:=h
  · exact ⟨hp,.inl ⟨h1,kd,va,h2,h3,h4.1,fun b hb=>hA b (Own.lt h4.1 b hb).2 (h4.2 b hb)⟩⟩
  · exact ⟨hp,.inr (.inl h)⟩
  · exact ⟨hp,.inr (.inr h)⟩
def Plain (A R:Nat → Prop) (w:World):Prop:=∀ k,R k → ∃ cur e j,w.heap[k]?=some (.cells cur e j) ∧ 61 ≠ e ∧ 105 ≠ e ∧ (A k → 31 ≠ e)
theorem Cn.fr {A R:Nat → Prop} {w w':World} {v:Value} {p:Nat → Bool} {kk:Int} (h:Cn A w v p kk) (hf:Fr R w w') (hR:Plain A R w):Cn A w' v p kk:=by
  obtain ⟨hp,⟨h1,kd,va,h2,h3,h4⟩ | ⟨h1,vw,h3,h4⟩ | ⟨h1,vr,h3,h4⟩⟩:=h
  · refine ⟨hp,.inl ⟨h1,kd,va,h2,h3,hf.own h4.1 (fun k hk hr=>?_),h4.2⟩⟩
    obtain ⟨cur,e,j,hb,ne1,ne2,ne3⟩:=hR k hr
    exact Own.apart h4.1 hb (ne3 (h4.2 k hk)) hk
  · refine ⟨hp,.inr (.inl ⟨h1,vw,h3,hf.own h4 (fun k hk hr=>?_)⟩)⟩
    obtain ⟨cur,e,j,hb,ne1,ne2,ne3⟩:=hR k hr
    exact Own.apart h4 hb ne1 hk
  · refine ⟨hp,.inr (.inr ⟨h1,vr,h3,hf.own h4 (fun k hk hr=>?_)⟩)⟩
    obtain ⟨cur,e,j,hb,ne1,ne2,ne3⟩:=hR k hr
    exact Own.apart h4 hb ne2 hk
structure RS (A:Nat → Prop) (w:World) (b:Nat) (kv lv:Value) (p:Nat → Bool):Prop where
  hb:w.heap[b]?=some (.cells #[kv,lv] tS (0,0))
  hk:OwnI 0 tK .u16 w kv (blA p)
  top:∀ x,TOP ≤ x → p x=false
  hl:∃ Q:List Qd,Q.length=nk p ∧ Own 0 tC 4 w lv (nk p) (clA Q) ∧ ∀ i,i < nk p → Cn (fun k=>A k ∧ kv.ownBlock ≠ some k) w (qv (Q.getD i q0)) (blk p (kp p i)) (apA (blk p (kp p i)))
def onw (b:Nat) (kv lv:Value) (k:Nat):Prop:=k=b ∨ kv.ownBlock=some k ∨ lv.ownBlock=some k
theorem RS.ext {A:Nat → Prop} {w w':World} {b:Nat} {kv lv:Value} {p:Nat → Bool} (h:RS A w b kv lv p) (e:Ext w w'):RS A w' b kv lv p:=by
  obtain ⟨Q,h1,h2,h3⟩:=h.hl
  exact ⟨e.block h.hb,h.hk.ext e,h.top,Q,h1,h2.ext e,fun i hi=>(h3 i hi).ext e⟩
theorem atA {base e s n:Nat} {w:World} {v:Value} {cs:List Value} (h:Own base e s w v n cs) {k:Nat} (hk:v.ownBlock=some k):∃ cur,w.heap[k]?=some (.cells cur e (0,0)):=by
  rcases h.2 with ⟨h1,h0⟩ | ⟨gb,cap,cur,rfl,hgb,hg,-⟩
  · rw [h1] at hk;cases hk
  · cases hk;exact ⟨cur,hg⟩
theorem RS.lt {A:Nat → Prop} {w:World} {b:Nat} {kv lv:Value} {p:Nat → Bool} (h:RS A w b kv lv p) {k:Nat} (hk:onw b kv lv k):k < w.heap.size:=by
  obtain ⟨Q,h1,h2,h3⟩:=h.hl
  rcases hk with rfl | hk | hk
  · exact wfA h.hb
  · exact (Own.lt h.hk k hk).2
  · exact (Own.lt h2 k hk).2
theorem RS.plainA {A A':Nat → Prop} {w:World} {b:Nat} {kv lv:Value} {p:Nat → Bool} (h:RS A w b kv lv p) (hA:∀ k,kv.ownBlock=some k → ¬ A' k):Plain A' (onw b kv lv) w:=by
  obtain ⟨Q,h1,h2,h3⟩:=h.hl
  rintro k (rfl | hk | hk)
  · exact ⟨_,_,_,h.hb,by decide,by decide,fun _=>by decide⟩
  · obtain ⟨cur,hc⟩:=atA h.hk hk
    exact ⟨_,_,_,hc,by decide,by decide,fun ha=>absurd ha (hA k hk)⟩
  · obtain ⟨cur,hc⟩:=atA h2 hk
    exact ⟨_,_,_,hc,by decide,by decide,fun _=>by decide⟩
theorem Plain.mono {A A' R:Nat → Prop} {w:World} (h:Plain A R w) (hA:∀ k,A' k → A k):Plain A' R w:=fun k hk=>by
  obtain ⟨cur,e,j,h1,h2,h3,h4⟩:=h k hk
  exact ⟨cur,e,j,h1,h2,h3,fun ha=>h4 (hA k ha)⟩
theorem RS.mono {A A':Nat → Prop} {w:World} {b:Nat} {kv lv:Value} {p:Nat → Bool} (h:RS A w b kv lv p) (hA:∀ k,k < w.heap.size → A k → kv.ownBlock ≠ some k → A' k):RS A' w b kv lv p:=by
  obtain ⟨Q,h1,h2,h3⟩:=h.hl
  exact ⟨h.hb,h.hk,h.top,Q,h1,h2,fun i hi=>(h3 i hi).mono fun k hk ha=>⟨hA k hk ha.1 ha.2,ha.2⟩⟩
theorem RS.fr {A R:Nat → Prop} {w w':World} {b:Nat} {kv lv:Value} {p:Nat → Bool} (h:RS A w b kv lv p) (hf:Fr R w w') (hR:Plain A R w) (hB:∀ k,onw b kv lv k → ¬ R k):RS A w' b kv lv p:=by
  obtain ⟨Q,h1,h2,h3⟩:=h.hl
  exact ⟨hf.at h.hb (hB b (.inl rfl)),hf.own h.hk (fun k hk=>hB k (.inr (.inl hk))),h.top,Q,h1,hf.own h2 (fun k hk=>hB k (.inr (.inr hk))),fun i hi=>(h3 i hi).fr hf (hR.mono fun k hk=>hk.1)⟩
def RSet (B A:Nat → Prop) (w:World) (v:Value) (p:Nat → Bool):Prop:=∃ b kv lv,v=.pointer (some ⟨b,0,none⟩) ∧ RS A w b kv lv p ∧ ∀ k,onw b kv lv k → B k
theorem RSet.ext {B A:Nat → Prop} {w w':World} {v:Value} {p:Nat → Bool} (h:RSet B A w v p) (e:Ext w w'):RSet B A w' v p:=by
  obtain ⟨b,kv,lv,h1,h2,h3⟩:=h
  exact ⟨b,kv,lv,h1,h2.ext e,h3⟩
def rsP (B A:Nat → Prop) (p:Nat → Bool):AV:=⟨fun v w=>RSet B A w v p,fun _ _ _ e h=>h.ext e⟩
theorem RSet.mono {B A B' A':Nat → Prop} {w:World} {v:Value} {p:Nat → Bool} (h:RSet B A w v p) (hB:∀ k,k < w.heap.size → B k → B' k) (hA:∀ k,k < w.heap.size → A k → A' k):RSet B' A' w v p:=by
  obtain ⟨b,kv,lv,h1,h2,h3⟩:=h
  exact ⟨b,kv,lv,h1,h2.mono fun k hk ha _=>hA k hk ha,fun k hk=>hB k (h2.lt hk) (h3 k hk)⟩
theorem RSet.tt {B A:Nat → Prop} {w:World} {v:Value} {p:Nat → Bool} (h:RSet B A w v p):RSet TT TT w v p:=h.mono (fun _ _ _=>trivial) (fun _ _ _=>trivial)
theorem RSet.fr {B A R:Nat → Prop} {w w':World} {v:Value} {p:Nat → Bool} (h:RSet B A w v p) (hf:Fr R w w') (hR:Plain A R w) (hB:∀ k,B k → ¬ R k):RSet B A w' v p:=by
  obtain ⟨b,kv,lv,h1,h2,h3⟩:=h
  exact ⟨b,kv,lv,h1,h2.fr hf hR (fun k hk=>hB k (h3 k hk)),h3⟩
def NSet (B A:Nat → Prop) (w:World) (v:Value) (p:Nat → Bool):Prop:=(v=.pointer none ∧ p=fun _=>false) ∨ RSet B A w v p
theorem NSet.ext {B A:Nat → Prop} {w w':World} {v:Value} {p:Nat → Bool} (h:NSet B A w v p) (e:Ext w w'):NSet B A w' v p:=h.imp id (fun h=>h.ext e)
theorem RSet.n {B A:Nat → Prop} {w:World} {v:Value} {p:Nat → Bool} (h:RSet B A w v p):NSet B A w v p:=.inr h
theorem i8A (k:Nat):ne (fun _=>false) k=false:=by
  cases h:ne (fun _=>false) k
  · rfl
  · obtain ⟨i,_,h2⟩:=ne_iff.1 h;cases h2
theorem feA:nk (fun _=>false)=0:=dzA _ (fun i _=>i8A i)
theorem lhA:blA (fun _=>false)=[]:=List.eq_nil_of_length_eq_zero (by rw [bsA,feA])
theorem RS.turned {A:Nat → Prop} {w w':World} {b:Nat} {kv lv kv' lv':Value} {p p':Nat → Bool} {Q':List Qd} (hS:RS A w b kv lv p) (hf:Fr (onw b kv lv) w w') (hb:w'.heap[b]?=some (.cells #[kv',lv'] tS (0,0))) (hk:OwnI 0 tK .u16 w' kv' (blA p'))
    (hn:Q'.length=nk p') (hl:Own 0 tC 4 w' lv' (nk p') (clA Q')) (htop:∀ x,TOP ≤ x → p' x=false) (hloc:LocR w kv kv')
    (hC:∀ i,i < nk p' → Cn (fun k=>A k ∧ kv.ownBlock ≠ some k) w (qv (Q'.getD i q0)) (blk p' (kp p' i)) (apA (blk p' (kp p' i)))):RS A w' b kv' lv' p':=by
  refine ⟨hb,hk,htop,Q',hn,hl,fun i hi=>?_⟩
  refine Cn.fr ((hC i hi).mono (A':=fun k=>A k ∧ kv'.ownBlock ≠ some k ∧ kv.ownBlock ≠ some k) fun k hlt ha=>⟨ha.1,fun h=>?_,ha.2⟩) hf (hS.plainA fun k h1 h2=>h2.2.2 h1) |>.mono fun k _ h=>⟨h.1,h.2.1⟩
  rcases hloc with h' | h'
  · exact ha.2 (h' ▸ h)
  · have:=h' k h;omega
theorem RS.new {A:Nat → Prop} {w:World} {b:Nat} (hb:w.heap[b]?=some (.cells #[nilS,nilS] tS (0,0))):RS A w b nilS nilS (fun _=>false) :=
  ⟨hb,by rw [lhA];exact OwnI.nil,fun _ _=>rfl,[],by rw [feA];rfl,by rw [feA];exact Own.nil,fun i hi=>by rw [feA] at hi;omega⟩
end Go.Proofs.YtbokphkfojijoaaGreatDoor
end
section
set_option linter.unusedSimpArgs false
set_option linter.unusedVariables false
set_option maxRecDepth 3000
namespace Go.Proofs.YtbokphkfojijoaaGreatDoor
open Go.LA Go.ArrP Go.RowKit
section
variable {P:Program} {l:List Oper} {N:Nn} {wb:World} {K:List Oper → Env → Prop} {rest:List Oper} {E:Env}
variable {d:Tmp} {ty t t':TypeId} {pos:String} {after:Array Edge} {g:Option (Nat × Bool)} {x y z:Operand} {k k':IntKind}
theorem oNc (h:LA P l wb K (⟨some d,.nilCheck x,ty,pos,after,g⟩ :: rest) E):LA P l wb K (⟨some d,.nilCheck x,ty,pos,after,g⟩ :: rest) E:=h
theorem oEq {op:BinOp} (h:LA P l wb K (⟨some d,.binOp op 37 x y t',ty,pos,after,g⟩ :: rest) E):LA P l wb K (⟨some d,.binOp op 37 x y t',ty,pos,after,g⟩ :: rest) E:=h
end
variable {A B:Nat → Prop}
theorem new_c (w:World) (hB:Fsh B w):Fc Tryz.prog 40 #[] w (Ret w (.pred (rsP B A (fun _=>false)))):=by
  refine Fc.of (args:=[]) Tryz.func40 rfl rfl Tryz.ntmps40 (Nat.le_of_ble_eq_true rfl) ?_
  repeat' (first|(refine oLA ?_;first|refine a0A rfl ?_|refine dsA (c:=.agg #[nilS,nilS]) rfl (fun _=>by kernel_rfl) ?_|refine enA rfl rfl ?_|refine wOp ?_|(refine wCm ?_ ?_<;>intro hc)|(refine wNl hK ?_;clear hK K))|refine wG ?_|(refine wCR ?_;intro K hK)|fail)
  all_goals skip
  refine akA rfl rfl (Ext.refl _) (fun v w' e hv=>?_)
  obtain ⟨b,hb,rfl,hh⟩:=hv
  exact ⟨b,nilS,nilS,rfl,RS.new hh,fun k hk=>by
    rcases hk with rfl | hk | hk
    · exact hB _ hb
    · cases hk
    · cases hk⟩
theorem atB {w:World} {v:Value} {p:Nat → Bool} (h:NSet B A w v p) {k:Nat} (hk:k < 65536):Fc Tryz.prog 110 #[v,.int .u16 k] w (Ret w (.tup2 (.val (.int .i64 (cnt (ne p) k))) (.val (.bool (ne p k))))):=by
  rcases h with ⟨rfl,rfl⟩ | ⟨b,kv,lv,rfl,hS,-⟩
  · rw [i8A,dzA k (fun i _=>i8A i)]
    refine Fc.of (args:=[_,_]) Tryz.func110 rfl rfl Tryz.ntmps110 (Nat.le_of_ble_eq_true rfl) ?_
    repeat' (first|(refine oLA ?_;first|refine a0A rfl ?_|(refine oEq ?_;refine bpA (c:=.bool true) rfl rfl rfl (fun _=>rfl) ?_)|refine wOp ?_|(refine wCm ?_ ?_<;>intro hc)|(refine wNl hK ?_;clear hK K))|refine wG ?_|(refine wCR ?_;intro K hK)|fail)
    all_goals skip
    all_goals exact c2A rfl rfl rfl (Ext.refl _) rfl rfl
  · have hn:(blA p).length ≤ 4611686018427387903:=by rw [bsA];have:=g5A p;omega
    have hb:bsS (blA p) (k:Int)=cnt (ne p) k:=ilA (ne p) k (by omega)
    have hf:dcA (blA p) (k:Int)=ne p k:=by
      rw [exA _ (iaA p)];exact ckA (ne p) hk
    refine Fc.of (args:=[_,_]) Tryz.func110 rfl rfl Tryz.ntmps110 (Nat.le_of_ble_eq_true rfl) ?_
    repeat' (first|(refine oLA ?_;first|refine a0A rfl ?_|(refine oEq ?_;refine bpA (c:=.bool false) rfl rfl rfl (fun _=>rfl) ?_)|(refine oNc ?_;refine a8A rfl rfl ?_)|(refine oF 0 ?_;refine a1A (a':=⟨b,0,none⟩) rfl rfl (fun _=>rfl) ?_)|(refine oF 1 ?_;refine a1A (a':=⟨b,1,none⟩) rfl rfl (fun _=>rfl) ?_)|(refine oLt 27 ?_;refine a5A (c:=kv) rfl (fun _=>rfl) rfl hS.hb rfl ?_)|(refine oLt 92 ?_;refine a5A (c:=lv) rfl (fun _=>rfl) rfl hS.hb rfl ?_)|refine wOp ?_|(refine wCm ?_ ?_<;>intro hc)|(refine oCv ?_;first|(refine oC 148 ?_;refine a3A (f:=148) rfl rfl rfl rfl  (.tup2 (.val (.int .i64 (bsS (blA p) k))) (.val (.bool (dcA (blA p) k)))) (by intro u1 u2 w e hu1 hu2;(try obtain rfl:u1=_:=hu1);(try obtain rfl:u2=_:=hu2);exact bs_c _ _ _ _ (hS.hk.ext e).slI hn) ?_))|(refine wNl hK ?_;clear hK K))|refine wG ?_|(refine wCR ?_;intro K hK)|fail)
    all_goals skip
    all_goals exact c2A rfl rfl rfl (Ext.refl _) (by rw [hb]) (by rw [hf])
theorem kind_none:apA (fun _=>false)=1:=by
  unfold apA
  rw [dzA (p:=fun _=>false) 65536 (fun i _=>rfl),dzA (p:=bkA fun _=>false) 65536 (fun i _=>rfl)];decide
theorem y4A {w:World} {v:Value} {p:Nat → Bool} (h:NSet B A w v p) {k:Nat} (hk:k < 65536):Fc Tryz.prog 76 #[v,.int .u16 k] w (Ret w (.pred (cnP A (blk p k) (apA (blk p k))))):=by
  have hf:∀ w',Ext w w' → _:=fun w' e=>atB (h.ext e) hk
  cases hn:ne p k
  · rw [hn] at hf
    have h1:apA (blk p k)=1:=by rw [hpA hn];exact kind_none
    rw [h1,hpA hn]
    refine Fc.of (args:=[_,_]) Tryz.func76 rfl rfl Tryz.ntmps76 (Nat.le_of_ble_eq_true rfl) ?_
    repeat' (first|(refine oLA ?_;first|refine a0A rfl ?_|(refine oAl ?_;refine bwA rfl (fun _=>rfl) ?_)|refine dsA (c:=.agg #[.int .u8 0,nilS,nilS,nilS]) rfl (fun _=>by kernel_rfl) ?_|(refine a4A (hK _ _ (ciA (φ:=cnP A (fun _=>false) 1) (w0:=w) rfl rfl rfl b5A (fun v' w' e hv=>by obtain rfl:v'=_:=hv;exact Cn.zero) rfl (fun _=>rfl) (Ext.refl _) (fun w' e'=>?_)));clear hK K)|refine wOp ?_|(refine wCm ?_ ?_<;>intro hc)|(refine oCv ?_;first|(refine oC 110 ?_;refine a3A (f:=110) rfl rfl rfl rfl  (.tup2 (.val (.int .i64 (cnt (ne p) k))) (.val (.bool false))) (by intro u1 u2 w e hu1 hu2;(try obtain rfl:u1=_:=hu1);(try obtain rfl:u2=_:=hu2);exact hf _ e) ?_))|(refine wNl hK ?_;clear hK K))|refine wG ?_|(refine wCR ?_;intro K hK)|fail)
    all_goals skip
    all_goals exact ctA rfl rfl rfl rfl rfl (by assumption)
  · obtain ⟨i1,i2⟩:=xuA hk hn
    obtain ⟨i,hi⟩:∃ i,i=cnt (ne p) k:=⟨_,rfl⟩
    rw [← hi] at i1 i2
    rw [hn] at hf
    rcases h with ⟨rfl,rfl⟩ | ⟨b,kv,lv,rfl,hS,-⟩
    · rw [i8A] at hn;cases hn
    obtain ⟨Q,q1,q2,q3⟩:=hS.hl
    have hcn:=q3 i i1
    rw [i2] at hcn
    replace hcn:=hcn.mono (A':=A) (fun k _ h=>h.1)
    have hat:=fjA Q i (by omega)
    rw [← hi] at hf
    clear hi q3
    refine Fc.of (args:=[_,_]) Tryz.func76 rfl rfl Tryz.ntmps76 (Nat.le_of_ble_eq_true rfl) ?_
    repeat' (first|(refine oLA ?_;first|refine a0A rfl ?_|(refine oAl ?_;refine bwA rfl (fun _=>rfl) ?_)|(refine oNc ?_;refine a8A rfl rfl ?_)|(refine oF 0 ?_;refine a1A (a':=⟨b,0,none⟩) rfl rfl (fun _=>rfl) ?_)|(refine oF 1 ?_;refine a1A (a':=⟨b,1,none⟩) rfl rfl (fun _=>rfl) ?_)|(refine oLt 27 ?_;refine a5A (c:=kv) rfl (fun _=>rfl) rfl hS.hb rfl ?_)|(refine oLt 92 ?_;refine a5A (c:=lv) rfl (fun _=>rfl) rfl hS.hb rfl ?_)|(refine oI ?_;refine boA (s:=4) rfl _ rfl (fun _=>rfl) rfl (HasC.ownV q2) rfl i rfl i1 ?_;rw [hat])|(refine oLd ?_;refine aqA (cs:=qcs _) rfl (fun _=>rfl) (fun _=>rfl) rfl ?_)|(refine a4A (hK _ _ (ciA (φ:=cnP A (blk p k) (apA (blk p k))) (w0:=w) rfl rfl rfl b5A (fun v' w' e hv=>by obtain rfl:v'=_:=hv;exact hcn.ext e) rfl (fun _=>rfl) (Ext.refl _) (fun w' e'=>?_)));clear hK K)|refine wOp ?_|(refine wCm ?_ ?_<;>intro hc)|(refine oCv ?_;first|(refine oC 110 ?_;refine a3A (f:=110) rfl rfl rfl rfl  (.tup2 (.val (.int .i64 i)) (.val (.bool true))) (by intro u1 u2 w e hu1 hu2;(try obtain rfl:u1=_:=hu1);(try obtain rfl:u2=_:=hu2);exact hf _ e) ?_))|(refine wNl hK ?_;clear hK K))|refine wG ?_|(refine wCR ?_;intro K hK)|fail)
    all_goals skip
    all_goals exact ctA rfl rfl rfl rfl rfl (by assumption)
end Go.Proofs.YtbokphkfojijoaaGreatDoor
end
section
set_option linter.unusedSimpArgs false
set_option linter.unusedVariables false
set_option maxRecDepth 3000
namespace Go.Proofs.YtbokphkfojijoaaGreatDoor
open Go.LA Go.ArrP Go.RowKit
variable {A B:Nat → Prop}
theorem keA {α:Type} {d:α} {l:List α} {i j:Nat} {x:α} (h:i < l.length):(l.set i x).getD j d=if j=i then x else l.getD j d:=by
  rw [List.getD_eq_getElem?_getD,List.getD_eq_getElem?_getD,List.getElem?_set]
  by_cases e:j=i
  · subst e;simp [h]
  · simp [e,Ne.symm e]
theorem pvA {p:Nat → Bool} {k:Nat} {q:Nat → Bool} (h:∀ x,TOP ≤ x → p x=false) (hk:k < 65536):∀ x,TOP ≤ x → upd p k q x=false:=fun x hx=>by
  unfold upd;rw [if_neg (by rw [f0A] at hx;omega)];exact h x hx
theorem qaA {a b:Qd} (h:qv a=qv b):a=b:=by
  obtain ⟨a1,a2,a3,a4⟩:=a
  obtain ⟨b1,b2,b3,b4⟩:=b
  unfold qv at h
  simpa using h
def Mut (A:Nat → Prop) (w:World) (b:Nat) (kv lv:Value) (p':Nat → Bool) (w':World):Prop:=∃ kv' lv',RS A w' b kv' lv' p' ∧ Fr (onw b kv lv) w w' ∧ LocR w kv kv' ∧ LocR w lv lv'
theorem RS.set {A:Nat → Prop} {w w':World} {b:Nat} {kv lv:Value} {p:Nat → Bool} (hS:RS A w b kv lv p) {k:Nat} (hk:k < 65536) (hn:ne p k=true) {q:Nat → Bool} (hq:∀ i,65536 ≤ i → q i=false) (hq0:0 < cnt q 65536) {Q:List Qd} {qc:Qd} (q1:Q.length=nk p)
    (q3:∀ i,i < nk p → Cn (fun k=>A k ∧ kv.ownBlock ≠ some k) w (qv (Q.getD i q0)) (blk p (kp p i)) (apA (blk p (kp p i)))) (hc:Cn (fun j=>A j ∧ kv.ownBlock ≠ some j) w (qv qc) q (apA q))
    (hf:Fr (onw b kv lv) w w') (hb:w'.heap[b]?=some (.cells #[kv,lv] tS (0,0))) (hkk:OwnI 0 tK .u16 w' kv (blA p)) (hl:Own 0 tC 4 w' lv (nk p) (clA (Q.set (cnt (ne p) k) qc))):Mut A w b kv lv (upd p k q) w':=by
  have hkeys:=naA p hq hq0 hn
  have hnk:nk (upd p k q)=nk p:=by rw [← bsA,← bsA,hkeys]
  obtain ⟨i1,i2⟩:=xuA hk hn
  refine ⟨kv,lv,hS.turned (Q':=Q.set (cnt (ne p) k) qc) hf hb (by rw [hkeys];exact hkk) (by rw [List.length_set,q1,hnk]) (by rw [hnk];exact hl) (pvA hS.top hk) LocR.refl (fun j hj=>?_),hf,LocR.refl,LocR.refl⟩
  rw [hnk] at hj
  rw [wtA p hq hq0 hn,keA (by omega)]
  by_cases e:j=cnt (ne p) k
  · rw [if_pos e,e,i2,lwA p k hq];exact hc
  · have hne:kp p j ≠ k:=fun h=>e (by rw [← h];exact (o1A (by omega)).symm)
    rw [if_neg e,jpA p q hne];exact q3 j hj
theorem slot_ne {A:Nat → Prop} {w:World} {b:Nat} {kv lv:Value} {p:Nat → Bool} (hS:RS A w b kv lv p):kv.ownBlock ≠ some b ∧ lv.ownBlock ≠ some b ∧ ∀ k,kv.ownBlock=some k → lv.ownBlock ≠ some k:=by
  obtain ⟨Q,h1,h2,h3⟩:=hS.hl
  refine ⟨Own.apart hS.hk hS.hb (by decide),Own.apart h2 hS.hb (by decide),fun k hk=>?_⟩
  obtain ⟨cur,hc⟩:=atA hS.hk hk
  exact Own.apart h2 hc (by decide)
theorem c8A {base e s n:Nat} {w:World} {v:Value} {cs:List Value} (h:Own base e s w v n cs):v.cells=[v].toArray ∧ v.oneCell'=true:=by
  rcases h.2 with ⟨rfl,_⟩ | ⟨g,cap,cur,rfl,_⟩
  · exact ⟨rfl,rfl⟩
  · exact ⟨rfl,rfl⟩
end Go.Proofs.YtbokphkfojijoaaGreatDoor
end
section
set_option linter.unusedSimpArgs false
set_option linter.unusedVariables false
set_option maxRecDepth 3000
namespace Go.Proofs.YtbokphkfojijoaaGreatDoor
open Go.LA Go.ArrP Go.RowKit
variable {A B:Nat → Prop}
theorem k6A {w:World} {v:Value} {p:Nat → Bool} (h:NSet B A w v p):∀ x,TOP ≤ x → p x=false:=by
  rcases h with ⟨rfl,rfl⟩ | ⟨b,kv,lv,rfl,hS,-⟩
  · exact fun _ _=>rfl
  · exact hS.top
structure Pts (A:Nat → Prop) (w:World) (v:Value) (p:Nat → Bool) (lv:Value) (Q:List Qd):Prop where
  len:Q.length=nk p
  own:Own 0 tC 4 w lv (nk p) (clA Q)
  cn:∀ i,i < nk p → Cn A w (qv (Q.getD i q0)) (blk p (kp p i)) (apA (blk p (kp p i)))
  set:0 < nk p → ∃ b kv,v=.pointer (some ⟨b,0,none⟩) ∧ w.heap[b]?=some (.cells #[kv,lv] tS (0,0)) ∧ OwnI 0 tK .u16 w kv (blA p)
theorem Pts.ext {w w':World} {v:Value} {p:Nat → Bool} {lv:Value} {Q:List Qd} (h:Pts A w v p lv Q) (e:Ext w w'):Pts A w' v p lv Q :=
  ⟨h.len,h.own.ext e,fun i hi=>(h.cn i hi).ext e,fun h0=>by
    obtain ⟨b,kv,h1,h2,h3⟩:=h.set h0
    exact ⟨b,kv,h1,e.block h2,h3.ext e⟩⟩
theorem Pts.at {w:World} {v:Value} {p:Nat → Bool} {lv:Value} {Q:List Qd} (h:Pts A w v p lv Q) {i:Nat} (hi:i < nk p):((clA Q).drop (i * 4)).take 4=qcs (Q.getD i q0) ∧ Cn A w (qv (Q.getD i q0)) (blk p (kp p i)) (apA (blk p (kp p i))) ∧ ∀ u ∈ qcs (Q.getD i q0),u.oneCell'=true:=by
  refine ⟨fjA Q i (by have:=h.len;omega),h.cn i hi,?_⟩
  obtain ⟨q,h1,h2⟩:=(h.cn i hi).qd
  rw [qaA h1];exact h2
theorem nzA {w:World} {v:Value} {p:Nat → Bool} (h:NSet B A w v p):∃ lv Q,Pts A w v p lv Q ∧ ∀ w',Ext w w' → Fc Tryz.prog 58 #[v] w' (Ret w' (.val lv)):=by
  rcases h with ⟨rfl,rfl⟩ | ⟨b,kv,lv,rfl,hS,-⟩
  · refine ⟨nilS,[],⟨by rw [feA];rfl,by rw [feA];exact Own.nil,fun i hi=>by rw [feA] at hi;omega,fun hi=>by rw [feA] at hi;omega⟩,fun w' e=>?_⟩
    refine Fc.of (args:=[_]) Tryz.func58 rfl rfl Tryz.ntmps58 (Nat.le_of_ble_eq_true rfl) ?_
    repeat' (first|(refine oLA ?_;first|refine a0A rfl ?_|(refine oEq ?_;refine bpA (c:=.bool true) rfl rfl rfl (fun _=>rfl) ?_)|refine wOp ?_|(refine wCm ?_ ?_<;>intro hc)|(refine wNl hK ?_;clear hK K))|refine wG ?_|(refine wCR ?_;intro K hK)|fail)
    exact abA rfl rfl (Ext.refl _) rfl
  · obtain ⟨Q,q1,q2,q3⟩:=hS.hl
    refine ⟨lv,Q,⟨q1,q2,fun i hi=>(q3 i hi).mono fun k _ h=>h.1,fun _=>⟨b,kv,rfl,hS.hb,hS.hk⟩⟩,fun w' e=>?_⟩
    replace hS:=hS.ext e
    refine Fc.of (args:=[_]) Tryz.func58 rfl rfl Tryz.ntmps58 (Nat.le_of_ble_eq_true rfl) ?_
    repeat' (first|(refine oLA ?_;first|refine a0A rfl ?_|(refine oEq ?_;refine bpA (c:=.bool false) rfl rfl rfl (fun _=>rfl) ?_)|(refine oNc ?_;refine a8A rfl rfl ?_)|(refine oF 0 ?_;refine a1A (a':=⟨b,0,none⟩) rfl rfl (fun _=>rfl) ?_)|(refine oF 1 ?_;refine a1A (a':=⟨b,1,none⟩) rfl rfl (fun _=>rfl) ?_)|(refine oLt 27 ?_;refine a5A (c:=kv) rfl (fun _=>rfl) rfl hS.hb rfl ?_)|(refine oLt 92 ?_;refine a5A (c:=lv) rfl (fun _=>rfl) rfl hS.hb rfl ?_)|refine wOp ?_|(refine wCm ?_ ?_<;>intro hc)|(refine wNl hK ?_;clear hK K))|refine wG ?_|(refine wCR ?_;intro K hK)|fail)
    exact abA rfl rfl (Ext.refl _) rfl
theorem lgA {w:World} {v:Value} {p:Nat → Bool} (h:NSet B A w v p):Fc Tryz.prog 64 #[v] w (Ret w (.pred (bfA w.heap.size tK .u16 (blA p)))):=by
  rcases h with ⟨rfl,rfl⟩ | ⟨b,kv,lv,rfl,hS,-⟩
  · rw [lhA]
    refine Fc.of (args:=[_]) Tryz.func64 rfl rfl Tryz.ntmps64 (Nat.le_of_ble_eq_true rfl) ?_
    repeat' (first|(refine oLA ?_;first|refine a0A rfl ?_|(refine oEq ?_;refine bpA (c:=.bool true) rfl rfl rfl (fun _=>rfl) ?_)|refine wOp ?_|(refine wCm ?_ ?_<;>intro hc)|(refine wNl hK ?_;clear hK K))|refine wG ?_|(refine wCR ?_;intro K hK)|fail)
    exact akA rfl rfl (Ext.refl _) (fun v _ _ hv=>by obtain rfl:v=_:=hv;exact OwnI.nil)
  · have hn:(blA p).length ≤ 65536:=by rw [bsA];exact g5A p
    refine Fc.of (args:=[_]) Tryz.func64 rfl rfl Tryz.ntmps64 (Nat.le_of_ble_eq_true rfl) ?_
    repeat' (first|(refine oLA ?_;first|refine a0A rfl ?_|(refine oEq ?_;refine bpA (c:=.bool false) rfl rfl rfl (fun _=>rfl) ?_)|(refine oNc ?_;refine a8A rfl rfl ?_)|(refine oF 0 ?_;refine a1A (a':=⟨b,0,none⟩) rfl rfl (fun _=>rfl) ?_)|(refine oF 1 ?_;refine a1A (a':=⟨b,1,none⟩) rfl rfl (fun _=>rfl) ?_)|(refine oLt 27 ?_;refine a5A (c:=kv) rfl (fun _=>rfl) rfl hS.hb rfl ?_)|(refine oLt 92 ?_;refine a5A (c:=lv) rfl (fun _=>rfl) rfl hS.hb rfl ?_)|refine wOp ?_|(refine wCm ?_ ?_<;>intro hc)|(refine oCv ?_;first|(refine oC 99 ?_;refine a2A (f:=99) rfl rfl rfl  (.pred (bfA w.heap.size tK .u16 (blA p))) (by intro u1 w e hu1;(try obtain rfl:u1=_:=hu1);exact (fiA _ _ _ (hS.hk.ext e).slI hn).mono (aaA e.size)) ?_))|(refine wNl hK ?_;clear hK K))|refine wG ?_|(refine wCR ?_;intro K hK)|fail)
    exact akA rfl rfl (Ext.refl _) (fun _ _ _ hv=>hv)
theorem h8A {w:World} {v:Value} {p:Nat → Bool} (h:NSet B A w v p):Fc Tryz.prog 43 #[v] w (Ret w (.val (.int .i64 (cnt p TOP)))):=by
  obtain ⟨lv,Q,hP,hL⟩:=nzA h
  have hnk:=g5A p
  have hct:=cnt_le p TOP
  have htop:=f0A
  refine Fc.of (args:=[_]) Tryz.func43 rfl rfl Tryz.ntmps43 (Nat.le_of_ble_eq_true rfl) ?_
  repeat' (first|(refine oLA ?_;first|refine a0A rfl ?_|(refine dkA ?_;refine azA rfl _ rfl rfl (HasC.ownV hP.own) ?_)|refine wOp ?_|(refine wCm ?_ ?_<;>intro hc)|(refine oCv ?_;first|(refine oC 58 ?_;refine a2A (f:=58) rfl rfl rfl  (.val lv) (by intro u1 w e hu1;(try obtain rfl:u1=_:=hu1);exact hL _ e) ?_))|(refine wNl hK ?_;clear hK K))|refine wG ?_|(refine wCR ?_;intro K hK)|fail)
  refine bjA (ι:=Nat) (fun i=>[(0,.val v),(3,.val (.int .i64 (cnt p (kp p i * 65536)))),(7,.val lv),(8,.val (.int .i64 (nk p))),(9,.val (.int .i64 i))]) (fun i=>i ≤ nk p) (fun i=>nk p - i) 0 (Nat.zero_le _) (by rw [o3A];(repeat' (first | exact Sub.nil | (refine Sub.val rfl ?_ ?_;first | with_reducible rfl | (congr 1;omega)) | refine Sub.same rfl ?_));done) ?_
  intro i hi
  have hle:=cnt_mono p (m:=kp p i * 65536) TOP (by have:=kp_le p i;omega)
  by_cases hil:i < nk p
  · obtain ⟨hat,hcn,h1⟩:=hP.at hil
    have hkc:=xvA hil
    have hb6:=cnt_le (blk p (kp p i)) 65536
    repeat' (first|(refine oLA ?_;first|refine a0A rfl ?_|(refine oI ?_;refine boA (s:=4) rfl _ rfl (fun _=>rfl) rfl (HasC.ownV hP.own) rfl i rfl (by omega) ?_;rw [hat])|(refine oLt 96 ?_;refine aqA (cs:=qcs _) rfl (fun _=>rfl) (fun _=>rfl) rfl ?_)|(refine oD 5 ?_;refine a4A (hK _ _ (cbA rfl rfl (by decide) (fun _=>rfl) (fun _=>rfl) (fun _=>rfl) rfl h1 (fun bx wx ex hbx hbc=>?_)));clear hK K;refine aeA (by kernel_rfl) (fun K hK=>?_))|(refine oD 14 ?_;refine bnA (n:=4) rfl hbc rfl rfl (fun _=>rfl) (fun _=>rfl) ?_)|refine wOp ?_|(refine wCm ?_ ?_<;>intro hc)|(refine oCv ?_;first|(refine oC 65 ?_;refine a2A (f:=65) rfl rfl rfl  (.val (.int .i64 (cnt (blk p (kp p i)) 65536))) (by intro u1 w e hu1;(try obtain rfl:u1=_:=hu1);exact g6A (hcn.ext (ex.trans e))) ?_))|(refine wNl hK ?_;clear hK K))|refine wG ?_|(refine wCR ?_;intro K hK)|fail)
    all_goals skip
    exact koA ex (i + 1) hil (by omega) (by rw [hkc];(repeat' (first | exact Sub.nil | (refine Sub.val rfl ?_ ?_;first | with_reducible rfl | (congr 1;omega)) | refine Sub.same rfl ?_));done)
  · obtain rfl:i=nk p:=by omega
    rw [r1A] at hle ⊢
    repeat' (first|(refine oLA ?_;first|refine a0A rfl ?_|refine wOp ?_|(refine wCm ?_ ?_<;>intro hc)|(refine wNl hK ?_;clear hK K))|refine wG ?_|(refine wCR ?_;intro K hK)|fail)
    exact abA rfl rfl (Ext.refl _) rfl
end Go.Proofs.YtbokphkfojijoaaGreatDoor
end
section
set_option linter.unusedSimpArgs false
set_option linter.unusedVariables false
set_option maxRecDepth 3000
namespace Go.Proofs.YtbokphkfojijoaaGreatDoor
open Go.LA Go.ArrP Go.RowKit
variable {A B:Nat → Prop}
theorem apB {w:World} {v:Value} {p:Nat → Bool} (h:NSet B A w v p) {x:Nat} (hx:x < 4294967296):Fc Tryz.prog 70 #[v,.int .u32 x] w (Ret w (.val (.bool (p x)))):=by
  have hb:blk p (x / 65536) (x % 65536)=p x:=by rw [d0A (Nat.mod_lt _ (by omega))];congr 1;omega
  have e2:IntKind.u16.wrap (x:Int)=((x % 65536:Nat):Int):=by rw [IntKind.wrap_u16];omega
  have e1:(x:Int) / 65536=((x / 65536:Nat):Int):=by omega
  have hx1:x / 65536 < 65536:=by omega
  have hx2:x % 65536 < 65536:=Nat.mod_lt _ (by omega)
  obtain ⟨k,hk⟩:∃ k,k=x / 65536:=⟨_,rfl⟩
  obtain ⟨r,hr⟩:∃ r,r=x % 65536:=⟨_,rfl⟩
  rw [← hk,← hr] at hb
  rw [← hk] at e1 hx1;rw [← hr] at e2 hx2
  clear hk hr
  refine Fc.of (args:=[_,_]) Tryz.func70 rfl rfl Tryz.ntmps70 (Nat.le_of_ble_eq_true rfl) ?_
  repeat' (first|(refine oLA ?_;first|refine a0A rfl ?_|(refine oB .shr ?_;refine flA rfl rfl rfl (by decide) (by decide) ?_;rw [show (2:Int) ^ Int.toNat 16=65536 by decide,e1])|(refine oD 11 ?_;refine foA rfl rfl rfl rfl ?_;rw [e2])|refine wOp ?_|(refine wCm ?_ ?_<;>intro hc)|(refine oCv ?_;first|(refine oC 76 ?_;refine a3A (f:=76) rfl rfl rfl rfl  (.pred (cnP A (blk p k) (apA (blk p k)))) (by intro u1 u2 w e hu1 hu2;(try obtain rfl:u1=_:=hu1);(try obtain rfl:u2=_:=hu2);exact y4A (h.ext e) hx1) ?_)|(refine oC 105 ?_;refine a3A (f:=105) rfl rfl rfl rfl  (.val (.bool (blk p k r))) (by intro u1 u2 w e hu1 hu2;(try obtain rfl:u1=_:=hu1);(try obtain rfl:u2=_:=hu2);exact ghA hu1 hx2) ?_))|(refine wNl hK ?_;clear hK K))|refine wG ?_|(refine wCR ?_;intro K hK)|fail)
  all_goals skip
  exact abA rfl rfl (Ext.refl _) (by rw [hb])
theorem at_s {w:World} {v:Value} {p:Nat → Bool} (h:NSet B A w v p) {i:Nat} (hi:i < nk p):Fc Tryz.prog 97 #[v,.int .i64 i] w (Ret w (.tup2 (.pred (cnP A (blk p (kp p i)) (apA (blk p (kp p i))))) (.val (.bool true)))):=by
  obtain ⟨lv,Q,hP,hL⟩:=nzA h
  have hnk:=g5A p
  obtain ⟨b,kv,rfl,hb,hkk⟩:=hP.set (by omega)
  obtain ⟨hat,hcn,h1⟩:=hP.at hi
  refine Fc.of (args:=[_,_]) Tryz.func97 rfl rfl Tryz.ntmps97 (Nat.le_of_ble_eq_true rfl) ?_
  repeat' (first|(refine oLA ?_;first|refine a0A rfl ?_|(refine oAl ?_;refine bwA rfl (fun _=>rfl) ?_)|(refine dkA ?_;refine azA rfl _ rfl rfl (HasC.ownV hP.own) ?_)|(refine oNc ?_;refine a8A rfl rfl ?_)|(refine oF 0 ?_;refine a1A (a':=⟨b,0,none⟩) rfl rfl (fun _=>rfl) ?_)|(refine oF 1 ?_;refine a1A (a':=⟨b,1,none⟩) rfl rfl (fun _=>rfl) ?_)|(refine oLt 27 ?_;refine a5A (c:=kv) rfl (fun _=>rfl) rfl hb rfl ?_)|(refine oLt 92 ?_;refine a5A (c:=lv) rfl (fun _=>rfl) rfl hb rfl ?_)|(refine oI ?_;refine boA (s:=4) rfl _ rfl (fun _=>rfl) rfl (HasC.ownV hP.own) rfl i rfl (by omega) ?_;rw [hat])|(refine oLt 96 ?_;refine aqA (cs:=qcs _) rfl (fun _=>rfl) (fun _=>rfl) rfl ?_)|(refine a4A (hK _ _ (ciA (φ:=cnP A (blk p (kp p i)) (apA (blk p (kp p i)))) (w0:=w) rfl rfl rfl b5A (fun v' w' e hv=>by obtain rfl:v'=_:=hv;exact hcn.ext e) rfl (fun _=>rfl) (Ext.refl _) (fun w' e'=>?_)));clear hK K;refine aeA (by kernel_rfl) (fun K hK=>?_))|refine wOp ?_|(refine wCm ?_ ?_<;>intro hc)|(refine oCv ?_;first|(refine oC 58 ?_;refine a2A (f:=58) rfl rfl rfl  (.val lv) (by intro u1 w e hu1;(try obtain rfl:u1=_:=hu1);exact hL _ e) ?_))|(refine wNl hK ?_;clear hK K))|refine wG ?_|(refine wCR ?_;intro K hK)|fail)
  all_goals skip
  all_goals exact hqA rfl rfl rfl rfl rfl rfl (by assumption)
theorem wdA {w:World} {v:Value} {p:Nat → Bool} (h:NSet B A w v p) {B' A':Nat → Prop} (hB:Fsh B' w) (hA:∀ k,k < w.heap.size → A k → A' k):Fc Tryz.prog 74 #[v] w (Ret w (.pred (rsP B' A' p))):=by
  obtain ⟨lv,Q,hP,hL⟩:=nzA h
  have htop:=k6A h
  have hnk:=g5A p
  have hq1:∀ c ∈ clA Q,c.oneCell'=true:=fun c hc=>by
    obtain ⟨j,j1,j2⟩:=jkA Q c hc
    exact (hP.at (by have:=hP.len;omega)).2.2 c j2
  refine Fc.of (args:=[_]) Tryz.func74 rfl rfl Tryz.ntmps74 (Nat.le_of_ble_eq_true rfl) ?_
  repeat' (first|(refine oLA ?_;first|refine a0A rfl ?_|refine wOp ?_|(refine wCm ?_ ?_<;>intro hc)|(refine oCv ?_;first|(refine oC 64 ?_;refine a2A (f:=64) rfl rfl rfl  (.pred (bfA w.heap.size tK .u16 (blA p))) (by intro u1 w e hu1;(try obtain rfl:u1=_:=hu1);exact (lgA (h.ext e)).mono (aaA e.size)) ?_)|(refine oC 99 ?_;refine a2A (f:=99) rfl rfl rfl  (.pred (bfA w.heap.size tK .u16 (blA p))) (by intro u1 w e hu1;(try obtain rfl:u1=_:=hu1);exact (fiA _ _ _ (OwnI.slI hu1) (by rw [bsA];exact hnk)).mono (aaA e.size)) ?_)|(refine oC 58 ?_;refine a2A (f:=58) rfl rfl rfl  (.val lv) (by intro u1 w e hu1;(try obtain rfl:u1=_:=hu1);exact hL _ e) ?_)|(refine oC 109 ?_;refine a2A (f:=109) rfl rfl rfl  (.pred (j5A w.heap.size tC 4 (nk p) (clA Q))) (by intro u1 w e hu1;(try obtain rfl:u1=_:=hu1);exact (rrA _ _ _ _ (hP.own.ext e).slC hq1 (by omega)).mono (q9A e.size)) ?_))|(refine wNl hK ?_;clear hK K))|refine wG ?_|(refine wCR ?_;intro K hK)|fail)
  refine a4A (hK _ _ (b8A 8 rfl (fun v8 w8 e8 h8=>b8A 5 rfl (fun v5 w5 e5 h5=>?_))))
  clear hK K
  replace h8:Own w.heap.size tC 4 w5 v8 (nk p) (clA Q):=Own.ext h8 e5
  replace h5:OwnI w.heap.size tK .u16 w5 v5 (blA p):=h5
  obtain ⟨a8,c8,rfl⟩:=h8.slC.isSlice
  obtain ⟨a5,c5,rfl⟩:=h5.slI.isSlice
  refine aeA (by kernel_rfl) (fun K hK=>iwA (c:=.agg #[.slice a5 (blA p).length c5,.slice a8 (nk p) c8]) rfl rfl rfl (fun _=>by kernel_rfl) ?_)
  repeat' (first|(refine oLA ?_;first|refine a0A rfl ?_|refine enA rfl rfl ?_|refine wOp ?_|(refine wCm ?_ ?_<;>intro hc)|(refine wNl hK ?_;clear hK K))|refine wG ?_|(refine wCR ?_;intro K hK)|fail)
  all_goals skip
  have x5:=e8.trans e5
  refine akA rfl rfl x5 (fun v w' e hv=>?_)
  obtain ⟨b,hb,rfl,hh⟩:=hv
  have ge5:=fun k hk=>(Own.lt h5 k hk).1
  have ge8:=fun k hk=>(Own.lt h8 k hk).1
  refine ⟨b,_,_,rfl,⟨hh,Own.base (h5.ext e) (Nat.zero_le _),htop,Q,hP.len,Own.base (h8.ext e) (Nat.zero_le _),fun i hi=>?_⟩,fun k hk=>hB k ?_⟩
  · exact ((hP.cn i hi).mono fun k hk ha=>⟨hA k hk ha,fun h=>by have:=ge5 k h;omega⟩).ext (x5.trans e)
  · have:=x5.size
    rcases hk with rfl | hk | hk
    · omega
    · exact ge5 k hk
    · exact ge8 k hk
end Go.Proofs.YtbokphkfojijoaaGreatDoor
end
section
set_option linter.unusedSimpArgs false
set_option linter.unusedVariables false
set_option maxRecDepth 3000
namespace Go.Proofs.YtbokphkfojijoaaGreatDoor
open Go.LA Go.ArrP Go.RowKit
variable {A B:Nat → Prop}
theorem usA (x:Nat) (hx:x < 18446744073709551616):bits .and .u64 (x:Int) 65535=((x % 65536:Nat):Int):=by
  rw [myA x 65535 hx (by decide) (x:=(x:Int)) (y:=65535) rfl rfl,show (65535:Nat)=2 ^ 16 - 1 from rfl,Nat.and_two_pow_sub_one_eq_mod]
theorem vwA {w:World} {v:Value} {p:Nat → Bool} (h:NSet B A w v p) {x:Nat} (hx:x < 18446744073709551616):Fc Tryz.prog 72 #[v,.int .u64 x] w (Ret w (.val (.int .i64 (cnt p (min x TOP))))):=by
  obtain ⟨lv,Q,hP,hL⟩:=nzA h
  have hlen:∀ w',Ext w w' → _:=fun w' e=>h8A (h.ext e)
  have hnk:=g5A p
  have hct:=cnt_le p TOP
  have htop:=f0A
  by_cases hxt:4294967296 ≤ x
  · rw [show min x TOP=TOP by omega]
    refine Fc.of (args:=[_,_]) Tryz.func72 rfl rfl Tryz.ntmps72 (Nat.le_of_ble_eq_true rfl) ?_
    repeat' (first|(refine oLA ?_;first|refine a0A rfl ?_|refine wOp ?_|(refine wCm ?_ ?_<;>intro hc)|(refine oCv ?_;first|(refine oC 43 ?_;refine a2A (f:=43) rfl rfl rfl  (.val (.int .i64 (cnt p TOP))) (by intro u1 w e hu1;(try obtain rfl:u1=_:=hu1);exact hlen _ e) ?_))|(refine wNl hK ?_;clear hK K))|refine wG ?_|(refine wCR ?_;intro K hK)|fail)
    exact abA rfl rfl (Ext.refl _) rfl
  · rw [show min x TOP=x by omega]
    have hm:=usA x hx
    have hdm:x=x / 65536 * 65536 + x % 65536:=by omega
    have hdm2:x / 65536 * 65536 ≤ x ∧ x < (x / 65536 + 1) * 65536:=by omega
    have hr:=Nat.mod_lt x (show 0 < 65536 by omega)
    have e1:(x:Int) / 65536=((x / 65536:Nat):Int):=by omega
    have hq:x / 65536 < 65536:=by omega
    obtain ⟨X,hX⟩:∃ X,X=x / 65536:=⟨_,rfl⟩
    obtain ⟨R,hR⟩:∃ R,R=x % 65536:=⟨_,rfl⟩
    rw [← hX,← hR] at hdm
    rw [← hX] at hdm2
    rw [← hX] at e1 hq
    rw [← hR] at hm hr
    clear hX hR
    refine Fc.of (args:=[_,_]) Tryz.func72 rfl rfl Tryz.ntmps72 (Nat.le_of_ble_eq_true rfl) ?_
    repeat' (first|(refine oLA ?_;first|refine a0A rfl ?_|(refine dkA ?_;refine azA rfl _ rfl rfl (HasC.ownV hP.own) ?_)|refine wOp ?_|(refine wCm ?_ ?_<;>intro hc)|(refine oCv ?_;first|(refine oC 58 ?_;refine a2A (f:=58) rfl rfl rfl  (.val lv) (by intro u1 w e hu1;(try obtain rfl:u1=_:=hu1);exact hL _ e) ?_))|(refine wNl hK ?_;clear hK K))|refine wG ?_|(refine wCR ?_;intro K hK)|fail)
    refine bjA (ι:=Nat) (fun i=>[(0,.val v),(1,.val (.int .u64 x)),(5,.val (.int .i64 (cnt p (min x (kp p i * 65536))))),(14,.val lv),(15,.val (.int .i64 (nk p))),(16,.val (.int .i64 i))]) (fun i=>i ≤ nk p) (fun i=>nk p - i) 0 (Nat.zero_le _) (by rw [a4B];(repeat' (first | exact Sub.nil | (refine Sub.val rfl ?_ ?_;first | with_reducible rfl | (congr 1;omega)) | refine Sub.same rfl ?_));done) ?_
    intro i hi
    by_cases hil:i < nk p
    · obtain ⟨hat,hcn,h1⟩:=hP.at hil
      obtain ⟨b,kv,rfl,hb,hkv⟩:=hP.set (by omega)
      obtain ⟨k1,k2,k3,k4⟩:=kaA hil
      have hkl:=bsA p
      have hown:=hP.own
      have f1:=xaA (x:=x) (X:=X) hil hdm2.1
      have f2:=xcA (x:=x) (R:=R) hil
      have f3:=xbA (x:=x) (X:=X) hil hdm2.2
      have b1:=cnt_le p (min x (kp p i * 65536))
      have b2:=cnt_le (blk p (kp p i)) 65536
      have b3:=cnt_le (blk p (kp p i)) R
      have b4:min x (kp p i * 65536) ≤ x:=Nat.min_le_left _ _
      have hcl:∀ w',Ext w w' → _:=fun w' e=>g6A (hcn.ext e)
      have hcr:∀ w',Ext w w' → _:=fun w' e=>a3B (x:=R) (hcn.ext e) (by omega)
      obtain ⟨K0,hK0⟩:∃ K0,K0=kp p i:=⟨_,rfl⟩
      obtain ⟨n0,hn0⟩:∃ n0,n0=cnt p (min x (kp p i * 65536)):=⟨_,rfl⟩
      obtain ⟨n1,hn1⟩:∃ n1,n1=cnt p (min x (kp p (i + 1) * 65536)):=⟨_,rfl⟩
      obtain ⟨c1,hc1⟩:∃ c1,c1=cnt (blk p (kp p i)) 65536:=⟨_,rfl⟩
      obtain ⟨c2,hc2⟩:∃ c2,c2=cnt (blk p (kp p i)) R:=⟨_,rfl⟩
      rw [← hc1,← hn0,← hn1] at f1
      rw [← hc2,← hn0,← hn1] at f2
      rw [← hn0,← hn1] at f3
      rw [← hn0] at b1 ⊢
      rw [← hc1] at b2 hcl
      rw [← hc2] at b3 hcr
      rw [← hK0] at k1 k4 f1 f2 f3
      clear hP k2 k3 hL hct hn0 hc1 hc2 hcn hlen h
      repeat' (first|(refine oLA ?_;first|refine a0A rfl ?_|(refine oNc ?_;refine a8A rfl rfl ?_)|(refine oF 0 ?_;refine a1A (a':=⟨b,0,none⟩) rfl rfl (fun _=>rfl) ?_)|(refine oF 1 ?_;refine a1A (a':=⟨b,1,none⟩) rfl rfl (fun _=>rfl) ?_)|(refine oLt 27 ?_;refine a5A (c:=kv) rfl (fun _=>rfl) rfl hb rfl ?_)|(refine oLt 92 ?_;refine a5A (c:=lv) rfl (fun _=>rfl) rfl hb rfl ?_)|(refine oI ?_;refine boA (s:=4) rfl _ rfl (fun _=>rfl) rfl (HasC.ownV hown) rfl i rfl (by omega) ?_;rw [hat])|(refine oLt 96 ?_;refine aqA (cs:=qcs _) rfl (fun _=>rfl) (fun _=>rfl) rfl ?_)|(refine oD 7 ?_;refine a4A (hK _ _ (n0A rfl rfl rfl (by decide) (by decide) (fun _=>rfl) (fun _=>rfl) rfl (fun _=>rfl) (fun _=>rfl) rfl h1 (fun bx wx ex hbx hbc=>?_)));clear hK K;replace hb:=ex.block hb;replace hkv:=hkv.ext ex;refine aeA (by kernel_rfl) (fun K hK=>?_))|(refine oD 26 ?_;refine acA rfl _ rfl (fun _=>rfl) rfl (HasI.ownV hkv) rfl (by omega) ?_;rw [k4])|(refine oD 46 ?_;refine bzA (.inl rfl) rfl rfl rfl ?_;rw [hm])|(refine oB .shr ?_;refine flA rfl rfl rfl (by decide) (by decide) ?_;rw [show (2:Int) ^ Int.toNat 16=65536 by decide,e1])|(refine oLt 96 ?_;refine bnA (n:=4) rfl hbc rfl rfl (fun _=>rfl) (fun _=>rfl) ?_)|refine wOp ?_|(refine wCm ?_ ?_<;>intro hc)|(refine oCv ?_;first|(refine oC 65 ?_;refine a2A (f:=65) rfl rfl rfl  (.val (.int .i64 c1)) (by intro u1 w e hu1;(try obtain rfl:u1=_:=hu1);exact hcl _ (ex.trans e)) ?_)|(refine oC 107 ?_;refine a3A (f:=107) rfl rfl rfl rfl  (.val (.int .i64 c2)) (by intro u1 u2 w e hu1 hu2;(try obtain rfl:u1=_:=hu1);(try obtain rfl:u2=_:=hu2);exact hcr _ (ex.trans e)) ?_))|(refine wNl hK ?_;clear hK K))|refine wG ?_|(refine wCR ?_;intro K hK)|fail)
      all_goals skip
      · exact koA ex (i + 1) hil (by omega) (by rw [← hn1,f1 (by omega)];(repeat' (first | exact Sub.nil | (refine Sub.val rfl ?_ ?_;first | with_reducible rfl | (congr 1;omega)) | refine Sub.same rfl ?_));done)
      · have e9:K0=X:=by omega
        have e8:=f2 (by rw [e9];exact hdm) hr
        exact koA ex (i + 1) hil (by omega) (by rw [← hn1,e8];(repeat' (first | exact Sub.nil | (refine Sub.val rfl ?_ ?_;first | with_reducible rfl | (congr 1;omega)) | refine Sub.same rfl ?_));done)
      · exact koA ex (i + 1) hil (by omega) (by rw [← hn1,f3 (by omega)];(repeat' (first | exact Sub.nil | (refine Sub.val rfl ?_ ?_;first | with_reducible rfl | (congr 1;omega)) | refine Sub.same rfl ?_));done)
    · obtain rfl:i=nk p:=by omega
      rw [a2B p (by omega)]
      repeat' (first|(refine oLA ?_;first|refine a0A rfl ?_|refine wOp ?_|(refine wCm ?_ ?_<;>intro hc)|(refine wNl hK ?_;clear hK K))|refine wG ?_|(refine wCR ?_;intro K hK)|fail)
      exact abA rfl rfl (Ext.refl _) rfl
end Go.Proofs.YtbokphkfojijoaaGreatDoor
end
section
set_option linter.unusedSimpArgs false
set_option linter.unusedVariables false
set_option maxRecDepth 3000
namespace Go.Proofs.YtbokphkfojijoaaGreatDoor
open Go.LA Go.ArrP Go.RowKit
variable {A B:Nat → Prop}
theorem RS.fsh {w:World} {b:Nat} {kv lv:Value} {p:Nat → Bool} (h:RS A w b kv lv p) (hA:Fsh A w):Fsh (fun k=>A k ∧ kv.ownBlock ≠ some k) w:=fun k hk=>⟨hA k hk,fun hb=>by have:=h.lt (.inr (.inl hb));omega⟩
theorem Mut.from {w w1 w':World} {b:Nat} {kv lv:Value} {p':Nat → Bool} (e:Ext w w1) (h:Mut A w1 b kv lv p' w'):Mut A w b kv lv p' w':=by
  obtain ⟨kv',lv',h1,h2,h3,h4⟩:=h
  exact ⟨kv',lv',h1,(Fr.of e).trans h2,h3.le e.size,h4.le e.size⟩
theorem Mut.ext {w w1 w':World} {b:Nat} {kv lv:Value} {p':Nat → Bool} (h:Mut A w b kv lv p' w1) (e:Ext w1 w'):Mut A w b kv lv p' w':=by
  obtain ⟨kv',lv',h1,h2,h3,h4⟩:=h
  exact ⟨kv',lv',h1.ext e,h2.trans (Fr.of e),h3,h4⟩
theorem k4A {w:World} {b:Nat} {kv lv kv' lv':Value} {base:Nat} (hb:∀ k,onw b kv lv k → base ≤ k) (hs:base ≤ w.heap.size) (h1:LocR w kv kv') (h2:LocR w lv lv') (k:Nat) (hk:onw b kv' lv' k):base ≤ k:=by
  rcases hk with rfl | hk | hk
  · exact hb _ (.inl rfl)
  · exact h1.ge (fun k hk=>hb k (.inr (.inl hk))) hs k hk
  · exact h2.ge (fun k hk=>hb k (.inr (.inr hk))) hs k hk
theorem Mut.then {w w1 w':World} {b:Nat} {kv lv kv1 lv1:Value} {p':Nat → Bool} (hf:Fr (onw b kv lv) w w1) (h1:LocR w kv kv1) (h2:LocR w lv lv1) (h:Mut A w1 b kv1 lv1 p' w'):Mut A w b kv lv p' w':=by
  obtain ⟨kv',lv',g1,g2,g3,g4⟩:=h
  refine ⟨kv',lv',g1,⟨g2.os.trans hf.os,g2.tape.trans hf.tape,g2.output.trans hf.output,Nat.le_trans hf.size g2.size,fun k hk hn=>?_⟩,h1.trans g3 hf.size,h2.trans g4 hf.size⟩
  rw [g2.block k (Nat.lt_of_lt_of_le hk hf.size) (fun h=>hn ?_),hf.block k hk hn]
  rcases h with h | h | h
  · exact .inl h
  · rcases h1 with h1 | h1
    · exact .inr (.inl (h1 ▸ h))
    · have:=h1 k h;omega
  · rcases h2 with h2 | h2
    · exact .inr (.inr (h2 ▸ h))
    · have:=h2 k h;omega
end Go.Proofs.YtbokphkfojijoaaGreatDoor
end
section
set_option linter.unusedSimpArgs false
set_option linter.unusedVariables false
set_option maxRecDepth 3000
namespace Go.Proofs.YtbokphkfojijoaaGreatDoor
open Go.LA Go.ArrP Go.RowKit
variable {A B:Nat → Prop}
theorem arB (w:World) (n:Nat) (hn:n ≤ 1000000):Fc Tryz.prog 182 #[nilS,.int .i64 n] w (Ret w (.pred (bfA w.heap.size tK .u16 []))):=by
  by_cases h0:n=0
  · subst h0
    refine Fc.of (args:=[_,_]) Tryz.func182 rfl rfl Tryz.ntmps182 (Nat.le_of_ble_eq_true rfl) ?_
    repeat' (first|(refine oLA ?_;first|refine a0A rfl ?_|(refine oD 10 ?_;refine sqA rfl rfl rfl ?_)|(refine dkA ?_;refine azA (n:=0) (s:=1) (cs:=[]) rfl _ rfl rfl (HasC.ownV (base:=0) (e:=0) Own.nil) ?_)|refine wOp ?_|(refine wCm ?_ ?_<;>intro hc)|(refine wNl hK ?_;clear hK K))|refine wG ?_|(refine wCR ?_;intro K hK)|fail)
    all_goals skip
    exact akA rfl rfl (Ext.refl _) (fun v _ _ hv=>by obtain rfl:v=_:=hv;exact OwnI.nil)
  · refine Fc.of (args:=[_,_]) Tryz.func182 rfl rfl Tryz.ntmps182 (Nat.le_of_ble_eq_true rfl) ?_
    repeat' (first|(refine oLA ?_;first|refine a0A rfl ?_|(refine oD 10 ?_;refine sqA rfl rfl rfl ?_)|(refine oD 19 ?_;refine sqA rfl rfl rfl ?_)|(refine dkA ?_;refine azA (n:=0) (s:=1) (cs:=[]) rfl _ rfl rfl (HasC.ownV (base:=0) (e:=0) Own.nil) ?_)|(refine oD 20 ?_;refine fkA (n:=0) (s:=1) (cs:=[]) rfl _ rfl rfl (HasC.ownV (base:=0) (e:=0) Own.nil) rfl (by decide) (by decide) (fun _=>rfl) ?_)|(refine oD 22 ?_;refine a4A (hK _ _ (kqA (n:=0) (kn:=n) (cs:=[]) (cap:=0) (a:=none) rfl (by decide) czA rfl rfl rfl (Own.nil (base:=0) (e:=0)).slC (by omega) (by omega) (by omega) (by decide) (by omega) (by omega) (fun v' w1 w2 zs e1 hz1 hz2 ho e2=>?_)));clear hK K;refine aeA (by kernel_rfl) (fun K hK=>?_))|refine wOp ?_|(refine wCm ?_ ?_<;>intro hc)|(refine wNl hK ?_;clear hK K))|refine wG ?_|(refine wCR ?_;intro K hK)|fail)
    all_goals skip
    refine akA rfl rfl (e1.trans e2) (fun v w3 e3 hv=>?_)
    obtain rfl:v=_:=hv
    rcases ho.2 with ⟨_,h1⟩ | ⟨gb,cap,cur,rfl,hx⟩
    · omega
    · have h2:=tnA ho 0 (Nat.zero_le _)
      have hcap:0 < cap:=by have:=hx.2.2.1;omega
      have h3:eoA (.slice (some ⟨gb,0,none⟩) (0 + n) cap) 0 0 Tryz.prog.types[31].size=.slice (some ⟨gb,0,none⟩) 0 cap:=g1A hcap
      rw [h3]
      exact Own.base (h2.ext e3) e1.size
def rl2 (xs ys:List Int) (i:Nat):List Int:=if i=0 then [] else if i=1 then xs else xs ++ ys
theorem ufA {w:World} {v ka kb:Value} {xs ys:List Int} (hv:SlC w v 2 1 [ka,kb]) (ha:SlI .u16 w ka xs) (hb:SlI .u16 w kb ys) (hx:xs.length ≤ 65536) (hy:ys.length ≤ 65536) :
    Fc Tryz.prog 137 #[v] w (Ret w (.pred (bfA w.heap.size tK .u16 (xs ++ ys)))):=by
  have hgr:∀ w',Ext w w' → _:=fun w' e=>arB w' (xs.length + ys.length) (by omega)
  refine Fc.of (args:=[_]) Tryz.func137 rfl rfl Tryz.ntmps137 (Nat.le_of_ble_eq_true rfl) ?_
  repeat' (first|(refine oLA ?_;first|refine a0A rfl ?_|(refine dkA ?_;refine azA rfl _ rfl rfl (HasC.val hv) ?_)|refine wOp ?_|(refine wCm ?_ ?_<;>intro hc)|(refine wNl hK ?_;clear hK K))|refine wG ?_|(refine wCR ?_;intro K hK)|fail)
  refine bjA (ι:=Nat) (fun i=>[(0,.val v),(3,.val (.int .i64 ((rl2 xs ys i).length:Nat))),(9,.val v),(10,.val (.int .i64 2)),(11,.val (.int .i64 i))]) (fun i=>i ≤ 2) (fun i=>2 - i) 0 (by decide) (by repeat' (first | exact Sub.nil | refine Sub.val rfl (by first | with_reducible rfl | (congr 1;omega)) ?_ | refine Sub.same rfl ?_)) ?_
  intro i hi
  obtain rfl | rfl | rfl:i=0 ∨ i=1 ∨ i=2:=by omega
  · skip
    repeat' (first|(refine oLA ?_;first|refine a0A rfl ?_|(refine oD 13 ?_;refine boA (s:=1) rfl _ rfl (fun _=>rfl) rfl (HasC.val hv) rfl 0 rfl (by decide) ?_)|(refine oD 14 ?_;refine f6A (c:=ka) rfl (fun _=>rfl) rfl ?_)|(refine dkA ?_;refine azA rfl _ rfl rfl (HasI.val ha).c ?_)|(refine oD 18 ?_;refine avA rfl rfl rfl (by show -9223372036854775808 ≤ (0:Int) + xs.length ∧ (0:Int) + xs.length ≤ 9223372036854775807;omega) ?_)|(refine oD 20 ?_;refine h2A rfl rfl rfl rfl (by show ¬ ((0:Int) + xs.length < 0);omega) ?_)|refine wOp ?_|(refine wCm ?_ ?_<;>intro hc)|(refine wNl hK ?_;clear hK K))|refine wG ?_|(refine wCR ?_;intro K hK)|fail)
    all_goals skip
    exact chA 1 (by decide) (by decide) (Sub.same rfl (Sub.val rfl (by show Value.int .i64 ((0:Int) + xs.length)=.int .i64 xs.length;rw [Int.zero_add]) (Sub.same rfl (Sub.same rfl (Sub.same rfl Sub.nil)))))
  · skip
    repeat' (first|(refine oLA ?_;first|refine a0A rfl ?_|(refine oD 13 ?_;refine boA (s:=1) rfl _ rfl (fun _=>rfl) rfl (HasC.val hv) rfl 1 rfl (by decide) ?_)|(refine oD 14 ?_;refine f6A (c:=kb) rfl (fun _=>rfl) rfl ?_)|(refine dkA ?_;refine azA rfl _ rfl rfl (HasI.val hb).c ?_)|(refine oD 18 ?_;refine avA (a:=(xs.length:Int)) rfl rfl rfl (by dsimp only [fits];omega) ?_)|refine wOp ?_|(refine wCm ?_ ?_<;>intro hc)|(refine wNl hK ?_;clear hK K))|refine wG ?_|(refine wCR ?_;intro K hK)|fail)
    all_goals skip
    exact chA 2 (by decide) (by decide) (Sub.same rfl (Sub.val rfl (by show Value.int .i64 ((xs.length:Int) + ys.length)=.int .i64 ((xs ++ ys).length:Nat);rw [List.length_append,Int.natCast_add]) (Sub.same rfl (Sub.same rfl (Sub.same rfl Sub.nil)))))
  · skip
    repeat' (first|(refine oLA ?_;first|refine a0A rfl ?_|(refine oD 23 ?_;refine cmA (c:=.int .i64 ((xs.length + ys.length:Nat):Int)) rfl (by show AD.val (Value.int .i64 ((xs ++ ys).length:Nat))=_;rw [List.length_append]) ?_)|(refine dkA ?_;refine azA rfl _ rfl rfl (HasC.val hv) ?_)|refine wOp ?_|(refine wCm ?_ ?_<;>intro hc)|(refine oCv ?_;first|(refine oC 182 ?_;refine a3A (f:=182) rfl rfl rfl rfl  (.pred (bfA w.heap.size tK .u16 [])) (by intro u1 u2 w e hu1 hu2;(try obtain rfl:u1=_:=hu1);(try obtain rfl:u2=_:=hu2);exact (hgr _ e).mono (aaA e.size)) ?_))|(refine wNl hK ?_;clear hK K))|refine wG ?_|(refine wCR ?_;intro K hK)|fail)
    all_goals skip
    refine buA 6 rfl (fun v6 w6 e6 h6=>?_)
    refine adA (ι:=Nat × Value) (fun i=>[(6,.val i.2),(25,.val v),(26,.val (.int .i64 2)),(27,.val (.int .i64 i.1))]) (fun i w'=>i.1 ≤ 2 ∧ Ext w w' ∧ OwnI w.heap.size tK .u16 w' i.2 (rl2 xs ys i.1)) (fun i=>2 - i.1)
      (fun w2 e2=>⟨(0,v6),⟨Nat.zero_le 2,e6.trans e2,OwnI.ext h6 e2⟩,(by repeat' (first | exact Sub.nil | refine Sub.val rfl (by first | with_reducible rfl | (congr 1;omega)) ?_ | refine Sub.same rfl ?_))⟩) ?_
    rintro ⟨i,so⟩ w1 ⟨hi,he,ho⟩
    dsimp only at hi ho ⊢
    have ha1:=ha.ext he
    have hb1:=hb.ext he
    have hv1:=hv.ext he
    obtain rfl | rfl | rfl:i=0 ∨ i=1 ∨ i=2:=by omega
    · skip
      repeat' (first|(refine oLA ?_;first|refine a0A rfl ?_|(refine oD 29 ?_;refine boA (s:=1) rfl _ rfl (fun _=>rfl) rfl (HasC.val hv1) rfl 0 rfl (by decide) ?_)|(refine oD 30 ?_;refine f6A (c:=ka) rfl (fun _=>rfl) rfl ?_)|(refine oD 33 ?_;refine a4A (hK _ _ (cxA (n:=0) (cs:=[]) rfl (by decide) czA rfl ho rfl (HasI.val ha1).c (by intro u hu;obtain ⟨z,_,rfl⟩:=List.mem_map.1 hu;rfl) (by unfold maxLen;omega) (by omega) he.size (fun v' wa wb' e' ho' hg'=>?_)));clear hK K;refine aeA (by kernel_rfl) (fun K hK=>?_))|refine wOp ?_|(refine wCm ?_ ?_<;>intro hc)|(refine wNl hK ?_;clear hK K))|refine wG ?_|(refine wCR ?_;intro K hK)|fail)
      all_goals skip
      have ho2:OwnI w.heap.size tK .u16 wb' v' (rl2 xs ys 1):=by
        show Own _ _ _ _ _ xs.length (xs.map _)
        simpa using ho'
      exact a6A (1,v') (fun w5 e5=>⟨(by decide:1 ≤ 2),((he.trans e').grown hg' (fun q hq=>(Own.lt ho q hq).1)).trans e5,ho2.ext e5⟩) (by dsimp only;omega) (by repeat' (first | exact Sub.nil | refine Sub.val rfl (by first | with_reducible rfl | (congr 1;omega)) ?_ | refine Sub.same rfl ?_))
    · skip
      repeat' (first|(refine oLA ?_;first|refine a0A rfl ?_|(refine oD 29 ?_;refine boA (s:=1) rfl _ rfl (fun _=>rfl) rfl (HasC.val hv1) rfl 1 rfl (by decide) ?_)|(refine oD 30 ?_;refine f6A (c:=kb) rfl (fun _=>rfl) rfl ?_)|(refine oD 33 ?_;refine a4A (hK _ _ (cxA (n:=xs.length) (cs:=xs.map (Value.int .u16)) rfl (by decide) czA rfl ho rfl (HasI.val hb1).c (by intro u hu;obtain ⟨z,_,rfl⟩:=List.mem_map.1 hu;rfl) (by unfold maxLen;omega) (by omega) he.size (fun v' wa wb' e' ho' hg'=>?_)));clear hK K;refine aeA (by kernel_rfl) (fun K hK=>?_))|refine wOp ?_|(refine wCm ?_ ?_<;>intro hc)|(refine wNl hK ?_;clear hK K))|refine wG ?_|(refine wCR ?_;intro K hK)|fail)
      all_goals skip
      have ho2:OwnI w.heap.size tK .u16 wb' v' (rl2 xs ys 2):=by
        show Own _ _ _ _ _ (xs ++ ys).length ((xs ++ ys).map _)
        rw [List.length_append,List.map_append];exact ho'
      exact a6A (2,v') (fun w5 e5=>⟨(by decide:2 ≤ 2),((he.trans e').grown hg' (fun q hq=>(Own.lt ho q hq).1)).trans e5,ho2.ext e5⟩) (by dsimp only;omega) (by repeat' (first | exact Sub.nil | refine Sub.val rfl (by first | with_reducible rfl | (congr 1;omega)) ?_ | refine Sub.same rfl ?_))
    · skip
      repeat' (first|(refine oLA ?_;first|refine a0A rfl ?_|refine wOp ?_|(refine wCm ?_ ?_<;>intro hc)|(refine wNl hK ?_;clear hK K))|refine wG ?_|(refine wCR ?_;intro K hK)|fail)
      all_goals skip
      exact akA rfl rfl he (fun u w5 e5 hu=>by obtain rfl:u=_:=hu;exact OwnI.ext (xs:=xs ++ ys) ho e5)
end Go.Proofs.YtbokphkfojijoaaGreatDoor
end
section
set_option linter.unusedSimpArgs false
set_option linter.unusedVariables false
set_option maxRecDepth 3000
namespace Go.Proofs.YtbokphkfojijoaaGreatDoor
open Go.LA Go.ArrP Go.RowKit
variable {A B:Nat → Prop}
theorem getD_drop {xs:List Int} {k i:Nat}:(xs.drop k).getD i 0=xs.getD (k + i) 0:=by
  rw [List.getD_eq_getElem?_getD,List.getD_eq_getElem?_getD,List.getElem?_drop]
theorem mpA {xs:List Int} {k:Nat} (h:k < xs.length):xs.take (k + 1)=xs.take k ++ [xs.getD k 0]:=by
  rw [List.getD_eq_getElem?_getD,List.getElem?_eq_getElem h,List.take_add_one,List.getElem?_eq_getElem h];rfl
structure MidD (xs ys:List Int) (k j:Nat):Prop where
  len:ys.length=xs.length
  lo:0 < k
  le:k < j
  hi:j ≤ xs.length
  pre:ys.take k=ddN xs j
  rest:∀ i,j ≤ i + 1 → ys.getD i 0=xs.getD i 0
theorem MidD.skip {xs ys:List Int} {k j:Nat} (h:MidD xs ys k j) (hj:j < xs.length) (he:xs.getD j 0=xs.getD (j - 1) 0):MidD xs ys k (j + 1) :=
  ⟨h.len,h.lo,by have:=h.le;omega,hj,by rw [mqA (by have:=h.le;omega) he];exact h.pre,fun i hi=>h.rest i (by omega)⟩
theorem MidD.put {xs ys:List Int} {k j:Nat} (h:MidD xs ys k j) (hj:j < xs.length) (he:xs.getD j 0 ≠ xs.getD (j - 1) 0):MidD xs (ys.set k (xs.getD j 0)) (k + 1) (j + 1):=by
  have h1:=h.le
  have h2:=h.len
  refine ⟨by rw [List.length_set];exact h.len,by omega,by omega,hj,?_,fun i hi=>?_⟩
  · rw [mrA he,← h.pre,mpA (by rw [List.length_set];omega),List.take_set_of_le (Nat.le_refl _)]
    congr 2
    rw [List.getD_eq_getElem?_getD,List.getElem?_set_self (by omega)];rfl
  · rw [List.getD_eq_getElem?_getD,List.getElem?_set_ne (by omega),← List.getD_eq_getElem?_getD]
    exact h.rest i (by omega)
set_option maxHeartbeats 1000000 in
theorem rlA {w0 w:World} {v:Value} {xs:List Int} (he0:Ext w0 w) (ho0:OwnI w0.heap.size tK .u16 w v xs) (hx:xs.length ≤ 1000000) :
    Fc Tryz.prog 139 #[v] w (fun en w'=>∃ v',en=.returned v' ∧ Ext w0 w' ∧ OwnI w0.heap.size tK .u16 w' v' (ddN xs xs.length)):=by
  by_cases hlt:xs.length < 2
  · have hd:ddN xs xs.length=xs:=by
      rcases xs with _ | ⟨a,_ | ⟨b,r⟩⟩
      · rfl
      · rfl
      · simp at hlt;omega
    rw [hd]
    refine Fc.of (args:=[_]) Tryz.func139 rfl rfl Tryz.ntmps139 (Nat.le_of_ble_eq_true rfl) ?_
    repeat' (first|(refine oLA ?_;first|refine a0A rfl ?_|(refine dkA ?_;refine azA rfl _ rfl rfl (HasI.ownV ho0).c ?_)|refine wOp ?_|(refine wCm ?_ ?_<;>intro hc)|(refine wNl hK ?_;clear hK K))|refine wG ?_|(refine wCR ?_;intro K hK)|fail)
    all_goals skip
    exact bxA rfl (fun u w5 e5 hu=>by obtain rfl:u=_:=hu;exact ⟨_,rfl,he0.trans e5,ho0.ext e5⟩)
  · obtain ⟨b,cap,cur,rfl,hb,hg,hnc,hm,hsz,ht⟩:=ho0.row (by omega)
    refine Fc.of (args:=[_]) Tryz.func139 rfl rfl Tryz.ntmps139 (Nat.le_of_ble_eq_true rfl) ?_
    repeat' (first|(refine oLA ?_;first|refine a0A rfl ?_|(refine dkA ?_;refine azA rfl _ rfl rfl (HasI.ownV ho0).c ?_)|refine wOp ?_|(refine wCm ?_ ?_<;>intro hc)|(refine wNl hK ?_;clear hK K))|refine wG ?_|(refine wCR ?_;intro K hK)|fail)
    refine bjA (ι:=Nat) (fun k=>[(0,.val (.slice (some ⟨b,0,none⟩) xs.length cap)),(3,.val (.int .i64 k))]) (fun k=>1 ≤ k ∧ k ≤ xs.length ∧ ddN xs k=xs.take k) (fun k=>xs.length - k) 1 ⟨Nat.le_refl _,by omega,by rw [riA,mpA (by omega)];rfl⟩ (by repeat' (first | exact Sub.nil | refine Sub.val rfl (by first | with_reducible rfl | (congr 1;omega)) ?_ | refine Sub.same rfl ?_)) ?_
    rintro k ⟨hk1,hk2,hkd⟩
    by_cases hkl:k < xs.length
    · by_cases heq:xs.getD k 0=xs.getD (k - 1) 0
      · skip
        repeat' (first|(refine oLA ?_;first|refine a0A rfl ?_|(refine dkA ?_;refine azA rfl _ rfl rfl (HasI.ownV ho0).c ?_)|(refine oD 18 ?_;refine acA rfl _ rfl (fun _=>rfl) rfl (HasI.ownV ho0) rfl hkl ?_)|(refine oD 22 ?_;refine afA rfl rfl rfl (by dsimp only [fits];omega) ?_;rw [show ((k:Int) - 1)=((k - 1:Nat):Int) by omega])|(refine oD 23 ?_;refine acA rfl _ rfl (fun _=>rfl) rfl (HasI.ownV ho0) rfl (by omega) ?_;rw [← heq])|(refine oD 28 ?_;refine gmA rfl _ rfl rfl (HasC.ownV ho0) rfl (by omega) (by omega) (by exact fun _=>rfl) ?_;rw [Int.toNat_natCast,g1A (show k < cap by omega)])|refine wOp ?_|(refine wCm ?_ ?_<;>intro hc)|(refine wNl hK ?_;clear hK K))|refine wG ?_|(refine wCR ?_;intro K hK)|fail)
        all_goals skip
        have hm0:MidD xs xs k (k + 1):=⟨rfl,hk1,Nat.lt_succ_self k,hkl,by rw [mqA hk1 heq];exact hkd.symm,fun _ _=>rfl⟩
        refine adA (ι:=Nat × Nat × List Int) (fun i=>[(0,.val (.slice (some ⟨b,0,none⟩) xs.length cap)),(3,.val (.int .i64 i.1)),(4,.val (.slice (some ⟨b,k * 1,none⟩) (xs.length - k) (cap - k))),(5,.val (.int .i64 i.2.1))]) (fun i w'=>Ext w0 w' ∧ 1 ≤ i.2.1 ∧ MidD xs i.2.2 i.1 (k + i.2.1) ∧ OwnI w0.heap.size tK .u16 w' (.slice (some ⟨b,0,none⟩) xs.length cap) i.2.2) (fun i=>xs.length - i.2.1)
          (fun w2 e2=>⟨(k,1,xs),⟨he0.trans e2,Nat.le_refl _,hm0,ho0.ext e2⟩,(by repeat' (first | exact Sub.nil | refine Sub.val rfl (by first | with_reducible rfl | (congr 1;omega)) ?_ | refine Sub.same rfl ?_))⟩) ?_
        rintro ⟨k',k2,ys⟩ w1 ⟨he,h1,hM,ho⟩
        dsimp only at h1 hM ho ⊢
        have hyl:=hM.len
        have hle:=hM.le
        have hhi:=hM.hi
        have hs4:SlI .u16 w1 (.slice (some ⟨b,k * 1,none⟩) (xs.length - k) (cap - k)) (ys.drop k):=by
          have:=SlI.drop ho.slI (l:=k) (by omega)
          rwa [g1A (show k < cap by omega),hyl] at this
        have hdl:(ys.drop k).length=xs.length - k:=by rw [List.length_drop,hyl]
        by_cases h2:k2 < xs.length - k
        · have g1:(ys.drop k).getD k2 0=xs.getD (k + k2) 0:=by rw [getD_drop];exact hM.rest _ (by omega)
          have g2:(ys.drop k).getD (k2 - 1) 0=xs.getD (k + k2 - 1) 0:=by
            rw [getD_drop,show k + (k2 - 1)=k + k2 - 1 by omega];exact hM.rest _ (by omega)
          by_cases he2:xs.getD (k + k2) 0=xs.getD (k + k2 - 1) 0
          · skip
            repeat' (first|(refine oLA ?_;first|refine a0A rfl ?_|(refine dkA ?_;refine azA rfl _ rfl rfl (HasI.val hs4).c ?_;rw [hdl])|(refine oD 37 ?_;refine acA rfl _ rfl (fun _=>rfl) rfl (HasI.val hs4) rfl (by omega) ?_;rw [g1])|(refine oD 41 ?_;refine afA rfl rfl rfl (by dsimp only [fits];omega) ?_;rw [show ((k2:Int) - 1)=((k2 - 1:Nat):Int) by omega])|(refine oD 42 ?_;refine acA rfl _ rfl (fun _=>rfl) rfl (HasI.val hs4) rfl (by omega) ?_;rw [g2,← he2])|refine wOp ?_|(refine wCm ?_ ?_<;>intro hc)|(refine wNl hK ?_;clear hK K))|refine wG ?_|(refine wCR ?_;intro K hK)|fail)
            all_goals skip
            exact a6A (k',k2 + 1,ys) (fun w5 e5=>⟨he.trans e5,by dsimp only;omega,hM.skip (by omega) he2,ho.ext e5⟩) (by dsimp only;omega) (by repeat' (first | exact Sub.nil | refine Sub.val rfl (by first | with_reducible rfl | (congr 1;omega)) ?_ | refine Sub.same rfl ?_))
          · obtain ⟨b',cap',cur',hv',hb',hg',hnc',hm',hsz',ht'⟩:=ho.row (by omega)
            injection hv' with h5 h6 h7
            injection h5 with h5
            injection h5 with h5
            subst h5;subst h7
            have hlk:k' < ys.length:=by omega
            repeat' (first|(refine oLA ?_;first|refine a0A rfl ?_|(refine dkA ?_;refine azA rfl _ rfl rfl (HasI.val hs4).c ?_;rw [hdl])|(refine oD 37 ?_;refine acA rfl _ rfl (fun _=>rfl) rfl (HasI.val hs4) rfl (by omega) ?_;rw [g1])|(refine oD 41 ?_;refine afA rfl rfl rfl (by dsimp only [fits];omega) ?_;rw [show ((k2:Int) - 1)=((k2 - 1:Nat):Int) by omega])|(refine oD 42 ?_;refine acA rfl _ rfl (fun _=>rfl) rfl (HasI.val hs4) rfl (by omega) ?_;rw [g2])|(refine oD 44 ?_;refine n4A rfl rfl rfl rfl he2 ?_)|(refine oD 49 ?_;refine acA rfl _ rfl (fun _=>rfl) rfl (HasI.val hs4) rfl (by omega) ?_;rw [g1])|(refine oD 51 ?_;refine c6A (s:=1) rfl rfl (fun _=>rfl) rfl rfl (by omega) (by omega) ?_;rw [Int.toNat_natCast,Nat.zero_add,Nat.mul_one])|(refine oSt ?_;refine a4A (hK _ _ (bgA rfl rfl rfl hg' (fun _=>rfl) (by omega) rfl rfl (fun w7 e7=>?_)));clear hK K)|refine wOp ?_|(refine wCm ?_ ?_<;>intro hc)|(refine wNl hK ?_;clear hK K))|refine wG ?_|(refine wCR ?_;intro K hK)|fail)
            all_goals skip
            have hset:=OwnI.set hb' (e7.block hg') hnc' hm' hsz' ht' k' hlk (xs.getD (k + k2) 0)
            rw [hyl] at hset
            have x7:=(he.trans e7).setRow hb' (cur'.setIfInBounds k' (.int .u16 (xs.getD (k + k2) 0)))
            exact a6A (k' + 1,k2 + 1,ys.set k' (xs.getD (k + k2) 0)) (fun w5 e5=>⟨x7.trans e5,by dsimp only;omega,hM.put (by omega) he2,hset.ext e5⟩) (by dsimp only;omega) (by repeat' (first | exact Sub.nil | refine Sub.val rfl (by first | with_reducible rfl | (congr 1;omega)) ?_ | refine Sub.same rfl ?_))
        · obtain ⟨b',cap',cur',hv',hb',hg',hnc',hm',hsz',ht'⟩:=ho.row (by omega)
          injection hv' with h5 h6 h7
          injection h5 with h5
          injection h5 with h5
          subst h5;subst h7
          have hkc:k' < cap:=by omega
          repeat' (first|(refine oLA ?_;first|refine a0A rfl ?_|(refine dkA ?_;refine azA rfl _ rfl rfl (HasI.val hs4).c ?_;rw [hdl])|(refine oD 56 ?_;refine gmA (s:=1) rfl _ rfl rfl (HasC.ownV ho) rfl (by omega) (by omega) (by exact fun _=>rfl) ?_;rw [Int.toNat_natCast,hyl,g1A hkc])|(refine a4A (hK _ _ (oqA rfl rfl (fun _=>rfl) rfl rfl rfl hg' (by omega) (fun w7 cur2 e7 hs2 ht2=>?_)));clear hK K)|(refine oD 59 ?_;refine shA (s:=1) rfl _ rfl rfl rfl (by omega) (by omega) (by omega) (fun _=>rfl) ?_;rw [Int.toNat_natCast])|refine wOp ?_|(refine wCm ?_ ?_<;>intro hc)|(refine wNl hK ?_;clear hK K))|refine wG ?_|(refine wCR ?_;intro K hK)|fail)
          all_goals skip
          have hown:OwnI w0.heap.size tK .u16 (w7.setRow b cur2) (.slice (some ⟨b,0,none⟩) k' cap) (ys.take k'):=by
            have hl:(ys.take k').length=k':=by rw [List.length_take];omega
            refine ⟨by rw [List.length_map,hl,Nat.mul_one],.inr ⟨b,cap,cur2,by rw [hl],hb',setRow_heap w7 b cur' _ tK _ (e7.block hg'),by rw [hl];omega,hm',by rw [hs2];omega,?_⟩⟩
            rw [hl,Nat.mul_one,List.map_take,← ht',List.take_take,Nat.min_eq_left (by omega)]
            rwa [Nat.mul_one] at ht2
          rw [hM.pre,show k + k2=xs.length by omega] at hown
          exact bxA rfl (fun u w5 e5 hu=>by obtain rfl:u=_:=hu;exact ⟨_,rfl,((he.trans e7).setRow hb' cur2).trans e5,hown.ext e5⟩)
      · skip
        repeat' (first|(refine oLA ?_;first|refine a0A rfl ?_|(refine dkA ?_;refine azA rfl _ rfl rfl (HasI.ownV ho0).c ?_)|(refine oD 18 ?_;refine acA rfl _ rfl (fun _=>rfl) rfl (HasI.ownV ho0) rfl hkl ?_)|(refine oD 22 ?_;refine afA rfl rfl rfl (by dsimp only [fits];omega) ?_;rw [show ((k:Int) - 1)=((k - 1:Nat):Int) by omega])|(refine oD 23 ?_;refine acA rfl _ rfl (fun _=>rfl) rfl (HasI.ownV ho0) rfl (by omega) ?_)|(refine oD 25 ?_;refine h2A rfl rfl rfl rfl heq ?_)|refine wOp ?_|(refine wCm ?_ ?_<;>intro hc)|(refine wNl hK ?_;clear hK K))|refine wG ?_|(refine wCR ?_;intro K hK)|fail)
        all_goals skip
        exact chA (k + 1) ⟨by omega,hkl,by rw [mrA heq,hkd,mpA hkl]⟩ (by omega) (by repeat' (first | exact Sub.nil | refine Sub.val rfl (by first | with_reducible rfl | (congr 1;omega)) ?_ | refine Sub.same rfl ?_))
    · obtain rfl:k=xs.length:=by omega
      repeat' (first|(refine oLA ?_;first|refine a0A rfl ?_|(refine dkA ?_;refine azA rfl _ rfl rfl (HasI.ownV ho0).c ?_)|refine wOp ?_|(refine wCm ?_ ?_<;>intro hc)|(refine wNl hK ?_;clear hK K))|refine wG ?_|(refine wCR ?_;intro K hK)|fail)
      all_goals skip
      exact bxA rfl (fun u w5 e5 hu=>by obtain rfl:u=_:=hu;exact ⟨_,rfl,he0.trans e5,by rw [hkd,List.take_length];exact ho0.ext e5⟩)
end Go.Proofs.YtbokphkfojijoaaGreatDoor
end
