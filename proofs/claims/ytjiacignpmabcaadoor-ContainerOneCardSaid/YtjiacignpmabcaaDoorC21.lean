import Derived.Test.YtjiacignpmabcaaDoorC18
import Derived.Test.YtjiacignpmabcaaDoorC14

set_option linter.unusedSimpArgs false
set_option linter.unusedVariables false
set_option maxRecDepth 3000
namespace Go.LA
open Go.RowKit
section
variable {P : Program} {l : List Oper} {wb : World} {K : List Oper → Env → Prop} {rest : List Oper} {E : Env} {d : Tmp} {ty t t' : TypeId} {pos : String} {after : Array Edge} {g : Option (Nat × Bool)} {x y : Operand} {k : IntKind}
theorem LA_quoW {a b : Int} (hg : gdec l E g = some true) (hx : opE E x = .val (.int k a)) (hy : opE E y = .val (.int k b)) (hb : b ≠ 0) (h : LA P l wb K rest ((d, .val (.int k (k.wrap (a.tdiv b)))) :: E)) :
    LA P l wb K (⟨some d, .binOp .quo t x y t', ty, pos, after, g⟩ :: rest) E :=
  LA_of _ hg (OB_val fun ac w he hh => by
    have e1 := hh x (by simp [Op.operands]); have e2 := hh y (by simp [Op.operands])
    rw [hx] at e1; rw [hy] at e2; simp only [AD.ok] at e1 e2
    simp [execOp, e1, e2, eqGuard_quo, binOp_quo, Op.intDiv, hb]) h
theorem wrap64_range (x : Int) : -9223372036854775808 ≤ IntKind.i64.wrap x ∧ IntKind.i64.wrap x < 9223372036854775808 := by
  have h1 : IntKind.i64.bits = 64 := rfl
  have h2 : IntKind.i64.signed = true := rfl
  unfold IntKind.wrap
  simp only [h1, h2, Bool.true_and]
  split
  · rename_i h; simp at h; omega
  · rename_i h; simp at h; omega
end
end Go.LA
namespace Go.Proofs.YtjiacignpmabcaaDoor
open Go.LA Go.ArrP Go.RowKit
/-! ### ContainerOne -/
theorem memb_step {xs : List Int} {k x : Nat} (hk : k < xs.length) (hx : xs.getD k 0 = (x : Int)) (i : Nat) (hi : i < 65536) : addP (memb (xs.take k)) x i = memb (xs.take (k + 1)) i := by
  have e : xs.take (k + 1) = xs.take k ++ [(x : Int)] := by
    rw [List.take_add_one, ← hx]; simp [List.getD, hk]
  rw [e]
  unfold addP memb
  rw [← Bool.decide_or]
  refine decide_eq_decide.2 ?_
  rw [List.mem_append, List.mem_singleton]
  exact or_congr Iff.rfl ⟨fun h => by rw [h], fun h => by omega⟩
theorem kind_none : kindP (memb []) = 1 := (kind_of (cnt_memb (by decide) (fun x h => by cases h)) (starts_memb (by decide) (fun x h => by cases h))).trans (by decide)
theorem flip_join (p : Nat → Bool) {lo mid hi : Int} (h1 : lo ≤ mid) (h2 : mid ≤ hi) (i : Nat) (hi' : i < 65536) : flp (flp p lo mid) mid hi i = flp p lo hi i := by
  unfold flp two fXor' spanM
  by_cases c1 : lo ≤ (i : Int)
  · by_cases c2 : mid ≤ (i : Int)
    · rw [decide_eq_true c1, decide_eq_true c2, decide_eq_false (by omega : ¬ (i : Int) < mid)]
      cases p i <;> cases decide ((i : Int) < hi) <;> cases decide (i < 65536) <;> rfl
    · rw [decide_eq_true c1, decide_eq_false c2, decide_eq_true (by omega : (i : Int) < mid), decide_eq_true (by omega : (i : Int) < hi)]
      cases p i <;> cases decide (i < 65536) <;> rfl
  · rw [decide_eq_false c1, decide_eq_false (by omega : ¬ mid ≤ (i : Int))]
    cases p i <;> rfl
theorem low_get {xs : List Int} (h : Low xs) {k : Nat} (hk : k < xs.length) : 0 ≤ xs.getD k 0 ∧ xs.getD k 0 < 65536 := by
  have : xs.getD k 0 = xs[k] := by simp [List.getD, hk]
  rw [this]; exact h _ (List.getElem_mem hk)
theorem Low.take {xs : List Int} (h : Low xs) (k : Nat) : Low (xs.take k) := fun x hx => h x (List.mem_of_mem_take hx)
theorem lays_one {w : World} {p : Nat → Bool} {kk : Int} {cs : Array Value} (h : Cn TT w (.agg cs) p kk) : ∀ u ∈ cs.toList, u.oneCell' = true := fun u hu =>
  (lays_cn.shape _ _ h).elim fun c h => by obtain ⟨h1, -, h2⟩ := h; cases h1; exact h2 u hu
set_option maxHeartbeats 8000000 in
theorem cone_c (w : World) (va : Value) (xs : List Int) (lo hi : Int) (h1 : SlI .u16 w va xs) (l1 : Low xs) (hlo : -9223372036854775808 ≤ lo ∧ lo < 9223372036854775808) (hhi : -9223372036854775808 ≤ hi ∧ hi < 9223372036854775808) (hT : Tab w) :
    Fc Tryd.prog 3 #[va, .int .i64 lo, .int .i64 hi] w (Ret w (.val (.bool true))) := by
  have n1 := h1.len
  have hp := memb_top l1
  have m1 : ∀ w', Ext w w' → _ := fun w' e => mof_c w' va xs (h1.ext e) l1
  obtain ⟨p, hpp⟩ : ∃ p, p = memb xs := ⟨_, rfl⟩
  rw [← hpp] at m1 hp
  have hpp : Hide (p = memb xs) := ⟨hpp⟩
  refine Fc.of (args := [_, _, _]) Tryd.func3 rfl rfl Tryd.ntmps3 (Nat.le_of_ble_eq_true rfl) ?_
  repeat' (first
   |(refine oLA ?_;first
   |refine LA_pass rfl ?_
   |(refine oAl ?_; refine LA_alloc rfl (fun _ => rfl) ?_)|(refine wOpB ?_;try dsimp only [Int.reduceToNat, Int.reducePow])|refine wOp ?_|(refine wOpD ?_;try dsimp only [Int.reduceToNat, Int.toNat_natCast])|(refine LA_cmp rfl rfl rfl rfl (fun hc => ?_) (fun hc => ?_)<;>dsimp only [cmpP] at hc)|(refine oCv ?_;first
   |(refine oC 7 ?_; refine LA_call0 (f := 7) rfl rfl  (.val (.bool true)) (by intro w e; exact cknown_c _ (hT.ext e)) ?_))|(refine LA_nil (hK [] _ (LX_nil ?_));clear hK K)|(refine LA_nil (hK _ ?_);clear hK K))
   |(refine oCX ?_;first
   |refine wCX ?_|(refine wCR ?_;intro K hK))
   |(refine oPX ?_;first
   |refine wPX ?_
   |exact PX_retE rfl rfl (Ext.refl _) rfl)
   |(refine oLX ?_;first
   |refine LX_nil ?_))
  refine CX_pick 7 rfl (fun v7 w7 e7 h7 => ?_)
  obtain ⟨b7, hb7, rfl, h7⟩ := h7
  have V7 : VarC TT w7 b7 _ (memb []) (kindP (memb [])) := ⟨h7, rfl, by rw [kind_none]; exact Cn.zero.congr rfl (fun i _ => rfl)⟩
  refine CX_loopV (ι := Nat × Array Value) (fun i => [(0, .val va), (1, .val (.int .i64 lo)), (2, .val (.int .i64 hi)), (7, .val (.pointer (some ⟨b7, 0, none⟩))), (20, .val (.int .i64 xs.length)), (21, .val (.int .i64 i.1))])
    (fun i w' => Ext w w' ∧ i.1 ≤ xs.length ∧ VarC TT w' b7 i.2 (memb (xs.take i.1)) (kindP (memb (xs.take i.1)))) (fun i => xs.length - i.1)
    (fun w2 e2 => ⟨(0, _), ⟨e7.trans e2, Nat.zero_le _, V7.ext e2⟩, (by repeat' (first | exact Sub.nil | refine Sub.val rfl (by first | with_reducible rfl | (congr 1; omega)) ?_ | refine Sub.same rfl ?_))⟩) ?_
  rintro ⟨k, cs⟩ w1 ⟨he, hk, hV⟩
  dsimp only at hk hV ⊢
  have h1' := h1.ext he
  have hT1 := hT.ext he
  by_cases hkl : k < xs.length
  · obtain ⟨hx0, hx1⟩ := low_get l1 hkl
    obtain ⟨x, hx⟩ : ∃ x : Nat, xs.getD k 0 = (x : Int) := ⟨(xs.getD k 0).toNat, by omega⟩
    have hxl : x < 65536 := by omega
    have hst := memb_step hkl hx
    have hwi : ∀ w', Ext w1 w' → _ := fun w' e => (cwith_c (hV.hc.ext e) (hT1.ext e) tt hxl).mono (ret_can (memb_top (Low.take l1 (k + 1))) hst)
    repeat' (first
     |(refine oLA ?_;first
     |refine LA_pass rfl ?_
     |(refine oLd ?_; refine LA_loadK rfl hV.hb hV.hn rfl (fun _ => rfl) (fun _ => rfl) ?_)
     |(refine oI ?_; refine LA_indexN rfl _ rfl (fun _ => rfl) rfl (HasI.val h1') rfl (by omega) ?_; rw [hx])
     |(refine oSt ?_; refine LA_stop (hK _ _ rfl (LX_storeK (q := 29) (φ := cnP TT (memb (xs.take (k + 1))) (kindP (memb (xs.take (k + 1))))) (n := 4) rfl rfl rfl hV.hb hV.hn lays_cn (fun _ => rfl) (fun cs' w2 e2 hcn hcs hb2 => ?_))); clear hK K)|(refine wOpB ?_;try dsimp only [Int.reduceToNat, Int.reducePow])|refine wOp ?_|(refine wOpD ?_;try dsimp only [Int.reduceToNat, Int.toNat_natCast])|(refine LA_cmp rfl rfl rfl rfl (fun hc => ?_) (fun hc => ?_)<;>dsimp only [cmpP] at hc)|(refine oCv ?_;first
     |(refine oC 8 ?_; refine LA_call2 (f := 8) rfl rfl rfl rfl  (.pred (cnP TT (memb (xs.take (k + 1))) (kindP (memb (xs.take (k + 1)))))) (by intro u1 u2 w e hu1 hu2; (try obtain rfl : u1 = _ := hu1); (try obtain rfl : u2 = _ := hu2); exact hwi _ e) ?_))|(refine LA_nil (hK [] _ (LX_nil ?_));clear hK K)|(refine LA_nil (hK _ ?_);clear hK K))
     |(refine oCX ?_;first
     |refine CX_regionS 6 rfl (by kernel_rfl) (by kernel_rfl) (fun K hK => ?_)
     |refine wCX ?_|(refine wCR ?_;intro K hK))
     |(refine oPX ?_;first
     |refine wPX ?_)
     |(refine oLX ?_;first
     |refine LX_nil ?_))
    exact PX_rndV (k + 1, cs') (fun w5 e5 => ⟨((he.trans e2).setRow hb7 _).trans e5, hkl, (VarC.set hb2 hcn hcs).ext e5⟩) (by dsimp only; omega) (by repeat' (first | exact Sub.nil | refine Sub.val rfl (by first | with_reducible rfl | (congr 1; omega)) ?_ | refine Sub.same rfl ?_))
  · obtain rfl : k = xs.length := by omega
    rw [List.take_length, ← hpp.out] at hV
    clear hkl hk h7 V7
    repeat' (first
     |(refine oLA ?_;first
     |refine LA_pass rfl ?_
     |(refine oD 9 ?_; refine LA_stop (hK _ _ (LX_varK (q := 36) (φ := cnP TT p 1) (n := 4) rfl rfl (by decide) rfl rfl lays_cn (fun _ => rfl) rfl (fun _ => rfl) (fun b9 c9 w9 e9 hb9 hh9 hn9 hc9 => ?_))); clear hK K)|(refine wOpB ?_;try dsimp only [Int.reduceToNat, Int.reducePow])|refine wOp ?_|(refine wOpD ?_;try dsimp only [Int.reduceToNat, Int.toNat_natCast])|(refine LA_cmp rfl rfl rfl rfl (fun hc => ?_) (fun hc => ?_)<;>dsimp only [cmpP] at hc)|(refine oCv ?_;first
     |(refine oC 10 ?_; refine LA_call1 (f := 10) rfl rfl rfl  (.pred (mkI w1.heap.size tM p)) (by intro u1 w e hu1; (try obtain rfl : u1 = _ := hu1); exact (m1 _ (he.trans e)).mono (ret_mk e.size)) ?_)
     |(refine oC 11 ?_; refine LA_call1 (f := 11) rfl rfl rfl  (.pred (ownI w1.heap.size 29 .u16 (listS p 65536))) (by intro u1 w e hu1; (try obtain rfl : u1 = _ := hu1); exact (mlist_c _ _ _ p hu1).mono (ret_base e.size)) ?_)
     |(refine oC 9 ?_; refine LA_call1 (f := 9) rfl rfl rfl  (.tup2 (.pred (cnP TT p 1)) (.val (.bool true))) (by intro u1 w e hu1; (try obtain rfl : u1 = _ := hu1); exact (ofarr_c (OwnI.slI hu1) (listS_inc p _) (listS_low p) tt).mono (ret_t2 (fun _ _ h => cn_memb hp h))) ?_))|(refine LA_nil (hK [] _ (LX_nil ?_));clear hK K)|(refine LA_nil (hK _ ?_);clear hK K))
     |(refine oCX ?_;first
     |refine wCX ?_|(refine wCR ?_;intro K hK))
     |(refine oPX ?_;first
     |refine wPX ?_)
     |(refine oLX ?_;first
     |refine LX_nil ?_))
    have V9 : VarC TT w9 b9 c9 _ _ := ⟨hh9, hn9, hc9⟩
    have T9 := hT1.ext e9
    refine LX_la (by kernel_rfl) (fun K hK => ?_)
    repeat' (first
     |(refine oLA ?_;first
     |refine LA_pass rfl ?_
     |(refine oLd ?_; refine LA_loadK rfl V9.hb V9.hn rfl (fun _ => rfl) (fun _ => rfl) ?_)
     |(refine oD 11 ?_; refine LA_stop (hK _ _ (LX_varK (q := 41) (φ := cnP TT p (kindP p)) (n := 4) rfl rfl (by decide) rfl rfl lays_cn (fun _ => rfl) rfl (fun _ => rfl) (fun b11 c11 w11 e11 hb11 hh11 hn11 hc11 => ?_))); clear hK K)|(refine wOpB ?_;try dsimp only [Int.reduceToNat, Int.reducePow])|refine wOp ?_|(refine wOpD ?_;try dsimp only [Int.reduceToNat, Int.toNat_natCast])|(refine LA_cmp rfl rfl rfl rfl (fun hc => ?_) (fun hc => ?_)<;>dsimp only [cmpP] at hc)|(refine oCv ?_;first
     |(refine oC 12 ?_; refine LA_call1 (f := 12) rfl rfl rfl  (.pred (cnP TT p (kindP p))) (by intro u1 w e hu1; (try obtain rfl : u1 = _ := hu1); exact canon_c (V9.hc.ext e) (T9.ext e) tt) ?_))|(refine LA_nil (hK [] _ (LX_nil ?_));clear hK K)|(refine LA_nil (hK _ ?_);clear hK K))
     |(refine oCX ?_;first
     |refine wCX ?_|(refine wCR ?_;intro K hK))
     |(refine oPX ?_;first
     |refine wPX ?_)
     |(refine oLX ?_;first
     |refine LX_nil ?_))
    have V11 : VarC TT w11 b11 c11 _ _ := ⟨hh11, hn11, hc11⟩
    have T11 := T9.ext e11
    replace hV := hV.ext (e9.trans e11)
    have e0 := he.trans (e9.trans e11)
    obtain ⟨M, hM⟩ : ∃ M, M = IntKind.i64.wrap ((IntKind.i64.wrap (lo + hi)).tdiv 2) := ⟨_, rfl⟩
    have hMr : -9223372036854775808 ≤ M ∧ M < 9223372036854775808 := hM ▸ wrap64_range _
    obtain ⟨kq, hkq⟩ : ∃ kq, kq = kindP p := ⟨_, rfl⟩
    rw [← hkq] at hV V11
    have Fe : ∀ w', Ext w11 w' → _ := fun w' e => flip_c (hV.hc.ext e) (T11.ext e) tt lo M hlo hMr
    have Ff : ∀ w', Ext w11 w' → _ := fun w' e => flip_c (V11.hc.ext e) (T11.ext e) tt lo hi hlo hhi
    repeat' (first
     |(refine oLA ?_;first
     |refine LA_backN ?_|refine LA_backV rfl ?_|refine LA_backP (fun _ _ _ h => h) ?_|refine LA_pass rfl ?_
     |(refine oLd ?_; refine LA_loadK rfl hV.hb hV.hn rfl (fun _ => rfl) (fun _ => rfl) ?_)
     |(refine oLd ?_; refine LA_loadK rfl V11.hb V11.hn rfl (fun _ => rfl) (fun _ => rfl) ?_)
     |(refine oD 43 ?_; refine oC 13 ?_; refine LA_call1 (f := 13) rfl rfl rfl  (.val (.int .u8 kq)) (by intro u1 w e hu1; (try obtain rfl : u1 = _ := hu1); exact kind_c (hV.hc.ext e)) ?_)
     |(refine oD 45 ?_; refine oC 13 ?_; refine LA_call1 (f := 13) rfl rfl rfl  (.val (.int .u8 kq)) (by intro u1 w e hu1; (try obtain rfl : u1 = _ := hu1); exact kind_c (V11.hc.ext e)) ?_)
     |(refine oD 49 ?_; refine oC 15 ?_; refine LA_call1 (f := 15) rfl rfl rfl  (.pred (ownI w11.heap.size 29 .u16 (listS p 65536))) (by intro u1 w e hu1; (try obtain rfl : u1 = _ := hu1); exact (array_c (hV.hc.ext e) (T11.ext e)).mono (ret_base e.size)) ?_)
     |(refine oD 51 ?_; refine oC 15 ?_; refine LA_call1 (f := 15) rfl rfl rfl  (.pred (ownI w11.heap.size 29 .u16 (listS p 65536))) (by intro u1 w e hu1; (try obtain rfl : u1 = _ := hu1); exact (array_c (V11.hc.ext e) (T11.ext e)).mono (ret_base e.size)) ?_)
     |(refine oD 57 ?_; refine LA_addW rfl rfl rfl ?_)
     |(refine oD 58 ?_; refine LA_quoW rfl rfl rfl (by decide) ?_; rw [← hM])
     |(refine oAl ?_; refine LA_alloc rfl (fun _ => rfl) ?_)
     |(refine oD 79 ?_; refine oC 16 ?_; refine LA_call3 (f := 16) rfl rfl rfl rfl rfl  (.pred (cnP TT (flp p lo M) (kindP (flp p lo M)))) (by intro u1 u2 u3 w e hu1 hu2 hu3; (try obtain rfl : u1 = _ := hu1); (try obtain rfl : u2 = _ := hu2); (try obtain rfl : u3 = _ := hu3); exact Fe _ e) ?_)
     |(refine oD 82 ?_; refine oC 16 ?_; refine LA_call3 (f := 16) rfl rfl rfl rfl rfl  (.pred (cnP TT (flp p lo hi) (kindP (flp p lo hi)))) (by intro u1 u2 u3 w e hu1 hu2 hu3; (try obtain rfl : u1 = _ := hu1); (try obtain rfl : u2 = _ := hu2); (try obtain rfl : u3 = _ := hu3); exact (flip_c hu1 (T11.ext e) tt M hi hMr hhi).mono (ret_can (flp_top hp lo hi) (flip_join p (by omega) (by omega)))) ?_)
     |(refine oD 86 ?_; refine oC 16 ?_; refine LA_call3 (f := 16) rfl rfl rfl rfl rfl  (.pred (cnP TT (flp p lo hi) (kindP (flp p lo hi)))) (by intro u1 u2 u3 w e hu1 hu2 hu3; (try obtain rfl : u1 = _ := hu1); (try obtain rfl : u2 = _ := hu2); (try obtain rfl : u3 = _ := hu3); exact Ff _ e) ?_)|(refine wOpB ?_;try dsimp only [Int.reduceToNat, Int.reducePow])|refine wOp ?_|(refine wOpD ?_;try dsimp only [Int.reduceToNat, Int.toNat_natCast])|(refine LA_cmp rfl rfl rfl rfl (fun hc => ?_) (fun hc => ?_)<;>dsimp only [cmpP] at hc)|(refine oCv ?_;first
     |(refine oC 14 ?_; refine LA_call2 (f := 14) rfl rfl rfl rfl  (.val (.bool true)) (by intro u1 u2 w e hu1 hu2; (try obtain rfl : u1 = _ := hu1); (try obtain rfl : u2 = _ := hu2); exact ret_true (same_c _ _ _ (listS p 65536) (listS p 65536) (OwnI.slI hu1) (OwnI.slI hu2)) (decide_eq_true rfl)) ?_)
     |(refine oC 7 ?_; refine LA_call0 (f := 7) rfl rfl  (.val (.bool true)) (by intro w e; exact cknown_c _ (T11.ext e)) ?_))|(refine LA_nil (hK [] _ (LX_nil ?_));clear hK K)|(refine LA_nil (hK _ ?_);clear hK K))
     |(refine oCX ?_;first
     |refine CX_phases [11, 13, 14] (by kernel_rfl) (by kernel_rfl) (by kernel_rfl) (Phase_cons ?_)
     |refine wCX ?_|(refine wCR ?_;intro K hK))
     |(refine oPX ?_;first
     |refine wPX ?_
     |exact PX_retE rfl rfl e0 rfl)
     |(refine oLX ?_;first
     |refine LX_nil ?_)
     |(refine oLP ?_;first
     |refine wLP ?_|refine LP_now (by decide +kernel) ?_|refine LP_float (by decide +kernel) rfl ?_|refine LP_nil ?_))
    refine MX_alloc rfl (fun _ => rfl) (fun w12 e12 => ⟨(14, .pred (ptrQ (fun b => w12.heap.size ≠ b ∧ w.heap.size ≤ b) _ tC)) :: _, keep_cons (fun u hu => by obtain ⟨b, hb, rfl, hh⟩ := hu; exact ⟨b, by have := blk_lt hh; have := e0.size; exact ⟨by omega, by omega⟩, rfl, (Ext.alloc _ _).block hh⟩) (mono_keep (Ext.alloc _ _)), ?_⟩)
    have eA := e12.trans (Ext.alloc w12 (.cells (Value.agg #[.int .u8 0, .slice none 0 0, .slice none 0 0, .slice none 0 0]).cells tC))
    have h13 := heap_alloc_new w12 (.cells (Value.agg #[.int .u8 0, .slice none 0 0, .slice none 0 0, .slice none 0 0]).cells tC)
    have hsA : (w12.alloc (.cells (Value.agg #[.int .u8 0, .slice none 0 0, .slice none 0 0, .slice none 0 0]).cells tC)).heap.size = w12.heap.size + 1 := by simp
    obtain ⟨wA, hwA⟩ : ∃ wA, wA = w12.alloc (.cells (Value.agg #[.int .u8 0, .slice none 0 0, .slice none 0 0, .slice none 0 0]).cells tC) := ⟨_, rfl⟩
    obtain ⟨b13, hb13⟩ : ∃ b13, b13 = w12.heap.size := ⟨_, rfl⟩
    have hb13e : w.heap.size ≤ b13 := hb13 ▸ (e0.trans e12).size
    rw [← hwA] at eA hsA ⊢
    rw [← hwA, ← hb13] at h13
    rw [← hb13] at hsA
    rw [← hb13]
    clear hwA
    replace hV := hV.ext eA
    replace V11 := V11.ext eA
    have TA := T11.ext eA
    replace Fe : ∀ w', Ext wA w' → _ := fun w' e => Fe w' (eA.trans e)
    replace Ff : ∀ w', Ext wA w' → _ := fun w' e => Ff w' (eA.trans e)
    refine Phase_cons ?_
    repeat' (first
     |(refine oLA ?_;first
     |refine LA_backN ?_|refine LA_backV rfl ?_|refine LA_backP (fun _ _ _ h => h) ?_|refine LA_pass rfl ?_
     |(refine oLd ?_; refine LA_loadK rfl hV.hb hV.hn rfl (fun _ => rfl) (fun _ => rfl) ?_)
     |(refine oLd ?_; refine LA_loadK rfl V11.hb V11.hn rfl (fun _ => rfl) (fun _ => rfl) ?_)
     |(refine oAl ?_; refine LA_allocQ (fun b => b13 ≠ b ∧ w.heap.size ≤ b) (fun b hb => ⟨by omega, by omega⟩) rfl (fun _ => rfl) ?_)
     |(refine oD 79 ?_; refine oC 16 ?_; refine LA_call3 (f := 16) rfl rfl rfl rfl rfl  (.pred (cnP TT (flp p lo M) (kindP (flp p lo M)))) (by intro u1 u2 u3 w e hu1 hu2 hu3; (try obtain rfl : u1 = _ := hu1); (try obtain rfl : u2 = _ := hu2); (try obtain rfl : u3 = _ := hu3); exact Fe _ e) ?_)
     |(refine oD 82 ?_; refine oC 16 ?_; refine LA_call3 (f := 16) rfl rfl rfl rfl rfl  (.pred (cnP TT (flp p lo hi) (kindP (flp p lo hi)))) (by intro u1 u2 u3 w e hu1 hu2 hu3; (try obtain rfl : u1 = _ := hu1); (try obtain rfl : u2 = _ := hu2); (try obtain rfl : u3 = _ := hu3); exact (flip_c hu1 (TA.ext e) tt M hi hMr hhi).mono (ret_can (flp_top hp lo hi) (flip_join p (by omega) (by omega)))) ?_)
     |(refine oD 86 ?_; refine oC 16 ?_; refine LA_call3 (f := 16) rfl rfl rfl rfl rfl  (.pred (cnP TT (flp p lo hi) (kindP (flp p lo hi)))) (by intro u1 u2 u3 w e hu1 hu2 hu3; (try obtain rfl : u1 = _ := hu1); (try obtain rfl : u2 = _ := hu2); (try obtain rfl : u3 = _ := hu3); exact Ff _ e) ?_)|(refine wOpB ?_;try dsimp only [Int.reduceToNat, Int.reducePow])|refine wOp ?_|(refine wOpD ?_;try dsimp only [Int.reduceToNat, Int.toNat_natCast])|(refine LA_cmp rfl rfl rfl rfl (fun hc => ?_) (fun hc => ?_)<;>dsimp only [cmpP] at hc)|(refine LA_nil (hK [] _ (LX_nil ?_));clear hK K)|(refine LA_nil (hK _ ?_);clear hK K))
     |(refine oCX ?_;first
     |refine wCX ?_|(refine wCR ?_;intro K hK))
     |(refine oPX ?_;first
     |refine wPX ?_)
     |(refine oLX ?_;first
     |refine LX_nil ?_)
     |(refine oLP ?_;first
     |refine wLP ?_|refine LP_now (by decide +kernel) ?_|refine LP_float (by decide +kernel) rfl ?_|refine LP_nil ?_))
    refine MX_pick 82 rfl (look_op (by simp [Op.operands])) rfl (fun v82 w13 e13 h82 => ?_)
    obtain ⟨c13, rfl, hn13, -⟩ := lays_cn.shape _ _ h82
    refine MX_put (n := 4) rfl rfl rfl (e13.block h13) hn13 rfl (fun _ => rfl) (lays_one h82) (fun w14 e14 => ⟨_, keep_cons (t0 := 86) (r := .pred (cnP TT (flp p lo hi) (kindP (flp p lo hi)))) (fun u hu => Cn.setRow hu (e14.block (e13.block h13)) ⟨by decide, by decide, by decide⟩ _) (keep_cons (t0 := 14) (r := .pred (ptrQ (fun b => b13 ≠ b ∧ w.heap.size ≤ b) (Value.agg #[.int .u8 0, .slice none 0 0, .slice none 0 0, .slice none 0 0]).cells tC)) (fun u hu => by obtain ⟨b, hb, rfl, hh⟩ := hu; exact ⟨b, hb, rfl, setRow_keep _ hh (fun h => hb.1 h.symm)⟩) (fun t u h => vals_keep t u h)), ?_⟩)
    have V13 := VarC.set (e14.block (e13.block h13)) hn13 (Cn.ext h82 e14)
    have eB := ((e0.trans eA).trans (e13.trans e14)).setRow hb13e c13
    have TB := hT.ext eB
    obtain ⟨wB, hwB⟩ : ∃ wB, wB = w14.setRow b13 c13 := ⟨_, rfl⟩
    rw [← hwB] at V13 eB TB ⊢
    clear hwB
    refine Phase_cons ?_
    repeat' (first
     |(refine oLA ?_;first
     |refine LA_backN ?_|refine LA_backV rfl ?_|refine LA_backP (fun _ _ _ h => h) ?_|refine LA_pass rfl ?_|(refine wOpB ?_;try dsimp only [Int.reduceToNat, Int.reducePow])|refine wOp ?_|(refine wOpD ?_;try dsimp only [Int.reduceToNat, Int.toNat_natCast])|(refine LA_cmp rfl rfl rfl rfl (fun hc => ?_) (fun hc => ?_)<;>dsimp only [cmpP] at hc)|(refine LA_nil (hK [] _ (LX_nil ?_));clear hK K)|(refine LA_nil (hK _ ?_);clear hK K))
     |(refine oCX ?_;first
     |refine wCX ?_|(refine wCR ?_;intro K hK))
     |(refine oPX ?_;first
     |refine wPX ?_)
     |(refine oLX ?_;first
     |refine LX_nil ?_)
     |(refine oLP ?_;first
     |refine wLP ?_|refine LP_now (by decide +kernel) ?_|refine LP_float (by decide +kernel) rfl ?_|refine LP_nil ?_))
    refine MX_pick 14 rfl (look_op (by simp [Op.operands])) rfl (fun v14 w15 e15 h14 => MX_pick 86 rfl (look_op (by simp [Op.operands])) rfl (fun v86 w16 e16 h86 => ?_))
    obtain ⟨b14, ⟨hne, hb14⟩, rfl, h14⟩ := h14
    obtain ⟨c14, rfl, hn14, -⟩ := lays_cn.shape _ _ h86
    refine MX_put (n := 4) rfl rfl rfl (e16.block h14) hn14 rfl (fun _ => rfl) (lays_one h86) (fun w17 e17 => ⟨_, fun t u h => vals_keep t u h, ?_⟩)
    have h14' := e17.block (e16.block h14)
    have V14 := VarC.set h14' hn14 (Cn.ext h86 e17)
    replace V13 := (V13.ext (e15.trans (e16.trans e17))).other (cs' := c14) h14' hne
    have eC := (eB.trans (e15.trans (e16.trans e17))).setRow hb14 c14
    obtain ⟨wC, hwC⟩ : ∃ wC, wC = w17.setRow b14 c14 := ⟨_, rfl⟩
    rw [← hwC] at V13 V14 eC ⊢
    have TC := hT.ext eC
    clear hwC
    obtain ⟨F, hF⟩ : ∃ F, F = flp p lo hi := ⟨_, rfl⟩
    obtain ⟨kF, hkF⟩ : ∃ kF, kF = kindP F := ⟨_, rfl⟩
    rw [← hF, ← hkF] at V13 V14
    refine Phase_nil ?_
    repeat' (first
     |(refine oLA ?_;first
     |refine LA_backN ?_|refine LA_backV rfl ?_|refine LA_backP (fun _ _ _ h => h) ?_|refine LA_pass rfl ?_
     |(refine oLd ?_; refine LA_loadK rfl V13.hb V13.hn rfl (fun _ => rfl) (fun _ => rfl) ?_)
     |(refine oLd ?_; refine LA_loadK rfl V14.hb V14.hn rfl (fun _ => rfl) (fun _ => rfl) ?_)
     |(refine oD 88 ?_; refine oC 13 ?_; refine LA_call1 (f := 13) rfl rfl rfl  (.val (.int .u8 kF)) (by intro u1 w e hu1; (try obtain rfl : u1 = _ := hu1); exact kind_c (V13.hc.ext e)) ?_)
     |(refine oD 90 ?_; refine oC 13 ?_; refine LA_call1 (f := 13) rfl rfl rfl  (.val (.int .u8 kF)) (by intro u1 w e hu1; (try obtain rfl : u1 = _ := hu1); exact kind_c (V14.hc.ext e)) ?_)
     |(refine oD 94 ?_; refine oC 15 ?_; refine LA_call1 (f := 15) rfl rfl rfl  (.pred (ownI wC.heap.size 29 .u16 (listS F 65536))) (by intro u1 w e hu1; (try obtain rfl : u1 = _ := hu1); exact (array_c (V13.hc.ext e) (TC.ext e)).mono (ret_base e.size)) ?_)
     |(refine oD 96 ?_; refine oC 15 ?_; refine LA_call1 (f := 15) rfl rfl rfl  (.pred (ownI wC.heap.size 29 .u16 (listS F 65536))) (by intro u1 w e hu1; (try obtain rfl : u1 = _ := hu1); exact (array_c (V14.hc.ext e) (TC.ext e)).mono (ret_base e.size)) ?_)|(refine wOpB ?_;try dsimp only [Int.reduceToNat, Int.reducePow])|refine wOp ?_|(refine wOpD ?_;try dsimp only [Int.reduceToNat, Int.toNat_natCast])|(refine LA_cmp rfl rfl rfl rfl (fun hc => ?_) (fun hc => ?_)<;>dsimp only [cmpP] at hc)|(refine oCv ?_;first
     |(refine oC 14 ?_; refine LA_call2 (f := 14) rfl rfl rfl rfl  (.val (.bool true)) (by intro u1 u2 w e hu1 hu2; (try obtain rfl : u1 = _ := hu1); (try obtain rfl : u2 = _ := hu2); exact ret_true (same_c _ _ _ (listS F 65536) (listS F 65536) (OwnI.slI hu1) (OwnI.slI hu2)) (decide_eq_true rfl)) ?_)
     |(refine oC 7 ?_; refine LA_call0 (f := 7) rfl rfl  (.val (.bool true)) (by intro w e; exact cknown_c _ (TC.ext e)) ?_))|(refine LA_nil (hK [] _ (LX_nil ?_));clear hK K)|(refine LA_nil (hK _ ?_);clear hK K))
     |(refine oCX ?_;first
     |refine wCX ?_|(refine wCR ?_;intro K hK))
     |(refine oPX ?_;first
     |refine wPX ?_
     |exact PX_retE rfl rfl eC rfl)
     |(refine oLX ?_;first
     |refine LX_nil ?_)
     |(refine oLP ?_;first
     |refine wLP ?_|refine LP_now (by decide +kernel) ?_|refine LP_float (by decide +kernel) rfl ?_|refine LP_nil ?_))
    all_goals skip
end Go.Proofs.YtjiacignpmabcaaDoor
