import Derived.Test.YtjiacignpmabcaaDoorC7

set_option linter.unusedSimpArgs false
set_option linter.unusedVariables false
set_option maxRecDepth 3000
namespace Go.Proofs.YtjiacignpmabcaaDoor
open Go.LA Go.ArrP Go.RowKit
variable {A : Nat → Prop}
theorem memb_top {xs : List Int} (hl : Low xs) : memb xs 65536 = false := by
  unfold memb
  refine decide_eq_false fun h => ?_
  have := (hl _ h).2; omega
theorem ofarr_c {w : World} {v : Value} {xs : List Int} (h : SlI .u16 w v xs) (hi : Inc xs) (hl : Low xs) (hA : Fsh A w) : Fc Tryd.prog 9 #[v] w (Ret w (.tup2 (.pred (cnP A (memb xs) 1)) (.val (.bool true)))) := by
  have hx : listS (memb xs) 65536 = xs := listS_memb hi hl
  have hn : xs.length ≤ 65536 := by rw [← hx]; exact len16 _
  have hp := memb_top hl
  refine Fc.of (args := [_]) Tryd.func9 rfl rfl Tryd.ntmps9 (Nat.le_of_ble_eq_true rfl) ?_
  repeat' (first
   |(refine oLA ?_;first
   |refine LA_pass rfl ?_
   |refine LA_alloc rfl (fun _ => rfl) ?_
   |(refine LA_build2P (j1 := 1) (c := fun u => .agg #[.int .u8 1, u, .slice none 0 0, .slice none 0 0]) rfl rfl rfl (fun v1 w1 hv1 => by obtain ⟨a', c', rfl⟩ := (OwnI.slI hv1).isSlice; kernel_rfl) ?_)
   |(refine LA_stop (hK _ _ (LX_put (φ := cnP A (memb xs) 1) (w0 := w) rfl rfl rfl lays_cn (fun v' w' e hv => by obtain ⟨u, rfl, hu⟩ := hv; exact Cn.arr hp hx.symm hu hA) rfl (fun _ => rfl) (Ext.refl _) (fun w' e' => ?_))); clear hK K; refine LX_la (by kernel_rfl) (fun K hK => ?_))|(refine wOpB ?_;try dsimp only [Int.reduceToNat, Int.reducePow])|refine wOp ?_|(refine wOpD ?_;try dsimp only [Int.reduceToNat, Int.toNat_natCast])|(refine LA_cmp rfl rfl rfl rfl (fun hc => ?_) (fun hc => ?_)<;>dsimp only [cmpP] at hc)|(refine oCv ?_;first
   |(refine oC 35 ?_; refine LA_call1 (f := 35) rfl rfl rfl  (.val (.bool true)) (by intro u1 w e hu1; (try obtain rfl : u1 = _ := hu1); exact ret_true (may_c _ _ xs (h.ext e)) (decide_eq_true hi)) ?_)
   |(refine oC 36 ?_; refine LA_call1 (f := 36) rfl rfl rfl  (.pred (ownI _ 29 .u16 xs)) (by intro u1 w e hu1; (try obtain rfl : u1 = _ := hu1); exact (clone16_c _ _ _ (h.ext e) hn).mono (ret_base e.size)) ?_))|(refine LA_nil (hK [] _ (LX_nil ?_));clear hK K)|(refine LA_nil (hK _ ?_);clear hK K))
   |(refine oCX ?_;first
   |refine wCX ?_|(refine wCR ?_;intro K hK))
   |(refine oPX ?_;first
   |refine wPX ?_
   |exact PX_retC2 rfl rfl rfl rfl rfl rfl (by assumption))
   |(refine oLX ?_;first
   |refine LX_nil ?_))
  all_goals skip
theorem ofarr_no {w : World} {v : Value} {xs : List Int} (h : SlI .u16 w v xs) (hi : ¬ Inc xs) : Fc Tryd.prog 9 #[v] w (Ret w (.tup2 (.pred (cnP A (fun _ => false) 1)) (.val (.bool false)))) := by
  have hd : decide (Inc xs) = false := decide_eq_false hi
  refine Fc.of (args := [_]) Tryd.func9 rfl rfl Tryd.ntmps9 (Nat.le_of_ble_eq_true rfl) ?_
  repeat' (first
   |(refine oLA ?_;first
   |refine LA_pass rfl ?_
   |refine LA_alloc rfl (fun _ => rfl) ?_
   |(refine LA_build0 (c := .agg #[.int .u8 0, .slice none 0 0, .slice none 0 0, .slice none 0 0]) rfl (fun _ => by kernel_rfl) ?_)
   |(refine LA_stop (hK _ _ (LX_put (φ := cnP A (fun _ => false) 1) (w0 := w) rfl rfl rfl lays_cn (fun v' w' e hv => by obtain rfl : v' = _ := hv; exact Cn.zero) rfl (fun _ => rfl) (Ext.refl _) (fun w' e' => ?_))); clear hK K; refine LX_la (by kernel_rfl) (fun K hK => ?_))|(refine wOpB ?_;try dsimp only [Int.reduceToNat, Int.reducePow])|refine wOp ?_|(refine wOpD ?_;try dsimp only [Int.reduceToNat, Int.toNat_natCast])|(refine LA_cmp rfl rfl rfl rfl (fun hc => ?_) (fun hc => ?_)<;>dsimp only [cmpP] at hc)|(refine oCv ?_;first
   |(refine oC 35 ?_; refine LA_call1 (f := 35) rfl rfl rfl  (.val (.bool false)) (by intro u1 w e hu1; (try obtain rfl : u1 = _ := hu1); exact ret_eq (by rw [hd]) (may_c _ _ xs (h.ext e))) ?_))|(refine LA_nil (hK [] _ (LX_nil ?_));clear hK K)|(refine LA_nil (hK _ ?_);clear hK K))
   |(refine oCX ?_;first
   |refine wCX ?_|(refine wCR ?_;intro K hK))
   |(refine oPX ?_;first
   |refine wPX ?_
   |exact PX_retC2 rfl rfl rfl rfl rfl rfl (by assumption))
   |(refine oLX ?_;first
   |refine LX_nil ?_))
  all_goals skip
theorem ofwrd_c {w : World} {v : Value} {p : Nat → Bool} (h : SlI .u64 w v (wordsOf p)) (hp : p 65536 = false) (hA : Fsh A w) : Fc Tryd.prog 17 #[v] w (Ret w (.tup2 (.pred (cnP A p 2)) (.val (.bool true)))) := by
  have hn := wordsOf_len p
  refine Fc.of (args := [_]) Tryd.func17 rfl rfl Tryd.ntmps17 (Nat.le_of_ble_eq_true rfl) ?_
  repeat' (first
   |(refine oLA ?_;first
   |refine LA_pass rfl ?_
   |refine LA_alloc rfl (fun _ => rfl) ?_
   |(refine oLen ?_; refine LA_len rfl _ rfl rfl (HasI.val h).c ?_; rw [hn])
   |(refine LA_build2P (j1 := 2) (c := fun u => .agg #[.int .u8 2, .slice none 0 0, u, .slice none 0 0]) rfl rfl rfl (fun v1 w1 hv1 => by obtain ⟨a', c', rfl⟩ := (OwnI.slI hv1).isSlice; kernel_rfl) ?_)
   |(refine LA_stop (hK _ _ (LX_put (φ := cnP A p 2) (w0 := w) rfl rfl rfl lays_cn (fun v' w' e hv => by obtain ⟨u, rfl, hu⟩ := hv; exact Cn.wrd hp rfl hu hA) rfl (fun _ => rfl) (Ext.refl _) (fun w' e' => ?_))); clear hK K; refine LX_la (by kernel_rfl) (fun K hK => ?_))|(refine wOpB ?_;try dsimp only [Int.reduceToNat, Int.reducePow])|refine wOp ?_|(refine wOpD ?_;try dsimp only [Int.reduceToNat, Int.toNat_natCast])|(refine LA_cmp rfl rfl rfl rfl (fun hc => ?_) (fun hc => ?_)<;>dsimp only [cmpP] at hc)|(refine oCv ?_;first
   |(refine oC 42 ?_; refine LA_call1 (f := 42) rfl rfl rfl  (.pred (ownI _ 66 .u64 (wordsOf p))) (by intro u1 w e hu1; (try obtain rfl : u1 = _ := hu1); exact (clone64_c _ _ _ (h.ext e) (by omega)).mono (ret_base e.size)) ?_))|(refine LA_nil (hK [] _ (LX_nil ?_));clear hK K)|(refine LA_nil (hK _ ?_);clear hK K))
   |(refine oCX ?_;first
   |refine wCX ?_|(refine wCR ?_;intro K hK))
   |(refine oPX ?_;first
   |refine wPX ?_
   |exact PX_retC2 rfl rfl rfl rfl rfl rfl (by assumption))
   |(refine oLX ?_;first
   |refine LX_nil ?_))
  all_goals skip
theorem ofrun_c {w : World} {v : Value} {p : Nat → Bool} (h : SlR w v (runsL p)) (hp : p 65536 = false) (hA : Fsh A w) : Fc Tryd.prog 56 #[v] w (Ret w (.tup2 (.pred (cnP A p 3)) (.val (.bool true)))) := by
  have hm' := runsL_len p
  refine Fc.of (args := [_]) Tryd.func56 rfl rfl Tryd.ntmps56 (Nat.le_of_ble_eq_true rfl) ?_
  repeat' (first
   |(refine oLA ?_;first
   |refine LA_pass rfl ?_
   |refine LA_alloc rfl (fun _ => rfl) ?_
   |(refine LA_build2P (j1 := 3) (c := fun u => .agg #[.int .u8 3, .slice none 0 0, .slice none 0 0, u]) rfl rfl rfl (fun v1 w1 hv1 => by obtain ⟨a', c', rfl⟩ := (OwnR.slR hv1).isSlice; kernel_rfl) ?_)
   |(refine LA_stop (hK _ _ (LX_put (φ := cnP A p 3) (w0 := w) rfl rfl rfl lays_cn (fun v' w' e hv => by obtain ⟨u, rfl, hu⟩ := hv; exact Cn.rns hp rfl hu hA) rfl (fun _ => rfl) (Ext.refl _) (fun w' e' => ?_))); clear hK K; refine LX_la (by kernel_rfl) (fun K hK => ?_))|(refine wOpB ?_;try dsimp only [Int.reduceToNat, Int.reducePow])|refine wOp ?_|(refine wOpD ?_;try dsimp only [Int.reduceToNat, Int.toNat_natCast])|(refine LA_cmp rfl rfl rfl rfl (fun hc => ?_) (fun hc => ?_)<;>dsimp only [cmpP] at hc)|(refine oCv ?_;first
   |(refine oC 89 ?_; refine LA_call1 (f := 89) rfl rfl rfl  (.val (.bool true)) (by intro u1 w e hu1; (try obtain rfl : u1 = _ := hu1); exact ret_true (rmayR_c _ _ (runsL p) (h.ext e) (runs_u16 p)) (decide_eq_true (runs_right p))) ?_)
   |(refine oC 43 ?_; refine LA_call1 (f := 43) rfl rfl rfl  (.pred (ownR _ 70 (runsL p))) (by intro u1 w e hu1; (try obtain rfl : u1 = _ := hu1); exact (cloneR_c _ _ _ (h.ext e) hm').mono (ret_baseR e.size rfl)) ?_))|(refine LA_nil (hK [] _ (LX_nil ?_));clear hK K)|(refine LA_nil (hK _ ?_);clear hK K))
   |(refine oCX ?_;first
   |refine wCX ?_|(refine wCR ?_;intro K hK))
   |(refine oPX ?_;first
   |refine wPX ?_
   |exact PX_retC2 rfl rfl rfl rfl rfl rfl (by assumption))
   |(refine oLX ?_;first
   |refine LX_nil ?_))
  all_goals skip
/-! ### A range turned round, a number put in -/
def flp (p : Nat → Bool) (lo hi : Int) : Nat → Bool := two fXor' p (spanM lo hi)
theorem flp_top {p : Nat → Bool} (hp : p 65536 = false) (lo hi : Int) : flp p lo hi 65536 = false := by
  unfold flp two fXor'; rw [hp, span_cut]; rfl
theorem flp_flipM (p : Nat → Bool) (lo hi : Int) {i : Nat} (h : i < 65536) : flipM p lo hi i = flp p lo hi i := by
  unfold flp two fXor' flipM spanM; rw [decide_eq_true h, Bool.and_true]
set_option maxHeartbeats 2000000 in
theorem flip_c {w : World} {v : Value} {p : Nat → Bool} {kk : Int} (h : Cn A w v p kk) (hT : Tab w) (hA : Fsh A w) (lo hi : Int) (hlo : -9223372036854775808 ≤ lo ∧ lo < 9223372036854775808) (hhi : -9223372036854775808 ≤ hi ∧ hi < 9223372036854775808) :
    Fc Tryd.prog 16 #[v, .int .i64 lo, .int .i64 hi] w (Ret w (.pred (cnP A (flp p lo hi) (kindP (flp p lo hi))))) := by
  have hq := flp_top h.1 lo hi
  have hww : wordsOf (flipM p lo hi) = wordsOf (flp p lo hi) := wordsOf_congr fun i hi' => flp_flipM p lo hi hi'
  have hru : ∀ w', Ext w w' → _ := fun w' e => cruns_c (h.ext e) (hT.ext e)
  obtain ⟨hp, ⟨rfl, kd, va, hkd, rfl, ho⟩ | ⟨rfl, vw, rfl, ho⟩ | ⟨rfl, vr, rfl, ho⟩⟩ := h
  · skip
    refine Fc.of (args := [_, _, _]) Tryd.func16 rfl rfl Tryd.ntmps16 (Nat.le_of_ble_eq_true rfl) ?_
    repeat' (first
     |(refine oLA ?_;first
     |refine LA_pass rfl ?_
     |refine wRcv ?_
     |refine LA_alloc rfl (fun _ => rfl) ?_
     |(refine LA_build2P (j1 := 3) (c := fun u => .agg #[.int .u8 3, .slice none 0 0, .slice none 0 0, u]) rfl rfl rfl (fun v1 w1 hv1 => by obtain ⟨a', c', rfl⟩ := (OwnR.slR hv1).isSlice; kernel_rfl) ?_)
     |(refine LA_build2P (j1 := 2) (c := fun u => .agg #[.int .u8 2, .slice none 0 0, u, .slice none 0 0]) rfl rfl rfl (fun v1 w1 hv1 => by obtain ⟨a', c', rfl⟩ := (OwnI.slI hv1).isSlice; kernel_rfl) ?_)
     |(refine LA_stop (hK _ _ (LX_put (φ := cnP A (flp p lo hi) (kindP (flp p lo hi))) (w0 := w) rfl rfl rfl lays_cn (fun v' w' e hv => hv) rfl (fun _ => rfl) (Ext.refl _) (fun w' e' => ?_))); clear hK K)|(refine wOpB ?_;try dsimp only [Int.reduceToNat, Int.reducePow])|refine wOp ?_|(refine wOpD ?_;try dsimp only [Int.reduceToNat, Int.toNat_natCast])|(refine LA_cmp rfl rfl rfl rfl (fun hc => ?_) (fun hc => ?_)<;>dsimp only [cmpP] at hc)|(refine oCv ?_;first
     |(refine oC 40 ?_; refine LA_call3 (f := 40) rfl rfl rfl rfl rfl  (.pred (ownI _ 66 .u64 (wordsOf (flp p lo hi)))) (by intro u1 u2 u3 w e hu1 hu2 hu3; (try obtain rfl : u1 = _ := hu1); (try obtain rfl : u2 = _ := hu2); (try obtain rfl : u3 = _ := hu3); exact (wflipP _ _ p (ho.ext e).slI lo hi hlo hhi).mono (ret_w e.size hww)) ?_)
     |(refine oC 19 ?_; refine LA_call1 (f := 19) rfl rfl rfl  (.pred (ownR _ 70 (runsL p))) (by intro u1 w e hu1; (try obtain rfl : u1 = _ := hu1); exact (hru _ e).mono (ret_baseR e.size rfl)) ?_)
     |(refine oC 41 ?_; refine LA_call3 (f := 41) rfl rfl rfl rfl rfl  (.pred (ownR _ 70 (runsL (flp p lo hi)))) (by intro u1 u2 u3 w e hu1 hu2 hu3; (try obtain rfl : u1 = _ := hu1); (try obtain rfl : u2 = _ := hu2); (try obtain rfl : u3 = _ := hu3); exact (rflipR_c _ _ p lo hi hp (OwnR.slR hu1) hlo hhi).mono (ret_baseR e.size rfl)) ?_)
     |(refine oC 12 ?_; refine LA_call1 (f := 12) rfl rfl rfl  (.pred (cnP A (flp p lo hi) (kindP (flp p lo hi)))) (by intro u1 w e hu1; (try obtain rfl : u1 = _ := hu1); exact by obtain ⟨u, rfl, hu⟩ := hu1; exact canon_c (Cn.rns hq rfl hu hA) (hT.ext e) (hA.ext e)) ?_))|(refine LA_nil (hK [] _ (LX_nil ?_));clear hK K)|(refine LA_nil (hK _ ?_);clear hK K))
     |(refine oCX ?_;first
     |refine wCX ?_|(refine wCR ?_;intro K hK))
     |(refine oPX ?_;first
     |refine wPX ?_
     |exact PX_retC rfl rfl rfl rfl rfl (by assumption))
     |(refine oLX ?_;first
     |refine LX_nil ?_))
    all_goals skip

  · skip
    refine Fc.of (args := [_, _, _]) Tryd.func16 rfl rfl Tryd.ntmps16 (Nat.le_of_ble_eq_true rfl) ?_
    repeat' (first
     |(refine oLA ?_;first
     |refine LA_pass rfl ?_
     |refine wRcv ?_
     |refine LA_alloc rfl (fun _ => rfl) ?_
     |(refine LA_build2P (j1 := 3) (c := fun u => .agg #[.int .u8 3, .slice none 0 0, .slice none 0 0, u]) rfl rfl rfl (fun v1 w1 hv1 => by obtain ⟨a', c', rfl⟩ := (OwnR.slR hv1).isSlice; kernel_rfl) ?_)
     |(refine LA_build2P (j1 := 2) (c := fun u => .agg #[.int .u8 2, .slice none 0 0, u, .slice none 0 0]) rfl rfl rfl (fun v1 w1 hv1 => by obtain ⟨a', c', rfl⟩ := (OwnI.slI hv1).isSlice; kernel_rfl) ?_)
     |(refine LA_stop (hK _ _ (LX_put (φ := cnP A (flp p lo hi) (kindP (flp p lo hi))) (w0 := w) rfl rfl rfl lays_cn (fun v' w' e hv => hv) rfl (fun _ => rfl) (Ext.refl _) (fun w' e' => ?_))); clear hK K)|(refine wOpB ?_;try dsimp only [Int.reduceToNat, Int.reducePow])|refine wOp ?_|(refine wOpD ?_;try dsimp only [Int.reduceToNat, Int.toNat_natCast])|(refine LA_cmp rfl rfl rfl rfl (fun hc => ?_) (fun hc => ?_)<;>dsimp only [cmpP] at hc)|(refine oCv ?_;first
     |(refine oC 40 ?_; refine LA_call3 (f := 40) rfl rfl rfl rfl rfl  (.pred (ownI _ 66 .u64 (wordsOf (flp p lo hi)))) (by intro u1 u2 u3 w e hu1 hu2 hu3; (try obtain rfl : u1 = _ := hu1); (try obtain rfl : u2 = _ := hu2); (try obtain rfl : u3 = _ := hu3); exact (wflipP _ _ p (ho.ext e).slI lo hi hlo hhi).mono (ret_w e.size hww)) ?_)
     |(refine oC 19 ?_; refine LA_call1 (f := 19) rfl rfl rfl  (.pred (ownR _ 70 (runsL p))) (by intro u1 w e hu1; (try obtain rfl : u1 = _ := hu1); exact (hru _ e).mono (ret_baseR e.size rfl)) ?_)
     |(refine oC 41 ?_; refine LA_call3 (f := 41) rfl rfl rfl rfl rfl  (.pred (ownR _ 70 (runsL (flp p lo hi)))) (by intro u1 u2 u3 w e hu1 hu2 hu3; (try obtain rfl : u1 = _ := hu1); (try obtain rfl : u2 = _ := hu2); (try obtain rfl : u3 = _ := hu3); exact (rflipR_c _ _ p lo hi hp (OwnR.slR hu1) hlo hhi).mono (ret_baseR e.size rfl)) ?_)
     |(refine oC 12 ?_; refine LA_call1 (f := 12) rfl rfl rfl  (.pred (cnP A (flp p lo hi) (kindP (flp p lo hi)))) (by intro u1 w e hu1; (try obtain rfl : u1 = _ := hu1); exact by obtain ⟨u, rfl, hu⟩ := hu1; exact canon_c (Cn.wrd hq rfl hu hA) (hT.ext e) (hA.ext e)) ?_))|(refine LA_nil (hK [] _ (LX_nil ?_));clear hK K)|(refine LA_nil (hK _ ?_);clear hK K))
     |(refine oCX ?_;first
     |refine wCX ?_|(refine wCR ?_;intro K hK))
     |(refine oPX ?_;first
     |refine wPX ?_
     |exact PX_retC rfl rfl rfl rfl rfl (by assumption))
     |(refine oLX ?_;first
     |refine LX_nil ?_))
    all_goals skip

  · skip
    refine Fc.of (args := [_, _, _]) Tryd.func16 rfl rfl Tryd.ntmps16 (Nat.le_of_ble_eq_true rfl) ?_
    repeat' (first
     |(refine oLA ?_;first
     |refine LA_pass rfl ?_
     |refine wRcv ?_
     |refine LA_alloc rfl (fun _ => rfl) ?_
     |(refine LA_build2P (j1 := 3) (c := fun u => .agg #[.int .u8 3, .slice none 0 0, .slice none 0 0, u]) rfl rfl rfl (fun v1 w1 hv1 => by obtain ⟨a', c', rfl⟩ := (OwnR.slR hv1).isSlice; kernel_rfl) ?_)
     |(refine LA_build2P (j1 := 2) (c := fun u => .agg #[.int .u8 2, .slice none 0 0, u, .slice none 0 0]) rfl rfl rfl (fun v1 w1 hv1 => by obtain ⟨a', c', rfl⟩ := (OwnI.slI hv1).isSlice; kernel_rfl) ?_)
     |(refine LA_stop (hK _ _ (LX_put (φ := cnP A (flp p lo hi) (kindP (flp p lo hi))) (w0 := w) rfl rfl rfl lays_cn (fun v' w' e hv => hv) rfl (fun _ => rfl) (Ext.refl _) (fun w' e' => ?_))); clear hK K)|(refine wOpB ?_;try dsimp only [Int.reduceToNat, Int.reducePow])|refine wOp ?_|(refine wOpD ?_;try dsimp only [Int.reduceToNat, Int.toNat_natCast])|(refine LA_cmp rfl rfl rfl rfl (fun hc => ?_) (fun hc => ?_)<;>dsimp only [cmpP] at hc)|(refine oCv ?_;first
     |(refine oC 40 ?_; refine LA_call3 (f := 40) rfl rfl rfl rfl rfl  (.pred (ownI _ 66 .u64 (wordsOf (flp p lo hi)))) (by intro u1 u2 u3 w e hu1 hu2 hu3; (try obtain rfl : u1 = _ := hu1); (try obtain rfl : u2 = _ := hu2); (try obtain rfl : u3 = _ := hu3); exact (wflipP _ _ p (ho.ext e).slI lo hi hlo hhi).mono (ret_w e.size hww)) ?_)
     |(refine oC 19 ?_; refine LA_call1 (f := 19) rfl rfl rfl  (.pred (ownR _ 70 (runsL p))) (by intro u1 w e hu1; (try obtain rfl : u1 = _ := hu1); exact (hru _ e).mono (ret_baseR e.size rfl)) ?_)
     |(refine oC 41 ?_; refine LA_call3 (f := 41) rfl rfl rfl rfl rfl  (.pred (ownR _ 70 (runsL (flp p lo hi)))) (by intro u1 u2 u3 w e hu1 hu2 hu3; (try obtain rfl : u1 = _ := hu1); (try obtain rfl : u2 = _ := hu2); (try obtain rfl : u3 = _ := hu3); exact (rflipR_c _ _ p lo hi hp (OwnR.slR hu1) hlo hhi).mono (ret_baseR e.size rfl)) ?_)
     |(refine oC 12 ?_; refine LA_call1 (f := 12) rfl rfl rfl  (.pred (cnP A (flp p lo hi) (kindP (flp p lo hi)))) (by intro u1 w e hu1; (try obtain rfl : u1 = _ := hu1); exact by obtain ⟨u, rfl, hu⟩ := hu1; exact canon_c (Cn.rns hq rfl hu hA) (hT.ext e) (hA.ext e)) ?_))|(refine LA_nil (hK [] _ (LX_nil ?_));clear hK K)|(refine LA_nil (hK _ ?_);clear hK K))
     |(refine oCX ?_;first
     |refine wCX ?_|(refine wCR ?_;intro K hK))
     |(refine oPX ?_;first
     |refine wPX ?_
     |exact PX_retC rfl rfl rfl rfl rfl (by assumption))
     |(refine oLX ?_;first
     |refine LX_nil ?_))
    all_goals skip

def addP (p : Nat → Bool) (x : Nat) (i : Nat) : Bool := p i || decide (i = x)
theorem addP_top {p : Nat → Bool} (hp : p 65536 = false) {x : Nat} (hx : x < 65536) : addP p x 65536 = false := by
  unfold addP; rw [hp, decide_eq_false (by omega)]; rfl
theorem flp_one {p : Nat → Bool} {x : Nat} (hx : x < 65536) (hpx : p x = false) (i : Nat) (hi : i < 65536) : flp p x ((x : Int) + 1) i = addP p x i := by
  unfold flp two fXor' spanM addP
  rw [decide_eq_true hi, Bool.and_true]
  by_cases h : i = x
  · subst h; rw [hpx, decide_eq_true (by omega : (i : Int) ≤ i), decide_eq_true (by omega : (i : Int) < i + 1), decide_eq_true rfl]; rfl
  · rw [decide_eq_false h, Bool.or_false]
    by_cases h1 : (x : Int) ≤ i
    · rw [decide_eq_true h1, decide_eq_false (by omega : ¬ (i : Int) < x + 1)]; cases p i <;> rfl
    · rw [decide_eq_false h1]; cases p i <;> rfl
theorem add_same {p : Nat → Bool} {x : Nat} (hpx : p x = true) (i : Nat) (hi : i < 65536) : p i = addP p x i := by
  unfold addP
  by_cases h : i = x
  · subst h; rw [hpx]; rfl
  · rw [decide_eq_false h, Bool.or_false]
theorem cwith_c {w : World} {v : Value} {p : Nat → Bool} {kk : Int} (h : Cn A w v p kk) (hT : Tab w) (hA : Fsh A w) {x : Nat} (hx : x < 65536) :
    Fc Tryd.prog 8 #[v, .int .u16 x] w (Ret w (.pred (cnP A (addP p x) (kindP (addP p x))))) := by
  have hq := addP_top h.1 hx
  have hh : ∀ w', Ext w w' → _ := fun w' e => has_c (h.ext e) hx
  have hc : ∀ w', Ext w w' → _ := fun w' e => canon_c (h.ext e) (hT.ext e) (hA.ext e)
  have hf : ∀ w', Ext w w' → _ := fun w' e => flip_c (h.ext e) (hT.ext e) (hA.ext e) x ((x : Int) + 1) (by omega) (by omega)
  obtain ⟨kd, va, vw, vr, rfl, -, -, -, -, k1, k2, -⟩ := h.parts
  cases hpx : p x
  · rw [hpx] at hh
    have hf' : ∀ w', Ext w w' → Fc _ _ _ _ _ := fun w' e => (hf w' e).mono (ret_can hq (flp_one hx hpx))
    refine Fc.of (args := [_, _]) Tryd.func8 rfl rfl Tryd.ntmps8 (Nat.le_of_ble_eq_true rfl) ?_
    repeat' (first
     |(refine oLA ?_;first
     |refine LA_pass rfl ?_
     |refine wRcv ?_
     |refine LA_alloc rfl (fun _ => rfl) ?_
     |(refine LA_stop (hK _ _ (LX_put (φ := cnP A (addP p x) (kindP (addP p x))) (w0 := w) rfl rfl rfl lays_cn (fun v' w' e hv => hv) rfl (fun _ => rfl) (Ext.refl _) (fun w' e' => ?_))); clear hK K)|(refine wOpB ?_;try dsimp only [Int.reduceToNat, Int.reducePow])|refine wOp ?_|(refine wOpD ?_;try dsimp only [Int.reduceToNat, Int.toNat_natCast])|(refine LA_cmp rfl rfl rfl rfl (fun hc => ?_) (fun hc => ?_)<;>dsimp only [cmpP] at hc)|(refine oCv ?_;first
     |(refine oC 34 ?_; refine LA_call2 (f := 34) rfl rfl rfl rfl  (.val (.bool false)) (by intro u1 u2 w e hu1 hu2; (try obtain rfl : u1 = _ := hu1); (try obtain rfl : u2 = _ := hu2); exact hh _ e) ?_)
     |(refine oC 16 ?_; refine LA_call3 (f := 16) rfl rfl rfl rfl rfl  (.pred (cnP A (addP p x) (kindP (addP p x)))) (by intro u1 u2 u3 w e hu1 hu2 hu3; (try obtain rfl : u1 = _ := hu1); (try obtain rfl : u2 = _ := hu2); (try obtain rfl : u3 = _ := hu3); exact hf' _ e) ?_))|(refine LA_nil (hK [] _ (LX_nil ?_));clear hK K)|(refine LA_nil (hK _ ?_);clear hK K))
     |(refine oCX ?_;first
     |refine wCX ?_|(refine wCR ?_;intro K hK))
     |(refine oPX ?_;first
     |refine wPX ?_
     |exact PX_retC rfl rfl rfl rfl rfl (by assumption))
     |(refine oLX ?_;first
     |refine LX_nil ?_))
    all_goals skip
  · rw [hpx] at hh
    have hc' : ∀ w', Ext w w' → Fc _ _ _ _ _ := fun w' e => (hc w' e).mono (ret_can hq (add_same hpx))
    refine Fc.of (args := [_, _]) Tryd.func8 rfl rfl Tryd.ntmps8 (Nat.le_of_ble_eq_true rfl) ?_
    repeat' (first
     |(refine oLA ?_;first
     |refine LA_pass rfl ?_
     |refine wRcv ?_
     |refine LA_alloc rfl (fun _ => rfl) ?_
     |(refine LA_stop (hK _ _ (LX_put (φ := cnP A (addP p x) (kindP (addP p x))) (w0 := w) rfl rfl rfl lays_cn (fun v' w' e hv => hv) rfl (fun _ => rfl) (Ext.refl _) (fun w' e' => ?_))); clear hK K)|(refine wOpB ?_;try dsimp only [Int.reduceToNat, Int.reducePow])|refine wOp ?_|(refine wOpD ?_;try dsimp only [Int.reduceToNat, Int.toNat_natCast])|(refine LA_cmp rfl rfl rfl rfl (fun hc => ?_) (fun hc => ?_)<;>dsimp only [cmpP] at hc)|(refine oCv ?_;first
     |(refine oC 34 ?_; refine LA_call2 (f := 34) rfl rfl rfl rfl  (.val (.bool true)) (by intro u1 u2 w e hu1 hu2; (try obtain rfl : u1 = _ := hu1); (try obtain rfl : u2 = _ := hu2); exact hh _ e) ?_)
     |(refine oC 12 ?_; refine LA_call1 (f := 12) rfl rfl rfl  (.pred (cnP A (addP p x) (kindP (addP p x)))) (by intro u1 w e hu1; (try obtain rfl : u1 = _ := hu1); exact hc' _ e) ?_))|(refine LA_nil (hK [] _ (LX_nil ?_));clear hK K)|(refine LA_nil (hK _ ?_);clear hK K))
     |(refine oCX ?_;first
     |refine wCX ?_|(refine wCR ?_;intro K hK))
     |(refine oPX ?_;first
     |refine wPX ?_
     |exact PX_retC rfl rfl rfl rfl rfl (by assumption))
     |(refine oLX ?_;first
     |refine LX_nil ?_))
    all_goals skip
end Go.Proofs.YtjiacignpmabcaaDoor
