import Derived.Test.YtbabdbiolofjdaaA5
set_option linter.unusedSimpArgs false
set_option linter.unusedVariables false
namespace Go.Proofs.Ytbabdbiolofjdaa
open Go.LA Go.ArrP Go.RowKit

theorem rmay_c (w : World) (v : Value) (xs : List Int) (h : SlI .u16 w v xs) : Fc Try.prog 8 #[v] w (Ret w (.val (.bool (decide (Inc xs))))) := by
  have hl := h.len
  refine Fc.of (args := [_]) Try.func8 rfl rfl Try.ntmps8 (Nat.le_of_ble_eq_true rfl) ?_
  repeat' (first
    | (show LA _ _ _ _ _ _; first
      | refine LA_pass rfl ?_
      | (show LA _ _ _ _ (⟨_, .move _, _, _, _, _⟩ :: _) _; first
          | refine LA_moveV rfl rfl ?_
          | refine LA_moveP rfl rfl ?_
          | refine LA_moveT rfl rfl ?_
          | refine LA_moveU rfl rfl ?_)
      | (show LA _ _ _ _ (⟨_, .assign _, _, _, _, _⟩ :: _) _; first
          | refine LA_assignV rfl rfl ?_
          | refine LA_assignP rfl rfl ?_
          | refine LA_assignT rfl rfl ?_)
      | (show LA _ _ _ _ (⟨_, .pick _ _ _, _, _, _, _⟩ :: _) _; first
          | refine LA_pickTV rfl rfl rfl ?_
          | refine LA_pickFV rfl rfl rfl ?_)
      | (show LA _ _ _ _ (⟨_, .unOp .not _ _, _, _, _, _⟩ :: _) _; first
          | refine LA_notT rfl rfl ?_
          | refine LA_notF rfl rfl ?_
          | refine LA_not rfl rfl ?_)
      | (show LA _ _ _ _ (⟨_, .extract _ _, _, _, _, _⟩ :: _) _; first
          | refine LA_ext0 rfl rfl ?_
          | refine LA_ext1 rfl rfl ?_
          | refine LA_ext30 rfl rfl ?_
          | refine LA_ext31 rfl rfl ?_
          | refine LA_ext32 rfl rfl ?_)
      | (show LA _ _ _ _ (⟨_, .binOp .add _ _ _ _, _, _, _, _⟩ :: _) _; first
          | refine LA_addF rfl rfl rfl (by dsimp only [fits]; omega) ?_
          | refine LA_addW rfl rfl rfl ?_)
      | (show LA _ _ _ _ (⟨_, .binOp .sub _ _ _ _, _, _, _, _⟩ :: _) _; first
          | refine LA_subF rfl rfl rfl (by dsimp only [fits]; omega) ?_
          | refine LA_subW rfl rfl rfl ?_)
      | (show LA _ _ _ _ (⟨_, .binOp .mul _ _ _ _, _, _, _, _⟩ :: _) _; first
          | refine LA_mulF rfl rfl rfl (by dsimp only [fits]; omega) ?_
          | refine LA_mulW rfl rfl rfl ?_)
      | (show LA _ _ _ _ (⟨_, .binOp .quo _ _ _ _, _, _, _, _⟩ :: _) _; first
          | refine LA_quo rfl rfl rfl (by omega) (by omega) (by dsimp only [fits]; omega) ?_)
      | (show LA _ _ _ _ (⟨_, .binOp .rem _ _ _ _, _, _, _, _⟩ :: _) _; first
          | refine LA_rem rfl rfl rfl (by omega) (by omega) (by dsimp only [fits]; omega) ?_)
      | (show LA _ _ _ _ (⟨_, .binOp .shr _ _ _ _, _, _, _, _⟩ :: _) _; first
          | (refine LA_shr rfl rfl rfl (by omega) (by dsimp only [IntKind.bits]; omega) ?_; try dsimp only [Int.reduceToNat, Int.reducePow]))
      | (show LA _ _ _ _ (⟨_, .binOp .shl _ _ _ _, _, _, _, _⟩ :: _) _; first
          | (refine LA_shl rfl rfl rfl (by omega) (by dsimp only [IntKind.bits]; omega) ?_; try dsimp only [Int.reduceToNat, Int.reducePow]))
      | (show LA _ _ _ _ (⟨_, .binOp _ _ _ _ _, _, _, _, _⟩ :: _) _; first
          | refine LA_cmpT rfl rfl rfl rfl (by first | (dsimp only [cmpP]; done) | (dsimp only [cmpP]; omega)) ?_
          | refine LA_cmpF rfl rfl rfl rfl (by dsimp only [cmpP]; omega) ?_
          | (refine LA_cmp rfl rfl rfl rfl (fun hc => ?_) (fun hc => ?_) <;> dsimp only [cmpP] at hc)
          | refine LA_boolEqT rfl rfl rfl rfl (by first | rfl | assumption) ?_
          | refine LA_boolEqF rfl rfl rfl rfl (by first | assumption | decide) ?_
          | refine LA_boolEq rfl rfl rfl rfl ?_
          | refine LA_boolNeT rfl rfl rfl rfl (by first | assumption | decide) ?_
          | refine LA_boolNeF rfl rfl rfl rfl (by first | rfl | assumption) ?_
          | refine LA_boolNe rfl rfl rfl rfl ?_)
      | (show LA _ _ _ _ (⟨_, .indexAddr _ _ _, _, _, _, _⟩ :: _) _; first
          | refine LA_indexN rfl _ rfl (fun _ => rfl) rfl (by first | exact HasI.val (by assumption) | exact HasI.pred | exact HasI.own | exact HasI.ownV (by assumption)) rfl (by omega) ?_
          | (refine LA_index rfl _ rfl (fun _ => rfl) rfl (by first | exact HasI.val (by assumption) | exact HasI.pred | exact HasI.own | exact HasI.ownV (by assumption)) rfl (by omega) (by omega) ?_; try dsimp only [Int.reduceToNat]))
      | (show LA _ _ _ _ (⟨_, .load _ _, _, _, _, _⟩ :: _) _; first
          | refine LA_load rfl (fun _ => rfl) rfl ?_)
      | (show LA _ _ _ _ (⟨_, .convert _ _ _, _, _, _, _⟩ :: _) _; first
          | refine LA_convF rfl rfl rfl rfl (by dsimp only [fits]; omega) ?_
          | refine LA_conv rfl rfl rfl rfl ?_)
      | (show LA _ _ _ _ (⟨_, .slice _ _ _ _ _, _, _, _, _⟩ :: _) _; first
          | (refine LA_sliceL rfl _ rfl rfl (by first | exact (HasI.val (by assumption)).c | exact HasI.pred.c | exact HasC.val (by assumption) | exact HasC.pred | exact HasI.own.c | exact HasC.own | exact (HasI.ownV (by assumption)).c | exact HasC.ownV (by assumption)) rfl (by omega) (by omega) (by exact fun _ => rfl) ?_; try dsimp only [Int.reduceToNat, Int.toNat_natCast])
          | (refine LA_sliceH rfl _ rfl rfl (by first | exact (HasI.val (by assumption)).c | exact HasI.pred.c | exact HasC.val (by assumption) | exact HasC.pred | exact HasI.own.c | exact HasC.own | exact (HasI.ownV (by assumption)).c | exact HasC.ownV (by assumption)) rfl (by omega) (by omega) (by exact fun _ => rfl) ?_; try dsimp only [Int.reduceToNat, Int.toNat_natCast])
          | (refine LA_sliceLH rfl _ rfl rfl (by first | exact (HasI.val (by assumption)).c | exact HasI.pred.c | exact HasC.val (by assumption) | exact HasC.pred | exact HasI.own.c | exact HasC.own | exact (HasI.ownV (by assumption)).c | exact HasC.ownV (by assumption)) rfl rfl (by omega) (by omega) (by omega) (by exact fun _ => rfl) ?_; try dsimp only [Int.reduceToNat, Int.toNat_natCast]))
      | (show LA _ _ _ _ (⟨_, .call ⟨.builtin .len, _, _⟩, _, _, _, _⟩ :: _) _; first
          | refine LA_len rfl _ rfl rfl (by first | exact (HasI.val (by assumption)).c | exact HasI.pred.c | exact HasC.val (by assumption) | exact HasC.pred | exact HasI.own.c | exact HasC.own | exact (HasI.ownV (by assumption)).c | exact HasC.ownV (by assumption)) ?_)
      | (refine LA_nil (hK [] _ (LX_nil ?_)); clear hK K)
      | (refine LA_nil (hK _ ?_); clear hK K))
    | (show CX _ _ _ _ _ _; first
      | refine CX_seq ?_
      | refine CX_skip ?_
      | refine CX_block ?_
      | refine CX_exit ?_
      | refine CX_ret ?_
      | refine CX_condT rfl ?_
      | refine CX_condF rfl ?_
      | refine CX_region (by kernel_rfl) (fun K hK => ?_)
      | refine CX_regionA (by kernel_rfl) (by kernel_rfl) (fun K hK => ?_)
      | refine CX_label ?_
      | refine CX_scope ?_)
    | (show PX _ _ _ _ _; first
      | refine PX_then ?_
      | refine PX_thenX ?_
      | refine PX_thenR ?_
      | refine PX_blockN ?_
      | refine PX_blockR ?_
      | refine PX_blockX ?_
      | refine PX_blockO (by decide) ?_
      | refine PX_scopeN ?_
      | refine PX_scopeR ?_
      | refine PX_scopeX ?_)
    | (show LX _ _ _ _ _ _ _; first
      | refine LX_nil ?_))
  refine CX_loop (ι := Nat) (fun k => [(0, .val v), (3, .val (.int .i64 k))]) (fun k => 1 ≤ k ∧ ∀ i, 1 ≤ i → i < k → i < xs.length → xs.getD (i - 1) 0 < xs.getD i 0) (fun k => xs.length - k) 1 ⟨by omega, fun i h1 h2 => by omega⟩ (Sub.same rfl (Sub.same rfl Sub.nil)) ?_
  rintro k ⟨hk, hin⟩
  have ek : ((k : Int) - 1).toNat = k - 1 := by omega
  repeat' (first
    | (show LA _ _ _ _ _ _; first
      | refine LA_pass rfl ?_
      | (show LA _ _ _ _ (⟨_, .move _, _, _, _, _⟩ :: _) _; first
          | refine LA_moveV rfl rfl ?_
          | refine LA_moveP rfl rfl ?_
          | refine LA_moveT rfl rfl ?_
          | refine LA_moveU rfl rfl ?_)
      | (show LA _ _ _ _ (⟨_, .assign _, _, _, _, _⟩ :: _) _; first
          | refine LA_assignV rfl rfl ?_
          | refine LA_assignP rfl rfl ?_
          | refine LA_assignT rfl rfl ?_)
      | (show LA _ _ _ _ (⟨_, .pick _ _ _, _, _, _, _⟩ :: _) _; first
          | refine LA_pickTV rfl rfl rfl ?_
          | refine LA_pickFV rfl rfl rfl ?_)
      | (show LA _ _ _ _ (⟨_, .unOp .not _ _, _, _, _, _⟩ :: _) _; first
          | refine LA_notT rfl rfl ?_
          | refine LA_notF rfl rfl ?_
          | refine LA_not rfl rfl ?_)
      | (show LA _ _ _ _ (⟨_, .extract _ _, _, _, _, _⟩ :: _) _; first
          | refine LA_ext0 rfl rfl ?_
          | refine LA_ext1 rfl rfl ?_
          | refine LA_ext30 rfl rfl ?_
          | refine LA_ext31 rfl rfl ?_
          | refine LA_ext32 rfl rfl ?_)
      | (show LA _ _ _ _ (⟨_, .binOp .add _ _ _ _, _, _, _, _⟩ :: _) _; first
          | refine LA_addF rfl rfl rfl (by dsimp only [fits]; omega) ?_
          | refine LA_addW rfl rfl rfl ?_)
      | (show LA _ _ _ _ (⟨_, .binOp .sub _ _ _ _, _, _, _, _⟩ :: _) _; first
          | refine LA_subF rfl rfl rfl (by dsimp only [fits]; omega) ?_
          | refine LA_subW rfl rfl rfl ?_)
      | (show LA _ _ _ _ (⟨_, .binOp .mul _ _ _ _, _, _, _, _⟩ :: _) _; first
          | refine LA_mulF rfl rfl rfl (by dsimp only [fits]; omega) ?_
          | refine LA_mulW rfl rfl rfl ?_)
      | (show LA _ _ _ _ (⟨_, .binOp .quo _ _ _ _, _, _, _, _⟩ :: _) _; first
          | refine LA_quo rfl rfl rfl (by omega) (by omega) (by dsimp only [fits]; omega) ?_)
      | (show LA _ _ _ _ (⟨_, .binOp .rem _ _ _ _, _, _, _, _⟩ :: _) _; first
          | refine LA_rem rfl rfl rfl (by omega) (by omega) (by dsimp only [fits]; omega) ?_)
      | (show LA _ _ _ _ (⟨_, .binOp .shr _ _ _ _, _, _, _, _⟩ :: _) _; first
          | (refine LA_shr rfl rfl rfl (by omega) (by dsimp only [IntKind.bits]; omega) ?_; try dsimp only [Int.reduceToNat, Int.reducePow]))
      | (show LA _ _ _ _ (⟨_, .binOp .shl _ _ _ _, _, _, _, _⟩ :: _) _; first
          | (refine LA_shl rfl rfl rfl (by omega) (by dsimp only [IntKind.bits]; omega) ?_; try dsimp only [Int.reduceToNat, Int.reducePow]))
      | (show LA _ _ _ _ (⟨_, .binOp _ _ _ _ _, _, _, _, _⟩ :: _) _; first
          | refine LA_cmpT rfl rfl rfl rfl (by first | (dsimp only [cmpP]; done) | (dsimp only [cmpP]; omega)) ?_
          | refine LA_cmpF rfl rfl rfl rfl (by dsimp only [cmpP]; omega) ?_
          | (refine LA_cmp rfl rfl rfl rfl (fun hc => ?_) (fun hc => ?_) <;> dsimp only [cmpP] at hc)
          | refine LA_boolEqT rfl rfl rfl rfl (by first | rfl | assumption) ?_
          | refine LA_boolEqF rfl rfl rfl rfl (by first | assumption | decide) ?_
          | refine LA_boolEq rfl rfl rfl rfl ?_
          | refine LA_boolNeT rfl rfl rfl rfl (by first | assumption | decide) ?_
          | refine LA_boolNeF rfl rfl rfl rfl (by first | rfl | assumption) ?_
          | refine LA_boolNe rfl rfl rfl rfl ?_)
      | (show LA _ _ _ _ (⟨_, .indexAddr _ _ _, _, _, _, _⟩ :: _) _; first
          | refine LA_indexN rfl _ rfl (fun _ => rfl) rfl (by first | exact HasI.val (by assumption) | exact HasI.pred | exact HasI.own | exact HasI.ownV (by assumption)) rfl (by omega) ?_
          | (refine LA_index rfl _ rfl (fun _ => rfl) rfl (by first | exact HasI.val (by assumption) | exact HasI.pred | exact HasI.own | exact HasI.ownV (by assumption)) rfl (by omega) (by omega) ?_; try dsimp only [Int.reduceToNat]))
      | (show LA _ _ _ _ (⟨_, .load _ _, _, _, _, _⟩ :: _) _; first
          | refine LA_load rfl (fun _ => rfl) rfl ?_)
      | (show LA _ _ _ _ (⟨_, .convert _ _ _, _, _, _, _⟩ :: _) _; first
          | refine LA_convF rfl rfl rfl rfl (by dsimp only [fits]; omega) ?_
          | refine LA_conv rfl rfl rfl rfl ?_)
      | (show LA _ _ _ _ (⟨_, .slice _ _ _ _ _, _, _, _, _⟩ :: _) _; first
          | (refine LA_sliceL rfl _ rfl rfl (by first | exact (HasI.val (by assumption)).c | exact HasI.pred.c | exact HasC.val (by assumption) | exact HasC.pred | exact HasI.own.c | exact HasC.own | exact (HasI.ownV (by assumption)).c | exact HasC.ownV (by assumption)) rfl (by omega) (by omega) (by exact fun _ => rfl) ?_; try dsimp only [Int.reduceToNat, Int.toNat_natCast])
          | (refine LA_sliceH rfl _ rfl rfl (by first | exact (HasI.val (by assumption)).c | exact HasI.pred.c | exact HasC.val (by assumption) | exact HasC.pred | exact HasI.own.c | exact HasC.own | exact (HasI.ownV (by assumption)).c | exact HasC.ownV (by assumption)) rfl (by omega) (by omega) (by exact fun _ => rfl) ?_; try dsimp only [Int.reduceToNat, Int.toNat_natCast])
          | (refine LA_sliceLH rfl _ rfl rfl (by first | exact (HasI.val (by assumption)).c | exact HasI.pred.c | exact HasC.val (by assumption) | exact HasC.pred | exact HasI.own.c | exact HasC.own | exact (HasI.ownV (by assumption)).c | exact HasC.ownV (by assumption)) rfl rfl (by omega) (by omega) (by omega) (by exact fun _ => rfl) ?_; try dsimp only [Int.reduceToNat, Int.toNat_natCast]))
      | (show LA _ _ _ _ (⟨_, .call ⟨.builtin .len, _, _⟩, _, _, _, _⟩ :: _) _; first
          | refine LA_len rfl _ rfl rfl (by first | exact (HasI.val (by assumption)).c | exact HasI.pred.c | exact HasC.val (by assumption) | exact HasC.pred | exact HasI.own.c | exact HasC.own | exact (HasI.ownV (by assumption)).c | exact HasC.ownV (by assumption)) ?_)
      | (refine LA_nil (hK [] _ (LX_nil ?_)); clear hK K)
      | (refine LA_nil (hK _ ?_); clear hK K))
    | (show CX _ _ _ _ _ _; first
      | refine CX_seq ?_
      | refine CX_skip ?_
      | refine CX_block ?_
      | refine CX_exit ?_
      | refine CX_ret ?_
      | refine CX_condT rfl ?_
      | refine CX_condF rfl ?_
      | refine CX_region (by kernel_rfl) (fun K hK => ?_)
      | refine CX_regionA (by kernel_rfl) (by kernel_rfl) (fun K hK => ?_)
      | refine CX_label ?_
      | refine CX_scope ?_)
    | (show PX _ _ _ _ _; first
      | refine PX_then ?_
      | refine PX_thenX ?_
      | refine PX_thenR ?_
      | refine PX_blockN ?_
      | refine PX_blockR ?_
      | refine PX_blockX ?_
      | refine PX_blockO (by decide) ?_
      | refine PX_scopeN ?_
      | refine PX_scopeR ?_
      | refine PX_scopeX ?_)
    | (show LX _ _ _ _ _ _ _; first
      | refine LX_nil ?_))
  · refine PX_retE rfl rfl (Ext.refl _) ?_
    rw [ek] at hc
    have : ¬ Inc xs := fun hi => by have := hi.at (i := k - 1) (j := k) (by omega) (by omega); omega
    simp [this]
  · refine PX_rnd (k + 1) ⟨by omega, fun i h1 h2 h3 => ?_⟩ (by omega) (Sub.same rfl (Sub.val rfl (by simp) Sub.nil))
    rw [ek] at hc
    rcases Nat.lt_or_ge i k with h4 | h4
    · exact hin i h1 h4 h3
    · obtain rfl : i = k := by omega
      omega
  · refine PX_retE rfl rfl (Ext.refl _) ?_
    have : Inc xs := inc_of fun i h1 h2 => hin i h1 (by omega) h2
    simp [this]

theorem k_xor : mergeS fXor [1, 2] [2, 3] = [1, 3] := by decide +kernel
theorem k_find : bsS [1, 2, 3, 7, 9, 10] 8 = 4 := by decide +kernel
theorem k_may : decide (Inc [1, 1]) = false := by decide +kernel
theorem k_found : foundS [1, 2, 3, 7, 9, 10] 8 = false := by decide +kernel
theorem k_find_c (w : World) (v : Value) (h : SlI .u16 w v [1, 2, 3, 7, 9, 10]) : Fc Try.prog 17 #[v, .int .u16 8] w (Ret w (.tup2 (.val (.int .i64 4)) (.val (.bool false)))) := by
  have := find_c w v [1, 2, 3, 7, 9, 10] 8 h (by decide)
  rw [k_find, k_found] at this
  exact this
theorem known_c (w : World) : Fc Try.prog 9 #[] w (Ret w (.val (.bool true))) := by
  refine Fc.of (args := []) Try.func9 rfl rfl Try.ntmps9 (Nat.le_of_ble_eq_true rfl) ?_
  repeat' (first
    | (show LA _ _ _ _ _ _; first
      | refine LA_pass rfl ?_
      | refine LA_litI 29 .u16 [1, 2, 3, 7, 9, 10] rfl (fun _ => rfl) (fun _ => by kernel_rfl) rfl (by decide) ?_
      | refine LA_litI 29 .u16 [1, 2] rfl (fun _ => rfl) (fun _ => by kernel_rfl) rfl (by decide) ?_
      | refine LA_litI 29 .u16 [2, 3] rfl (fun _ => rfl) (fun _ => by kernel_rfl) rfl (by decide) ?_
      | refine LA_litI 29 .u16 [1, 3] rfl (fun _ => rfl) (fun _ => by kernel_rfl) rfl (by decide) ?_
      | refine LA_litI 29 .u16 [1, 1] rfl (fun _ => rfl) (fun _ => by kernel_rfl) rfl (by decide) ?_
      | (show LA _ _ _ _ (⟨_, .move _, _, _, _, _⟩ :: _) _; first
          | refine LA_moveV rfl rfl ?_
          | refine LA_moveP rfl rfl ?_
          | refine LA_moveT rfl rfl ?_
          | refine LA_moveU rfl rfl ?_)
      | (show LA _ _ _ _ (⟨_, .assign _, _, _, _, _⟩ :: _) _; first
          | refine LA_assignV rfl rfl ?_
          | refine LA_assignP rfl rfl ?_
          | refine LA_assignT rfl rfl ?_)
      | (show LA _ _ _ _ (⟨_, .pick _ _ _, _, _, _, _⟩ :: _) _; first
          | refine LA_pickTV rfl rfl rfl ?_
          | refine LA_pickFV rfl rfl rfl ?_)
      | (show LA _ _ _ _ (⟨_, .unOp .not _ _, _, _, _, _⟩ :: _) _; first
          | refine LA_notT rfl rfl ?_
          | refine LA_notF rfl rfl ?_
          | refine LA_not rfl rfl ?_)
      | (show LA _ _ _ _ (⟨_, .extract _ _, _, _, _, _⟩ :: _) _; first
          | refine LA_ext0 rfl rfl ?_
          | refine LA_ext1 rfl rfl ?_
          | refine LA_ext30 rfl rfl ?_
          | refine LA_ext31 rfl rfl ?_
          | refine LA_ext32 rfl rfl ?_)
      | (show LA _ _ _ _ (⟨_, .binOp .add _ _ _ _, _, _, _, _⟩ :: _) _; first
          | refine LA_addF rfl rfl rfl (by dsimp only [fits]; omega) ?_
          | refine LA_addW rfl rfl rfl ?_)
      | (show LA _ _ _ _ (⟨_, .binOp .sub _ _ _ _, _, _, _, _⟩ :: _) _; first
          | refine LA_subF rfl rfl rfl (by dsimp only [fits]; omega) ?_
          | refine LA_subW rfl rfl rfl ?_)
      | (show LA _ _ _ _ (⟨_, .binOp .mul _ _ _ _, _, _, _, _⟩ :: _) _; first
          | refine LA_mulF rfl rfl rfl (by dsimp only [fits]; omega) ?_
          | refine LA_mulW rfl rfl rfl ?_)
      | (show LA _ _ _ _ (⟨_, .binOp .quo _ _ _ _, _, _, _, _⟩ :: _) _; first
          | refine LA_quo rfl rfl rfl (by omega) (by omega) (by dsimp only [fits]; omega) ?_)
      | (show LA _ _ _ _ (⟨_, .binOp .rem _ _ _ _, _, _, _, _⟩ :: _) _; first
          | refine LA_rem rfl rfl rfl (by omega) (by omega) (by dsimp only [fits]; omega) ?_)
      | (show LA _ _ _ _ (⟨_, .binOp .shr _ _ _ _, _, _, _, _⟩ :: _) _; first
          | (refine LA_shr rfl rfl rfl (by omega) (by dsimp only [IntKind.bits]; omega) ?_; try dsimp only [Int.reduceToNat, Int.reducePow]))
      | (show LA _ _ _ _ (⟨_, .binOp .shl _ _ _ _, _, _, _, _⟩ :: _) _; first
          | (refine LA_shl rfl rfl rfl (by omega) (by dsimp only [IntKind.bits]; omega) ?_; try dsimp only [Int.reduceToNat, Int.reducePow]))
      | (show LA _ _ _ _ (⟨_, .binOp _ _ _ _ _, _, _, _, _⟩ :: _) _; first
          | refine LA_cmpT rfl rfl rfl rfl (by first | (dsimp only [cmpP]; done) | (dsimp only [cmpP]; omega)) ?_
          | refine LA_cmpF rfl rfl rfl rfl (by dsimp only [cmpP]; omega) ?_
          | (refine LA_cmp rfl rfl rfl rfl (fun hc => ?_) (fun hc => ?_) <;> dsimp only [cmpP] at hc)
          | refine LA_boolEqT rfl rfl rfl rfl (by first | rfl | assumption) ?_
          | refine LA_boolEqF rfl rfl rfl rfl (by first | assumption | decide) ?_
          | refine LA_boolEq rfl rfl rfl rfl ?_
          | refine LA_boolNeT rfl rfl rfl rfl (by first | assumption | decide) ?_
          | refine LA_boolNeF rfl rfl rfl rfl (by first | rfl | assumption) ?_
          | refine LA_boolNe rfl rfl rfl rfl ?_)
      | (show LA _ _ _ _ (⟨_, .indexAddr _ _ _, _, _, _, _⟩ :: _) _; first
          | refine LA_indexN rfl _ rfl (fun _ => rfl) rfl (by first | exact HasI.val (by assumption) | exact HasI.pred | exact HasI.own | exact HasI.ownV (by assumption)) rfl (by omega) ?_
          | (refine LA_index rfl _ rfl (fun _ => rfl) rfl (by first | exact HasI.val (by assumption) | exact HasI.pred | exact HasI.own | exact HasI.ownV (by assumption)) rfl (by omega) (by omega) ?_; try dsimp only [Int.reduceToNat]))
      | (show LA _ _ _ _ (⟨_, .load _ _, _, _, _, _⟩ :: _) _; first
          | refine LA_load rfl (fun _ => rfl) rfl ?_)
      | (show LA _ _ _ _ (⟨_, .convert _ _ _, _, _, _, _⟩ :: _) _; first
          | refine LA_convF rfl rfl rfl rfl (by dsimp only [fits]; omega) ?_
          | refine LA_conv rfl rfl rfl rfl ?_)
      | (show LA _ _ _ _ (⟨_, .slice _ _ _ _ _, _, _, _, _⟩ :: _) _; first
          | (refine LA_sliceL rfl _ rfl rfl (by first | exact (HasI.val (by assumption)).c | exact HasI.pred.c | exact HasC.val (by assumption) | exact HasC.pred | exact HasI.own.c | exact HasC.own | exact (HasI.ownV (by assumption)).c | exact HasC.ownV (by assumption)) rfl (by omega) (by omega) (by exact fun _ => rfl) ?_; try dsimp only [Int.reduceToNat, Int.toNat_natCast])
          | (refine LA_sliceH rfl _ rfl rfl (by first | exact (HasI.val (by assumption)).c | exact HasI.pred.c | exact HasC.val (by assumption) | exact HasC.pred | exact HasI.own.c | exact HasC.own | exact (HasI.ownV (by assumption)).c | exact HasC.ownV (by assumption)) rfl (by omega) (by omega) (by exact fun _ => rfl) ?_; try dsimp only [Int.reduceToNat, Int.toNat_natCast])
          | (refine LA_sliceLH rfl _ rfl rfl (by first | exact (HasI.val (by assumption)).c | exact HasI.pred.c | exact HasC.val (by assumption) | exact HasC.pred | exact HasI.own.c | exact HasC.own | exact (HasI.ownV (by assumption)).c | exact HasC.ownV (by assumption)) rfl rfl (by omega) (by omega) (by omega) (by exact fun _ => rfl) ?_; try dsimp only [Int.reduceToNat, Int.toNat_natCast]))
      | (show LA _ _ _ _ (⟨_, .call ⟨.builtin .len, _, _⟩, _, _, _, _⟩ :: _) _; first
          | refine LA_len rfl _ rfl rfl (by first | exact (HasI.val (by assumption)).c | exact HasI.pred.c | exact HasC.val (by assumption) | exact HasC.pred | exact HasI.own.c | exact HasC.own | exact (HasI.ownV (by assumption)).c | exact HasC.ownV (by assumption)) ?_)
      | (show LA _ _ _ _ (⟨_, .call ⟨.value _, _, _⟩, _, _, _, _⟩ :: _) _; first
          | (show LA _ _ _ _ (⟨_, .call ⟨.value (.func 17), _, _⟩, _, _, _, _⟩ :: _) _; refine LA_call2 (f := 17) rfl rfl rfl rfl  (.tup2 (.val (.int .i64 4)) (.val (.bool false))) (by intro u1 u2 w e hu1 hu2; (try obtain rfl : u1 = _ := hu1); (try obtain rfl : u2 = _ := hu2); exact (k_find_c _ _ (by first | exact hu1 | exact hu2 | exact hu3 | exact hu4 | exact hu5 | exact OwnI.slI hu1 | exact OwnI.slI hu2 | exact OwnI.slI hu3 | exact SlI.ext (by assumption) e | exact OwnI.slI (OwnI.ext (by assumption) e)))) ?_)
          | (show LA _ _ _ _ (⟨_, .call ⟨.value (.func 19), _, _⟩, _, _, _, _⟩ :: _) _; refine LA_call1 (f := 19) rfl rfl rfl  (.val (.int .i64 3)) (by intro u1 w e hu1; (try obtain rfl : u1 = _ := hu1); exact (runs_c _ _ [1, 2, 3, 7, 9, 10] (by first | exact hu1 | exact hu2 | exact hu3 | exact hu4 | exact hu5 | exact OwnI.slI hu1 | exact OwnI.slI hu2 | exact OwnI.slI hu3 | exact SlI.ext (by assumption) e | exact OwnI.slI (OwnI.ext (by assumption) e)))) ?_)
          | (show LA _ _ _ _ (⟨_, .call ⟨.value (.func 15), _, _⟩, _, _, _, _⟩ :: _) _; refine LA_call2 (f := 15) rfl rfl rfl rfl  (.pred (ownI w.heap.size 29 .u16 [1, 3])) (by intro u1 u2 w e hu1 hu2; (try obtain rfl : u1 = _ := hu1); (try obtain rfl : u2 = _ := hu2); exact (k_xor ▸ (xor_c _ _ _ [1, 2] [2, 3] (by first | exact hu1 | exact hu2 | exact hu3 | exact hu4 | exact hu5 | exact OwnI.slI hu1 | exact OwnI.slI hu2 | exact OwnI.slI hu3 | exact SlI.ext (by assumption) e | exact OwnI.slI (OwnI.ext (by assumption) e)) (by first | exact hu1 | exact hu2 | exact hu3 | exact hu4 | exact hu5 | exact OwnI.slI hu1 | exact OwnI.slI hu2 | exact OwnI.slI hu3 | exact SlI.ext (by assumption) e | exact OwnI.slI (OwnI.ext (by assumption) e)) (by decide)).mono (ret_base e.size))) ?_)
          | (show LA _ _ _ _ (⟨_, .call ⟨.value (.func 12), _, _⟩, _, _, _, _⟩ :: _) _; refine LA_call2 (f := 12) rfl rfl rfl rfl  (.val (.bool true)) (by intro u1 u2 w e hu1 hu2; (try obtain rfl : u1 = _ := hu1); (try obtain rfl : u2 = _ := hu2); exact ret_true (same_c _ _ _ [1, 3] [1, 3] (by first | exact hu1 | exact hu2 | exact hu3 | exact hu4 | exact hu5 | exact OwnI.slI hu1 | exact OwnI.slI hu2 | exact OwnI.slI hu3 | exact SlI.ext (by assumption) e | exact OwnI.slI (OwnI.ext (by assumption) e)) (by first | exact hu1 | exact hu2 | exact hu3 | exact hu4 | exact hu5 | exact OwnI.slI hu1 | exact OwnI.slI hu2 | exact OwnI.slI hu3 | exact SlI.ext (by assumption) e | exact OwnI.slI (OwnI.ext (by assumption) e))) (rfl)) ?_)
          | (show LA _ _ _ _ (⟨_, .call ⟨.value (.func 11), _, _⟩, _, _, _, _⟩ :: _) _; refine LA_call1 (f := 11) rfl rfl rfl  (.val (.bool true)) (by intro u1 w e hu1; (try obtain rfl : u1 = _ := hu1); exact ret_true (may_c _ _ [1, 2, 3, 7, 9, 10] (by first | exact hu1 | exact hu2 | exact hu3 | exact hu4 | exact hu5 | exact OwnI.slI hu1 | exact OwnI.slI hu2 | exact OwnI.slI hu3 | exact SlI.ext (by assumption) e | exact OwnI.slI (OwnI.ext (by assumption) e))) (by decide +kernel)) ?_)
          | (show LA _ _ _ _ (⟨_, .call ⟨.value (.func 11), _, _⟩, _, _, _, _⟩ :: _) _; refine LA_call1 (f := 11) rfl rfl rfl  (.val (.bool false)) (by intro u1 w e hu1; (try obtain rfl : u1 = _ := hu1); exact ret_eq (by rw [k_may]) (may_c _ _ [1, 1] (by first | exact hu1 | exact hu2 | exact hu3 | exact hu4 | exact hu5 | exact OwnI.slI hu1 | exact OwnI.slI hu2 | exact OwnI.slI hu3 | exact SlI.ext (by assumption) e | exact OwnI.slI (OwnI.ext (by assumption) e)))) ?_))
      | (refine LA_nil (hK [] _ (LX_nil ?_)); clear hK K)
      | (refine LA_nil (hK _ ?_); clear hK K))
    | (show CX _ _ _ _ _ _; first
      | refine CX_seq ?_
      | refine CX_skip ?_
      | refine CX_block ?_
      | refine CX_exit ?_
      | refine CX_ret ?_
      | refine CX_condT rfl ?_
      | refine CX_condF rfl ?_
      | refine CX_region (by kernel_rfl) (fun K hK => ?_)
      | refine CX_regionA (by kernel_rfl) (by kernel_rfl) (fun K hK => ?_)
      | refine CX_label ?_
      | refine CX_scope ?_)
    | (show PX _ _ _ _ _; first
      | refine PX_then ?_
      | refine PX_thenX ?_
      | refine PX_thenR ?_
      | refine PX_blockN ?_
      | refine PX_blockR ?_
      | refine PX_blockX ?_
      | refine PX_blockO (by decide) ?_
      | refine PX_scopeN ?_
      | refine PX_scopeR ?_
      | refine PX_scopeX ?_)
    | (show LX _ _ _ _ _ _ _; first
      | refine LX_nil ?_))
  exact PX_retE rfl rfl (Ext.refl _) rfl

/-- Not too long, and in order. -/
def fine (xs ys : List Int) : Prop := xs.length ≤ 3000 ∧ ys.length ≤ 3000 ∧ Inc xs ∧ Inc ys

theorem ret_four {w : World} {base base' e : Nat} {k : IntKind} {l1 l2 l3 l4 : List Int} (hb : base' ≤ base) (en : Ending) (w' : World) (h : Ret w (.pred (four base e k l1 l2 l3 l4)) en w') : Ret w (.pred (four base' e k l1 l2 l3 l4)) en w' := by
  obtain ⟨v, h1, h2, v1, v2, v3, v4, m1, m2, m3, h0, g1, g2, g3, g4, a1, a2, a3, b1, b2, b3⟩ := h
  exact ⟨v, h1, h2, v1, v2, v3, v4, m1, m2, m3, h0, Own.base g1 hb, g2, g3, g4, a1, a2, a3, Nat.le_trans hb b1, b2, b3⟩

theorem four_one {v0 v1 v2 v3 : Value} (h0 : v0.oneCell' = true) (h1 : v1.oneCell' = true) (h2 : v2.oneCell' = true) (h3 : v3.oneCell' = true) : ∀ u ∈ (Value.agg #[v0, v1, v2, v3]).cells.toList, u.oneCell' = true := fun u hu => by
  simp only [Value.cells, List.mem_cons, List.not_mem_nil, or_false] at hu
  rcases hu with rfl | rfl | rfl | rfl <;> assumption

set_option maxHeartbeats 2000000 in
theorem laws_c (w : World) (va vb : Value) (xs ys : List Int) (ha : SlI .u16 w va xs) (hb : SlI .u16 w vb ys) : Fc Try.prog 3 #[va, vb] w (Ret w (.val (.bool true))) := by
  refine Fc.of (args := [_, _]) Try.func3 rfl rfl Try.ntmps3 (Nat.le_of_ble_eq_true rfl) ?_
  repeat' (first
    | (show LA _ _ _ _ _ _; first
      | refine LA_pass rfl ?_
      | (show LA _ _ _ _ (⟨some 5, .alloc _, _, _, _, _⟩ :: _) _; refine LA_stop (hK _ _ (LX_pick 29 rfl (fun vx w1 e1 hx => LX_pick 32 rfl (fun vy w2 e2 hy => ?_)))); clear hK K; refine LX_la (by kernel_rfl) (fun K hK => ?_))
      | (show LA _ _ _ _ (⟨some 6, .alloc _, _, _, _, _⟩ :: _) _; refine LA_stop (hK _ _ (LX_pick 5 rfl (fun px w3 e3 h5 => ?_))); clear hK K; refine LX_la (by kernel_rfl) (fun K hK => ?_))
      | refine LA_alloc rfl (fun _ => rfl) ?_
      | (show LA _ _ _ _ (⟨none, .store _ _ _, _, _, _, _⟩ :: _) _; refine LA_stop (hK _ _ (LX_pick 6 rfl (fun py w4 e4 h6 => ?_))); clear hK K)
      | (show LA _ _ _ _ (⟨_, .move _, _, _, _, _⟩ :: _) _; first
          | refine LA_moveV rfl rfl ?_
          | refine LA_moveP rfl rfl ?_
          | refine LA_moveT rfl rfl ?_
          | refine LA_moveU rfl rfl ?_)
      | (show LA _ _ _ _ (⟨_, .assign _, _, _, _, _⟩ :: _) _; first
          | refine LA_assignV rfl rfl ?_
          | refine LA_assignP rfl rfl ?_
          | refine LA_assignT rfl rfl ?_)
      | (show LA _ _ _ _ (⟨_, .pick _ _ _, _, _, _, _⟩ :: _) _; first
          | refine LA_pickTV rfl rfl rfl ?_
          | refine LA_pickFV rfl rfl rfl ?_)
      | (show LA _ _ _ _ (⟨_, .unOp .not _ _, _, _, _, _⟩ :: _) _; first
          | refine LA_notT rfl rfl ?_
          | refine LA_notF rfl rfl ?_
          | refine LA_not rfl rfl ?_)
      | (show LA _ _ _ _ (⟨_, .extract _ _, _, _, _, _⟩ :: _) _; first
          | refine LA_ext0 rfl rfl ?_
          | refine LA_ext1 rfl rfl ?_
          | refine LA_ext30 rfl rfl ?_
          | refine LA_ext31 rfl rfl ?_
          | refine LA_ext32 rfl rfl ?_)
      | (show LA _ _ _ _ (⟨_, .binOp .add _ _ _ _, _, _, _, _⟩ :: _) _; first
          | refine LA_addF rfl rfl rfl (by dsimp only [fits]; omega) ?_
          | refine LA_addW rfl rfl rfl ?_)
      | (show LA _ _ _ _ (⟨_, .binOp .sub _ _ _ _, _, _, _, _⟩ :: _) _; first
          | refine LA_subF rfl rfl rfl (by dsimp only [fits]; omega) ?_
          | refine LA_subW rfl rfl rfl ?_)
      | (show LA _ _ _ _ (⟨_, .binOp .mul _ _ _ _, _, _, _, _⟩ :: _) _; first
          | refine LA_mulF rfl rfl rfl (by dsimp only [fits]; omega) ?_
          | refine LA_mulW rfl rfl rfl ?_)
      | (show LA _ _ _ _ (⟨_, .binOp .quo _ _ _ _, _, _, _, _⟩ :: _) _; first
          | refine LA_quo rfl rfl rfl (by omega) (by omega) (by dsimp only [fits]; omega) ?_)
      | (show LA _ _ _ _ (⟨_, .binOp .rem _ _ _ _, _, _, _, _⟩ :: _) _; first
          | refine LA_rem rfl rfl rfl (by omega) (by omega) (by dsimp only [fits]; omega) ?_)
      | (show LA _ _ _ _ (⟨_, .binOp .shr _ _ _ _, _, _, _, _⟩ :: _) _; first
          | (refine LA_shr rfl rfl rfl (by omega) (by dsimp only [IntKind.bits]; omega) ?_; try dsimp only [Int.reduceToNat, Int.reducePow]))
      | (show LA _ _ _ _ (⟨_, .binOp .shl _ _ _ _, _, _, _, _⟩ :: _) _; first
          | (refine LA_shl rfl rfl rfl (by omega) (by dsimp only [IntKind.bits]; omega) ?_; try dsimp only [Int.reduceToNat, Int.reducePow]))
      | (show LA _ _ _ _ (⟨_, .binOp _ _ _ _ _, _, _, _, _⟩ :: _) _; first
          | refine LA_cmpT rfl rfl rfl rfl (by first | (dsimp only [cmpP]; done) | (dsimp only [cmpP]; omega)) ?_
          | refine LA_cmpF rfl rfl rfl rfl (by dsimp only [cmpP]; omega) ?_
          | (refine LA_cmp rfl rfl rfl rfl (fun hc => ?_) (fun hc => ?_) <;> dsimp only [cmpP] at hc)
          | refine LA_boolEqT rfl rfl rfl rfl (by first | rfl | assumption) ?_
          | refine LA_boolEqF rfl rfl rfl rfl (by first | assumption | decide) ?_
          | refine LA_boolEq rfl rfl rfl rfl ?_
          | refine LA_boolNeT rfl rfl rfl rfl (by first | assumption | decide) ?_
          | refine LA_boolNeF rfl rfl rfl rfl (by first | rfl | assumption) ?_
          | refine LA_boolNe rfl rfl rfl rfl ?_)
      | (show LA _ _ _ _ (⟨_, .indexAddr _ _ _, _, _, _, _⟩ :: _) _; first
          | refine LA_indexN rfl _ rfl (fun _ => rfl) rfl (by first | exact HasI.val (by assumption) | exact HasI.pred | exact HasI.own | exact HasI.ownV (by assumption)) rfl (by omega) ?_
          | (refine LA_index rfl _ rfl (fun _ => rfl) rfl (by first | exact HasI.val (by assumption) | exact HasI.pred | exact HasI.own | exact HasI.ownV (by assumption)) rfl (by omega) (by omega) ?_; try dsimp only [Int.reduceToNat]))
      | (show LA _ _ _ _ (⟨_, .load _ _, _, _, _, _⟩ :: _) _; first
          | refine LA_load rfl (fun _ => rfl) rfl ?_)
      | (show LA _ _ _ _ (⟨_, .convert _ _ _, _, _, _, _⟩ :: _) _; first
          | refine LA_convF rfl rfl rfl rfl (by dsimp only [fits]; omega) ?_
          | refine LA_conv rfl rfl rfl rfl ?_)
      | (show LA _ _ _ _ (⟨_, .slice _ _ _ _ _, _, _, _, _⟩ :: _) _; first
          | (refine LA_sliceL rfl _ rfl rfl (by first | exact (HasI.val (by assumption)).c | exact HasI.pred.c | exact HasC.val (by assumption) | exact HasC.pred | exact HasI.own.c | exact HasC.own | exact (HasI.ownV (by assumption)).c | exact HasC.ownV (by assumption)) rfl (by omega) (by omega) (by exact fun _ => rfl) ?_; try dsimp only [Int.reduceToNat, Int.toNat_natCast])
          | (refine LA_sliceH rfl _ rfl rfl (by first | exact (HasI.val (by assumption)).c | exact HasI.pred.c | exact HasC.val (by assumption) | exact HasC.pred | exact HasI.own.c | exact HasC.own | exact (HasI.ownV (by assumption)).c | exact HasC.ownV (by assumption)) rfl (by omega) (by omega) (by exact fun _ => rfl) ?_; try dsimp only [Int.reduceToNat, Int.toNat_natCast])
          | (refine LA_sliceLH rfl _ rfl rfl (by first | exact (HasI.val (by assumption)).c | exact HasI.pred.c | exact HasC.val (by assumption) | exact HasC.pred | exact HasI.own.c | exact HasC.own | exact (HasI.ownV (by assumption)).c | exact HasC.ownV (by assumption)) rfl rfl (by omega) (by omega) (by omega) (by exact fun _ => rfl) ?_; try dsimp only [Int.reduceToNat, Int.toNat_natCast]))
      | (show LA _ _ _ _ (⟨_, .call ⟨.builtin .len, _, _⟩, _, _, _, _⟩ :: _) _; first
          | refine LA_len rfl _ rfl rfl (by first | exact (HasI.val (by assumption)).c | exact HasI.pred.c | exact HasC.val (by assumption) | exact HasC.pred | exact HasI.own.c | exact HasC.own | exact (HasI.ownV (by assumption)).c | exact HasC.ownV (by assumption)) ?_)
      | (show LA _ _ _ _ (⟨_, .call ⟨.value _, _, _⟩, _, _, _, _⟩ :: _) _; first
          | (show LA _ _ _ _ (⟨_, .call ⟨.value (.func 8), _, _⟩, _, _, _, _⟩ :: _) _; refine LA_callB1 (f := 8) rfl rfl rfl  (decide (Inc _)) (by intro u1 w e hu1; (try obtain rfl : u1 = _ := hu1); exact rmay_c _ _ _ (by first | exact hu1 | exact hu2 | exact hu3 | exact hu4 | exact hu5 | exact OwnI.slI hu1 | exact OwnI.slI hu2 | exact OwnI.slI hu3 | exact SlI.ext (by assumption) e | exact OwnI.slI (OwnI.ext (by assumption) e))) (fun hc => ?_) (fun hc => ?_) <;> simp only [decide_eq_true_eq, decide_eq_false_iff_not] at hc)
          | (show LA _ _ _ _ (⟨_, .call ⟨.value (.func 9), _, _⟩, _, _, _, _⟩ :: _) _; refine LA_call0 (f := 9) rfl rfl  (.val (.bool true)) (by intro w e; exact known_c _) ?_)
          | (show LA _ _ _ _ (⟨_, .call ⟨.value (.func 10), _, _⟩, _, _, _, _⟩ :: _) _; refine LA_call2 (f := 10) rfl rfl rfl rfl  (.pred (four w.heap.size 29 .u16 (mergeS fAnd xs ys) (mergeS fOr xs ys) (mergeS fNot xs ys) (mergeS fXor xs ys))) (by intro u1 u2 w e hu1 hu2; (try obtain rfl : u1 = _ := hu1); (try obtain rfl : u2 = _ := hu2); exact (calls_c _ _ _ xs ys (by first | exact hu1 | exact hu2 | exact hu3 | exact hu4 | exact hu5 | exact OwnI.slI hu1 | exact OwnI.slI hu2 | exact OwnI.slI hu3 | exact SlI.ext (by assumption) e | exact OwnI.slI (OwnI.ext (by assumption) e)) (by first | exact hu1 | exact hu2 | exact hu3 | exact hu4 | exact hu5 | exact OwnI.slI hu1 | exact OwnI.slI hu2 | exact OwnI.slI hu3 | exact SlI.ext (by assumption) e | exact OwnI.slI (OwnI.ext (by assumption) e)) (by omega)).mono (ret_four e.size)) ?_)
          | (show LA _ _ _ _ (⟨_, .call ⟨.value (.func 10), _, _⟩, _, _, _, _⟩ :: _) _; refine LA_call2 (f := 10) rfl rfl rfl rfl  (.pred (four w.heap.size 29 .u16 (mergeS fAnd ys xs) (mergeS fOr ys xs) (mergeS fNot ys xs) (mergeS fXor ys xs))) (by intro u1 u2 w e hu1 hu2; (try obtain rfl : u1 = _ := hu1); (try obtain rfl : u2 = _ := hu2); exact (calls_c _ _ _ ys xs (by first | exact hu1 | exact hu2 | exact hu3 | exact hu4 | exact hu5 | exact OwnI.slI hu1 | exact OwnI.slI hu2 | exact OwnI.slI hu3 | exact SlI.ext (by assumption) e | exact OwnI.slI (OwnI.ext (by assumption) e)) (by first | exact hu1 | exact hu2 | exact hu3 | exact hu4 | exact hu5 | exact OwnI.slI hu1 | exact OwnI.slI hu2 | exact OwnI.slI hu3 | exact SlI.ext (by assumption) e | exact OwnI.slI (OwnI.ext (by assumption) e)) (by omega)).mono (ret_four e.size)) ?_))
      | (refine LA_nil (hK [] _ (LX_nil ?_)); clear hK K)
      | (refine LA_nil (hK _ ?_); clear hK K))
    | (show CX _ _ _ _ _ _; first
      | refine CX_seq ?_
      | refine CX_skip ?_
      | refine CX_block ?_
      | refine CX_exit ?_
      | refine CX_ret ?_
      | refine CX_condT rfl ?_
      | refine CX_condF rfl ?_
      | refine CX_region (by kernel_rfl) (fun K hK => ?_)
      | refine CX_regionA (by kernel_rfl) (by kernel_rfl) (fun K hK => ?_)
      | refine CX_label ?_
      | refine CX_scope ?_)
    | (show PX _ _ _ _ _; first
      | refine PX_then ?_
      | refine PX_thenX ?_
      | refine PX_thenR ?_
      | refine PX_blockN ?_
      | refine PX_blockR ?_
      | refine PX_blockX ?_
      | refine PX_blockO (by decide) ?_
      | refine PX_scopeN ?_
      | refine PX_scopeR ?_
      | refine PX_scopeX ?_
      | exact PX_retE rfl rfl (Ext.refl _) rfl)
    | (show LX _ _ _ _ _ _ _; first
      | refine LX_nil ?_))
  rename_i hc1 hc2 hi1
  have hi2 := hc
  obtain ⟨x0, x1, x2, x3, m1, m2, m3, rfl, hx0, hx1, hx2, hx3, -⟩ := hx
  obtain ⟨y0, y1, y2, y3, n1, n2, n3, rfl, hy0, hy1, hy2, hy3, -⟩ := hy
  obtain ⟨bx, hbx, rfl, hbx'⟩ := h5
  obtain ⟨by', hby, rfl, hby'⟩ := h6
  have lx : bx < w3.heap.size := (Array.getElem?_eq_some_iff.1 hbx').1
  have s2 := e2.size; have s1 := e1.size; have s3 := e3.size; have s4 := e4.size
  refine LX_storeAll rfl rfl rfl (e4.block hbx') (fun _ => rfl) rfl (four_one hx0.one hx1.one hx2.one hx3.one) (fun w5 e5 => ?_)
  dsimp only [vals]
  have hby2 := e5.block hby'
  rw [← setRow_other w5 bx by' (Value.agg #[x0, x1, x2, x3]).cells (by omega)] at hby2
  refine LX_storeAll rfl rfl rfl hby2 (fun _ => rfl) rfl (four_one hy0.one hy1.one hy2.one hy3.one) (fun w6 e6 => ?_)
  dsimp only [vals]
  have hbx2 : ∃ wz, wz = (w6.setRow by' (Value.agg #[y0, y1, y2, y3]).cells) := ⟨_, rfl⟩
  obtain ⟨wz, hwz⟩ := hbx2
  rw [← hwz]
  have q0 : Ext w w4 := (e1.trans e2).trans (e3.trans e4)
  have q5 : Ext w (w5.setRow bx (Value.agg #[x0, x1, x2, x3]).cells) := (q0.trans e5).setRow (by omega) _
  have qz : Ext w wz := hwz ▸ (q5.trans e6).setRow (by omega) _
  have hX : wz.heap[bx]? = some (.cells #[x0, x1, x2, x3] 25 (0, 0)) := by
    rw [hwz, setRow_other _ _ _ _ (by omega)]
    exact e6.block (setRow_heap w5 bx _ _ _ (0, 0) ((e4.trans e5).block hbx'))
  have hY : wz.heap[by']? = some (.cells #[y0, y1, y2, y3] 25 (0, 0)) := by
    rw [hwz]
    exact setRow_heap w6 by' _ _ _ (0, 0) (e6.block hby2)
  -- the rows lie elsewhere
  have keep : ∀ {v : Value} {b0 : Nat} {zs : List Int}, OwnI b0 29 .u16 w2 v zs → SlI .u16 wz v zs := fun {v b0 zs} h => by
    have lt := fun k hk => (Own.lt h k hk).2
    have h4 := h.ext ((e3.trans e4).trans e5)
    have h5 : OwnI b0 29 .u16 (w5.setRow bx (Value.agg #[x0, x1, x2, x3]).cells) v zs := Own.setRow h4 _ (fun e => by have := lt bx e; omega)
    have h6 : OwnI b0 29 .u16 wz v zs := hwz ▸ Own.setRow (h5.ext e6) _ (fun e => by have := lt by' e; omega)
    exact h6.slI
  have sx0 := keep (hx0.ext e2); have sx1 := keep (hx1.ext e2); have sx2 := keep (hx2.ext e2); have sx3 := keep (hx3.ext e2)
  have sy0 := keep hy0; have sy1 := keep hy1; have sy2 := keep hy2; have sy3 := keep hy3
  have za := ha.ext qz; have zb := hb.ext qz
  clear keep hwz q5 q0 e1 e2 e3 e4 e5 e6 hx0 hx1 hx2 hx3 hy0 hy1 hy2 hy3 hbx hby hbx' hby' hby2 lx s1 s2 s3 s4 hc
  repeat' (first
    | (show LA _ _ _ _ _ _; first
      | refine LA_pass rfl ?_
      | (show LA _ _ _ _ (⟨_, .move _, _, _, _, _⟩ :: _) _; first
          | refine LA_moveV rfl rfl ?_
          | refine LA_moveP rfl rfl ?_
          | refine LA_moveT rfl rfl ?_
          | refine LA_moveU rfl rfl ?_)
      | (show LA _ _ _ _ (⟨_, .assign _, _, _, _, _⟩ :: _) _; first
          | refine LA_assignV rfl rfl ?_
          | refine LA_assignP rfl rfl ?_
          | refine LA_assignT rfl rfl ?_)
      | (show LA _ _ _ _ (⟨_, .pick _ _ _, _, _, _, _⟩ :: _) _; first
          | refine LA_pickTV rfl rfl rfl ?_
          | refine LA_pickFV rfl rfl rfl ?_)
      | (show LA _ _ _ _ (⟨_, .unOp .not _ _, _, _, _, _⟩ :: _) _; first
          | refine LA_notT rfl rfl ?_
          | refine LA_notF rfl rfl ?_
          | refine LA_not rfl rfl ?_)
      | (show LA _ _ _ _ (⟨_, .extract _ _, _, _, _, _⟩ :: _) _; first
          | refine LA_ext0 rfl rfl ?_
          | refine LA_ext1 rfl rfl ?_
          | refine LA_ext30 rfl rfl ?_
          | refine LA_ext31 rfl rfl ?_
          | refine LA_ext32 rfl rfl ?_)
      | (show LA _ _ _ _ (⟨_, .binOp .add _ _ _ _, _, _, _, _⟩ :: _) _; first
          | refine LA_addF rfl rfl rfl (by dsimp only [fits]; omega) ?_
          | refine LA_addW rfl rfl rfl ?_)
      | (show LA _ _ _ _ (⟨_, .binOp .sub _ _ _ _, _, _, _, _⟩ :: _) _; first
          | refine LA_subF rfl rfl rfl (by dsimp only [fits]; omega) ?_
          | refine LA_subW rfl rfl rfl ?_)
      | (show LA _ _ _ _ (⟨_, .binOp .mul _ _ _ _, _, _, _, _⟩ :: _) _; first
          | refine LA_mulF rfl rfl rfl (by dsimp only [fits]; omega) ?_
          | refine LA_mulW rfl rfl rfl ?_)
      | (show LA _ _ _ _ (⟨_, .binOp .quo _ _ _ _, _, _, _, _⟩ :: _) _; first
          | refine LA_quo rfl rfl rfl (by omega) (by omega) (by dsimp only [fits]; omega) ?_)
      | (show LA _ _ _ _ (⟨_, .binOp .rem _ _ _ _, _, _, _, _⟩ :: _) _; first
          | refine LA_rem rfl rfl rfl (by omega) (by omega) (by dsimp only [fits]; omega) ?_)
      | (show LA _ _ _ _ (⟨_, .binOp .shr _ _ _ _, _, _, _, _⟩ :: _) _; first
          | (refine LA_shr rfl rfl rfl (by omega) (by dsimp only [IntKind.bits]; omega) ?_; try dsimp only [Int.reduceToNat, Int.reducePow]))
      | (show LA _ _ _ _ (⟨_, .binOp .shl _ _ _ _, _, _, _, _⟩ :: _) _; first
          | (refine LA_shl rfl rfl rfl (by omega) (by dsimp only [IntKind.bits]; omega) ?_; try dsimp only [Int.reduceToNat, Int.reducePow]))
      | (show LA _ _ _ _ (⟨_, .binOp _ _ _ _ _, _, _, _, _⟩ :: _) _; first
          | refine LA_cmpT rfl rfl rfl rfl (by first | (dsimp only [cmpP]; done) | (dsimp only [cmpP]; omega)) ?_
          | refine LA_cmpF rfl rfl rfl rfl (by dsimp only [cmpP]; omega) ?_
          | (refine LA_cmp rfl rfl rfl rfl (fun hc => ?_) (fun hc => ?_) <;> dsimp only [cmpP] at hc)
          | refine LA_boolEqT rfl rfl rfl rfl (by first | rfl | assumption) ?_
          | refine LA_boolEqF rfl rfl rfl rfl (by first | assumption | decide) ?_
          | refine LA_boolEq rfl rfl rfl rfl ?_
          | refine LA_boolNeT rfl rfl rfl rfl (by first | assumption | decide) ?_
          | refine LA_boolNeF rfl rfl rfl rfl (by first | rfl | assumption) ?_
          | refine LA_boolNe rfl rfl rfl rfl ?_)
      | (show LA _ _ _ _ (⟨_, .indexAddr _ _ _, _, _, _, _⟩ :: _) _; first
          | refine LA_indexN rfl _ rfl (fun _ => rfl) rfl (by first | exact HasI.val (by assumption) | exact HasI.pred | exact HasI.own | exact HasI.ownV (by assumption)) rfl (by omega) ?_
          | (refine LA_index rfl _ rfl (fun _ => rfl) rfl (by first | exact HasI.val (by assumption) | exact HasI.pred | exact HasI.own | exact HasI.ownV (by assumption)) rfl (by omega) (by omega) ?_; try dsimp only [Int.reduceToNat]))
      | (show LA _ _ _ _ (⟨_, .load _ _, _, _, _, _⟩ :: _) _; first
          | refine LA_load rfl (fun _ => rfl) rfl ?_)
      | (show LA _ _ _ _ (⟨_, .convert _ _ _, _, _, _, _⟩ :: _) _; first
          | refine LA_convF rfl rfl rfl rfl (by dsimp only [fits]; omega) ?_
          | refine LA_conv rfl rfl rfl rfl ?_)
      | (show LA _ _ _ _ (⟨_, .slice _ _ _ _ _, _, _, _, _⟩ :: _) _; first
          | (refine LA_sliceL rfl _ rfl rfl (by first | exact (HasI.val (by assumption)).c | exact HasI.pred.c | exact HasC.val (by assumption) | exact HasC.pred | exact HasI.own.c | exact HasC.own | exact (HasI.ownV (by assumption)).c | exact HasC.ownV (by assumption)) rfl (by omega) (by omega) (by exact fun _ => rfl) ?_; try dsimp only [Int.reduceToNat, Int.toNat_natCast])
          | (refine LA_sliceH rfl _ rfl rfl (by first | exact (HasI.val (by assumption)).c | exact HasI.pred.c | exact HasC.val (by assumption) | exact HasC.pred | exact HasI.own.c | exact HasC.own | exact (HasI.ownV (by assumption)).c | exact HasC.ownV (by assumption)) rfl (by omega) (by omega) (by exact fun _ => rfl) ?_; try dsimp only [Int.reduceToNat, Int.toNat_natCast])
          | (refine LA_sliceLH rfl _ rfl rfl (by first | exact (HasI.val (by assumption)).c | exact HasI.pred.c | exact HasC.val (by assumption) | exact HasC.pred | exact HasI.own.c | exact HasC.own | exact (HasI.ownV (by assumption)).c | exact HasC.ownV (by assumption)) rfl rfl (by omega) (by omega) (by omega) (by exact fun _ => rfl) ?_; try dsimp only [Int.reduceToNat, Int.toNat_natCast]))
      | (show LA _ _ _ _ (⟨_, .call ⟨.builtin .len, _, _⟩, _, _, _, _⟩ :: _) _; first
          | refine LA_len rfl _ rfl rfl (by first | exact (HasI.val (by assumption)).c | exact HasI.pred.c | exact HasC.val (by assumption) | exact HasC.pred | exact HasI.own.c | exact HasC.own | exact (HasI.ownV (by assumption)).c | exact HasC.ownV (by assumption)) ?_)
      | (refine LA_nil (hK [] _ (LX_nil ?_)); clear hK K)
      | (refine LA_nil (hK _ ?_); clear hK K))
    | (show CX _ _ _ _ _ _; first
      | refine CX_seq ?_
      | refine CX_skip ?_
      | refine CX_block ?_
      | refine CX_exit ?_
      | refine CX_ret ?_
      | refine CX_condT rfl ?_
      | refine CX_condF rfl ?_
      | refine CX_region (by kernel_rfl) (fun K hK => ?_)
      | refine CX_regionA (by kernel_rfl) (by kernel_rfl) (fun K hK => ?_)
      | refine CX_label ?_
      | refine CX_scope ?_)
    | (show PX _ _ _ _ _; first
      | refine PX_then ?_
      | refine PX_thenX ?_
      | refine PX_thenR ?_
      | refine PX_blockN ?_
      | refine PX_blockR ?_
      | refine PX_blockX ?_
      | refine PX_blockO (by decide) ?_
      | refine PX_scopeN ?_
      | refine PX_scopeR ?_
      | refine PX_scopeX ?_)
    | (show LX _ _ _ _ _ _ _; first
      | refine LX_nil ?_))
  have l0 := merge_len fAnd xs ys; have l1 := merge_len fOr xs ys; have l2 := merge_len fNot xs ys; have l3 := merge_len fXor xs ys
  have l4 := law_len xs ys
  have l5 := congrArg List.length (law_none hi1 hi2)
  rw [List.length_nil] at l5
  refine CX_loop (ι := Nat) (fun i => [(0, .val va), (1, .val vb), (5, .val (.pointer (some ⟨bx, 0, none⟩))), (6, .val (.pointer (some ⟨by', 0, none⟩))), (33, .val (.int .i64 i))]) (fun i => i ≤ 4) (fun i => 4 - i) 0 (by omega) (by repeat' (first | exact Sub.nil | refine Sub.val rfl (by first | with_reducible rfl | (congr 1; omega)) ?_ | refine Sub.same rfl ?_)) ?_
  intro i hi
  have hi4 : i = 0 ∨ i = 1 ∨ i = 2 ∨ i = 3 ∨ i = 4 := by omega
  rcases hi4 with rfl | rfl | rfl | rfl | rfl
  all_goals clear hi
  all_goals
    repeat' (first
      | (show LA _ _ _ _ _ _; first
        | refine LA_pass rfl ?_
        | refine LA_indexArr (n := 4) (s := 1) rfl rfl (fun _ => rfl) rfl rfl 0 rfl (by decide) ?_
        | refine LA_indexArr (n := 4) (s := 1) rfl rfl (fun _ => rfl) rfl rfl 1 rfl (by decide) ?_
        | refine LA_indexArr (n := 4) (s := 1) rfl rfl (fun _ => rfl) rfl rfl 2 rfl (by decide) ?_
        | refine LA_indexArr (n := 4) (s := 1) rfl rfl (fun _ => rfl) rfl rfl 3 rfl (by decide) ?_
        | refine LA_loadB rfl (fun _ => rfl) rfl (by assumption) rfl ?_
        | (show LA _ _ _ _ (⟨_, .move _, _, _, _, _⟩ :: _) _; first
            | refine LA_moveV rfl rfl ?_
            | refine LA_moveP rfl rfl ?_
            | refine LA_moveT rfl rfl ?_
            | refine LA_moveU rfl rfl ?_)
        | (show LA _ _ _ _ (⟨_, .assign _, _, _, _, _⟩ :: _) _; first
            | refine LA_assignV rfl rfl ?_
            | refine LA_assignP rfl rfl ?_
            | refine LA_assignT rfl rfl ?_)
        | (show LA _ _ _ _ (⟨_, .pick _ _ _, _, _, _, _⟩ :: _) _; first
            | refine LA_pickTV rfl rfl rfl ?_
            | refine LA_pickFV rfl rfl rfl ?_)
        | (show LA _ _ _ _ (⟨_, .unOp .not _ _, _, _, _, _⟩ :: _) _; first
            | refine LA_notT rfl rfl ?_
            | refine LA_notF rfl rfl ?_
            | refine LA_not rfl rfl ?_)
        | (show LA _ _ _ _ (⟨_, .extract _ _, _, _, _, _⟩ :: _) _; first
            | refine LA_ext0 rfl rfl ?_
            | refine LA_ext1 rfl rfl ?_
            | refine LA_ext30 rfl rfl ?_
            | refine LA_ext31 rfl rfl ?_
            | refine LA_ext32 rfl rfl ?_)
        | (show LA _ _ _ _ (⟨_, .binOp .add _ _ _ _, _, _, _, _⟩ :: _) _; first
            | refine LA_addF rfl rfl rfl (by dsimp only [fits]; omega) ?_
            | refine LA_addW rfl rfl rfl ?_)
        | (show LA _ _ _ _ (⟨_, .binOp .sub _ _ _ _, _, _, _, _⟩ :: _) _; first
            | refine LA_subF rfl rfl rfl (by dsimp only [fits]; omega) ?_
            | refine LA_subW rfl rfl rfl ?_)
        | (show LA _ _ _ _ (⟨_, .binOp .mul _ _ _ _, _, _, _, _⟩ :: _) _; first
            | refine LA_mulF rfl rfl rfl (by dsimp only [fits]; omega) ?_
            | refine LA_mulW rfl rfl rfl ?_)
        | (show LA _ _ _ _ (⟨_, .binOp .quo _ _ _ _, _, _, _, _⟩ :: _) _; first
            | refine LA_quo rfl rfl rfl (by omega) (by omega) (by dsimp only [fits]; omega) ?_)
        | (show LA _ _ _ _ (⟨_, .binOp .rem _ _ _ _, _, _, _, _⟩ :: _) _; first
            | refine LA_rem rfl rfl rfl (by omega) (by omega) (by dsimp only [fits]; omega) ?_)
        | (show LA _ _ _ _ (⟨_, .binOp .shr _ _ _ _, _, _, _, _⟩ :: _) _; first
            | (refine LA_shr rfl rfl rfl (by omega) (by dsimp only [IntKind.bits]; omega) ?_; try dsimp only [Int.reduceToNat, Int.reducePow]))
        | (show LA _ _ _ _ (⟨_, .binOp .shl _ _ _ _, _, _, _, _⟩ :: _) _; first
            | (refine LA_shl rfl rfl rfl (by omega) (by dsimp only [IntKind.bits]; omega) ?_; try dsimp only [Int.reduceToNat, Int.reducePow]))
        | (show LA _ _ _ _ (⟨_, .binOp _ _ _ _ _, _, _, _, _⟩ :: _) _; first
            | refine LA_cmpT rfl rfl rfl rfl (by first | (dsimp only [cmpP]; done) | (dsimp only [cmpP]; omega)) ?_
            | refine LA_cmpF rfl rfl rfl rfl (by dsimp only [cmpP]; omega) ?_
            | (refine LA_cmp rfl rfl rfl rfl (fun hc => ?_) (fun hc => ?_) <;> dsimp only [cmpP] at hc)
            | refine LA_boolEqT rfl rfl rfl rfl (by first | rfl | assumption) ?_
            | refine LA_boolEqF rfl rfl rfl rfl (by first | assumption | decide) ?_
            | refine LA_boolEq rfl rfl rfl rfl ?_
            | refine LA_boolNeT rfl rfl rfl rfl (by first | assumption | decide) ?_
            | refine LA_boolNeF rfl rfl rfl rfl (by first | rfl | assumption) ?_
            | refine LA_boolNe rfl rfl rfl rfl ?_)
        | (show LA _ _ _ _ (⟨_, .indexAddr _ _ _, _, _, _, _⟩ :: _) _; first
            | refine LA_indexN rfl _ rfl (fun _ => rfl) rfl (by first | exact HasI.val (by assumption) | exact HasI.pred | exact HasI.own | exact HasI.ownV (by assumption)) rfl (by omega) ?_
            | (refine LA_index rfl _ rfl (fun _ => rfl) rfl (by first | exact HasI.val (by assumption) | exact HasI.pred | exact HasI.own | exact HasI.ownV (by assumption)) rfl (by omega) (by omega) ?_; try dsimp only [Int.reduceToNat]))
        | (show LA _ _ _ _ (⟨_, .load _ _, _, _, _, _⟩ :: _) _; first
            | refine LA_load rfl (fun _ => rfl) rfl ?_)
        | (show LA _ _ _ _ (⟨_, .convert _ _ _, _, _, _, _⟩ :: _) _; first
            | refine LA_convF rfl rfl rfl rfl (by dsimp only [fits]; omega) ?_
            | refine LA_conv rfl rfl rfl rfl ?_)
        | (show LA _ _ _ _ (⟨_, .slice _ _ _ _ _, _, _, _, _⟩ :: _) _; first
            | (refine LA_sliceL rfl _ rfl rfl (by first | exact (HasI.val (by assumption)).c | exact HasI.pred.c | exact HasC.val (by assumption) | exact HasC.pred | exact HasI.own.c | exact HasC.own | exact (HasI.ownV (by assumption)).c | exact HasC.ownV (by assumption)) rfl (by omega) (by omega) (by exact fun _ => rfl) ?_; try dsimp only [Int.reduceToNat, Int.toNat_natCast])
            | (refine LA_sliceH rfl _ rfl rfl (by first | exact (HasI.val (by assumption)).c | exact HasI.pred.c | exact HasC.val (by assumption) | exact HasC.pred | exact HasI.own.c | exact HasC.own | exact (HasI.ownV (by assumption)).c | exact HasC.ownV (by assumption)) rfl (by omega) (by omega) (by exact fun _ => rfl) ?_; try dsimp only [Int.reduceToNat, Int.toNat_natCast])
            | (refine LA_sliceLH rfl _ rfl rfl (by first | exact (HasI.val (by assumption)).c | exact HasI.pred.c | exact HasC.val (by assumption) | exact HasC.pred | exact HasI.own.c | exact HasC.own | exact (HasI.ownV (by assumption)).c | exact HasC.ownV (by assumption)) rfl rfl (by omega) (by omega) (by omega) (by exact fun _ => rfl) ?_; try dsimp only [Int.reduceToNat, Int.toNat_natCast]))
        | (show LA _ _ _ _ (⟨_, .call ⟨.builtin .len, _, _⟩, _, _, _, _⟩ :: _) _; first
            | refine LA_len rfl _ rfl rfl (by first | exact (HasI.val (by assumption)).c | exact HasI.pred.c | exact HasC.val (by assumption) | exact HasC.pred | exact HasI.own.c | exact HasC.own | exact (HasI.ownV (by assumption)).c | exact HasC.ownV (by assumption)) ?_)
        | (show LA _ _ _ _ (⟨_, .call ⟨.value _, _, _⟩, _, _, _, _⟩ :: _) _; first
            | (show LA _ _ _ _ (⟨_, .call ⟨.value (.func 11), _, _⟩, _, _, _, _⟩ :: _) _; refine LA_call1 (f := 11) rfl rfl rfl  (.val (.bool true)) (by intro u1 w e hu1; (try obtain rfl : u1 = _ := hu1); exact ret_true (may_c _ _ _ (by first | exact hu1 | exact hu2 | exact hu3 | exact hu4 | exact hu5 | exact OwnI.slI hu1 | exact OwnI.slI hu2 | exact OwnI.slI hu3 | exact SlI.ext (by assumption) e | exact OwnI.slI (OwnI.ext (by assumption) e))) ((by exact decide_eq_true (merge_inc _ _ _ hi1 hi2)))) ?_)
            | (show LA _ _ _ _ (⟨_, .call ⟨.value (.func 12), _, _⟩, _, _, _, _⟩ :: _) _; refine LA_call2 (f := 12) rfl rfl rfl rfl  (.val (.bool true)) (by intro u1 u2 w e hu1 hu2; (try obtain rfl : u1 = _ := hu1); (try obtain rfl : u2 = _ := hu2); exact ret_true (same_c _ _ _ _ _ (by first | exact hu1 | exact hu2 | exact hu3 | exact hu4 | exact hu5 | exact OwnI.slI hu1 | exact OwnI.slI hu2 | exact OwnI.slI hu3 | exact SlI.ext (by assumption) e | exact OwnI.slI (OwnI.ext (by assumption) e)) (by first | exact hu1 | exact hu2 | exact hu3 | exact hu4 | exact hu5 | exact OwnI.slI hu1 | exact OwnI.slI hu2 | exact OwnI.slI hu3 | exact SlI.ext (by assumption) e | exact OwnI.slI (OwnI.ext (by assumption) e))) ((by exact decide_eq_true (by first | exact and_comm' hi1 hi2 | exact or_comm' hi1 hi2 | exact xor_comm' hi1 hi2 | exact law_or hi1 hi2 | exact law_whole hi1 hi2 | exact law_back hi1 hi2)))) ?_)
            | (show LA _ _ _ _ (⟨_, .call ⟨.value (.func 13), _, _⟩, _, _, _, _⟩ :: _) _; refine LA_call2 (f := 13) rfl rfl rfl rfl  (.pred (ownI _ 29 .u16 (mergeS fOr (mergeS fAnd xs ys) (mergeS fXor xs ys)))) (by intro u1 u2 w e hu1 hu2; (try obtain rfl : u1 = _ := hu1); (try obtain rfl : u2 = _ := hu2); exact (or_c _ _ _ (mergeS fAnd xs ys) (mergeS fXor xs ys) (by first | exact hu1 | exact hu2 | exact hu3 | exact hu4 | exact hu5 | exact OwnI.slI hu1 | exact OwnI.slI hu2 | exact OwnI.slI hu3 | exact SlI.ext (by assumption) e | exact OwnI.slI (OwnI.ext (by assumption) e)) (by first | exact hu1 | exact hu2 | exact hu3 | exact hu4 | exact hu5 | exact OwnI.slI hu1 | exact OwnI.slI hu2 | exact OwnI.slI hu3 | exact SlI.ext (by assumption) e | exact OwnI.slI (OwnI.ext (by assumption) e)) (by omega)).mono (ret_base e.size)) ?_)
            | (show LA _ _ _ _ (⟨_, .call ⟨.value (.func 13), _, _⟩, _, _, _, _⟩ :: _) _; refine LA_call2 (f := 13) rfl rfl rfl rfl  (.pred (ownI _ 29 .u16 (mergeS fOr (mergeS fNot xs ys) (mergeS fAnd xs ys)))) (by intro u1 u2 w e hu1 hu2; (try obtain rfl : u1 = _ := hu1); (try obtain rfl : u2 = _ := hu2); exact (or_c _ _ _ (mergeS fNot xs ys) (mergeS fAnd xs ys) (by first | exact hu1 | exact hu2 | exact hu3 | exact hu4 | exact hu5 | exact OwnI.slI hu1 | exact OwnI.slI hu2 | exact OwnI.slI hu3 | exact SlI.ext (by assumption) e | exact OwnI.slI (OwnI.ext (by assumption) e)) (by first | exact hu1 | exact hu2 | exact hu3 | exact hu4 | exact hu5 | exact OwnI.slI hu1 | exact OwnI.slI hu2 | exact OwnI.slI hu3 | exact SlI.ext (by assumption) e | exact OwnI.slI (OwnI.ext (by assumption) e)) (by omega)).mono (ret_base e.size)) ?_)
            | (show LA _ _ _ _ (⟨_, .call ⟨.value (.func 14), _, _⟩, _, _, _, _⟩ :: _) _; refine LA_call2 (f := 14) rfl rfl rfl rfl  (.pred (ownI _ 29 .u16 (mergeS fAnd (mergeS fNot xs ys) ys))) (by intro u1 u2 w e hu1 hu2; (try obtain rfl : u1 = _ := hu1); (try obtain rfl : u2 = _ := hu2); exact (and_c _ _ _ (mergeS fNot xs ys) ys (by first | exact hu1 | exact hu2 | exact hu3 | exact hu4 | exact hu5 | exact OwnI.slI hu1 | exact OwnI.slI hu2 | exact OwnI.slI hu3 | exact SlI.ext (by assumption) e | exact OwnI.slI (OwnI.ext (by assumption) e)) (by first | exact hu1 | exact hu2 | exact hu3 | exact hu4 | exact hu5 | exact OwnI.slI hu1 | exact OwnI.slI hu2 | exact OwnI.slI hu3 | exact SlI.ext (by assumption) e | exact OwnI.slI (OwnI.ext (by assumption) e)) (by omega)).mono (ret_base e.size)) ?_)
            | (show LA _ _ _ _ (⟨_, .call ⟨.value (.func 15), _, _⟩, _, _, _, _⟩ :: _) _; refine LA_call2 (f := 15) rfl rfl rfl rfl  (.pred (ownI _ 29 .u16 (mergeS fXor (mergeS fXor xs ys) ys))) (by intro u1 u2 w e hu1 hu2; (try obtain rfl : u1 = _ := hu1); (try obtain rfl : u2 = _ := hu2); exact (xor_c _ _ _ (mergeS fXor xs ys) ys (by first | exact hu1 | exact hu2 | exact hu3 | exact hu4 | exact hu5 | exact OwnI.slI hu1 | exact OwnI.slI hu2 | exact OwnI.slI hu3 | exact SlI.ext (by assumption) e | exact OwnI.slI (OwnI.ext (by assumption) e)) (by first | exact hu1 | exact hu2 | exact hu3 | exact hu4 | exact hu5 | exact OwnI.slI hu1 | exact OwnI.slI hu2 | exact OwnI.slI hu3 | exact SlI.ext (by assumption) e | exact OwnI.slI (OwnI.ext (by assumption) e)) (by omega)).mono (ret_base e.size)) ?_)
            | (show LA _ _ _ _ (⟨_, .call ⟨.value (.func 9), _, _⟩, _, _, _, _⟩ :: _) _; refine LA_call0 (f := 9) rfl rfl  (.val (.bool true)) (by intro w e; exact known_c _) ?_))
        | (refine LA_nil (hK [] _ (LX_nil ?_)); clear hK K)
        | (refine LA_nil (hK _ ?_); clear hK K))
      | (show CX _ _ _ _ _ _; first
        | refine CX_seq ?_
        | refine CX_skip ?_
        | refine CX_block ?_
        | refine CX_exit ?_
        | refine CX_ret ?_
        | refine CX_condT rfl ?_
        | refine CX_condF rfl ?_
        | refine CX_region (by kernel_rfl) (fun K hK => ?_)
        | refine CX_regionA (by kernel_rfl) (by kernel_rfl) (fun K hK => ?_)
        | refine CX_label ?_
        | refine CX_scope ?_)
      | (show PX _ _ _ _ _; first
        | refine PX_then ?_
        | refine PX_thenX ?_
        | refine PX_thenR ?_
        | refine PX_blockN ?_
        | refine PX_blockR ?_
        | refine PX_blockX ?_
        | refine PX_blockO (by decide) ?_
        | refine PX_scopeN ?_
        | refine PX_scopeR ?_
        | refine PX_scopeX ?_
        | exact PX_retE rfl rfl qz rfl)
      | (show LX _ _ _ _ _ _ _; first
        | refine LX_nil ?_))
  · exact PX_rnd 1 (by omega) (by omega) (by repeat' (first | exact Sub.nil | refine Sub.val rfl (by first | with_reducible rfl | (congr 1; omega)) ?_ | refine Sub.same rfl ?_))
  · exact PX_rnd 2 (by omega) (by omega) (by repeat' (first | exact Sub.nil | refine Sub.val rfl (by first | with_reducible rfl | (congr 1; omega)) ?_ | refine Sub.same rfl ?_))
  · exact PX_rnd 3 (by omega) (by omega) (by repeat' (first | exact Sub.nil | refine Sub.val rfl (by first | with_reducible rfl | (congr 1; omega)) ?_ | refine Sub.same rfl ?_))
  · exact PX_rnd 4 (by omega) (by omega) (by repeat' (first | exact Sub.nil | refine Sub.val rfl (by first | with_reducible rfl | (congr 1; omega)) ?_ | refine Sub.same rfl ?_))
end Go.Proofs.Ytbabdbiolofjdaa
