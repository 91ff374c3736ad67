import Derived.Test.YtbabdbiolofjdaaA3
set_option linter.unusedSimpArgs false
set_option linter.unusedVariables false
namespace Go.Proofs.Ytbabdbiolofjdaa
open Go.LA Go.ArrP Go.RowKit

theorem or_c (w : World) (va vb : Value) (xs ys : List Int) (ha : SlI .u16 w va xs) (hb : SlI .u16 w vb ys) (hlen : xs.length + ys.length ≤ 70368744177663) :
    Fc Try.prog 13 #[va, vb] w (Ret w (.pred (ownI w.heap.size 29 .u16 (mergeS fOr xs ys)))) := by
  refine Fc.of (args := [_, _]) Try.func13 rfl rfl Try.ntmps13 (Nat.le_of_ble_eq_true rfl) ?_
  repeat' (first
    | (show LA _ _ _ _ _ _; first
      | refine LA_pass rfl ?_
      | (show LA _ _ _ _ (⟨_, .move _, _, _, _, _⟩ :: _) _; first
          | refine LA_moveV rfl rfl ?_
          | refine LA_moveP rfl rfl ?_
          | refine LA_moveT rfl rfl ?_
          | refine LA_moveU rfl rfl ?_)
      | (show LA _ _ _ _ (⟨_, .assign _, _, _, _, _⟩ :: _) _; first
          | refine LA_assignV rfl rfl ?_
          | refine LA_assignP rfl rfl ?_
          | refine LA_assignT rfl rfl ?_)
      | (show LA _ _ _ _ (⟨_, .pick _ _ _, _, _, _, _⟩ :: _) _; first
          | refine LA_pickTV rfl rfl rfl ?_
          | refine LA_pickFV rfl rfl rfl ?_)
      | (show LA _ _ _ _ (⟨_, .unOp .not _ _, _, _, _, _⟩ :: _) _; first
          | refine LA_notT rfl rfl ?_
          | refine LA_notF rfl rfl ?_
          | refine LA_not rfl rfl ?_)
      | (show LA _ _ _ _ (⟨_, .extract _ _, _, _, _, _⟩ :: _) _; first
          | refine LA_ext0 rfl rfl ?_
          | refine LA_ext1 rfl rfl ?_
          | refine LA_ext30 rfl rfl ?_
          | refine LA_ext31 rfl rfl ?_
          | refine LA_ext32 rfl rfl ?_)
      | (show LA _ _ _ _ (⟨_, .binOp .add _ _ _ _, _, _, _, _⟩ :: _) _; first
          | refine LA_addF rfl rfl rfl (by dsimp only [fits]; omega) ?_
          | refine LA_addW rfl rfl rfl ?_)
      | (show LA _ _ _ _ (⟨_, .binOp .sub _ _ _ _, _, _, _, _⟩ :: _) _; first
          | refine LA_subF rfl rfl rfl (by dsimp only [fits]; omega) ?_
          | refine LA_subW rfl rfl rfl ?_)
      | (show LA _ _ _ _ (⟨_, .binOp .mul _ _ _ _, _, _, _, _⟩ :: _) _; first
          | refine LA_mulF rfl rfl rfl (by dsimp only [fits]; omega) ?_
          | refine LA_mulW rfl rfl rfl ?_)
      | (show LA _ _ _ _ (⟨_, .binOp .quo _ _ _ _, _, _, _, _⟩ :: _) _; first
          | refine LA_quo rfl rfl rfl (by omega) (by omega) (by dsimp only [fits]; omega) ?_)
      | (show LA _ _ _ _ (⟨_, .binOp .rem _ _ _ _, _, _, _, _⟩ :: _) _; first
          | refine LA_rem rfl rfl rfl (by omega) (by omega) (by dsimp only [fits]; omega) ?_)
      | (show LA _ _ _ _ (⟨_, .binOp .shr _ _ _ _, _, _, _, _⟩ :: _) _; first
          | (refine LA_shr rfl rfl rfl (by omega) (by dsimp only [IntKind.bits]; omega) ?_; try dsimp only [Int.reduceToNat, Int.reducePow]))
      | (show LA _ _ _ _ (⟨_, .binOp .shl _ _ _ _, _, _, _, _⟩ :: _) _; first
          | (refine LA_shl rfl rfl rfl (by omega) (by dsimp only [IntKind.bits]; omega) ?_; try dsimp only [Int.reduceToNat, Int.reducePow]))
      | (show LA _ _ _ _ (⟨_, .binOp _ _ _ _ _, _, _, _, _⟩ :: _) _; first
          | refine LA_cmpT rfl rfl rfl rfl (by first | (dsimp only [cmpP]; done) | (dsimp only [cmpP]; omega)) ?_
          | refine LA_cmpF rfl rfl rfl rfl (by dsimp only [cmpP]; omega) ?_
          | (refine LA_cmp rfl rfl rfl rfl (fun hc => ?_) (fun hc => ?_) <;> dsimp only [cmpP] at hc)
          | refine LA_boolEqT rfl rfl rfl rfl (by first | rfl | assumption) ?_
          | refine LA_boolEqF rfl rfl rfl rfl (by first | assumption | decide) ?_
          | refine LA_boolEq rfl rfl rfl rfl ?_
          | refine LA_boolNeT rfl rfl rfl rfl (by first | assumption | decide) ?_
          | refine LA_boolNeF rfl rfl rfl rfl (by first | rfl | assumption) ?_
          | refine LA_boolNe rfl rfl rfl rfl ?_)
      | (show LA _ _ _ _ (⟨_, .indexAddr _ _ _, _, _, _, _⟩ :: _) _; first
          | refine LA_indexN rfl _ rfl (fun _ => rfl) rfl (by first | exact HasI.val (by assumption) | exact HasI.pred | exact HasI.own | exact HasI.ownV (by assumption)) rfl (by omega) ?_
          | (refine LA_index rfl _ rfl (fun _ => rfl) rfl (by first | exact HasI.val (by assumption) | exact HasI.pred | exact HasI.own | exact HasI.ownV (by assumption)) rfl (by omega) (by omega) ?_; try dsimp only [Int.reduceToNat]))
      | (show LA _ _ _ _ (⟨_, .load _ _, _, _, _, _⟩ :: _) _; first
          | refine LA_load rfl (fun _ => rfl) rfl ?_)
      | (show LA _ _ _ _ (⟨_, .convert _ _ _, _, _, _, _⟩ :: _) _; first
          | refine LA_convF rfl rfl rfl rfl (by dsimp only [fits]; omega) ?_
          | refine LA_conv rfl rfl rfl rfl ?_)
      | (show LA _ _ _ _ (⟨_, .slice _ _ _ _ _, _, _, _, _⟩ :: _) _; first
          | (refine LA_sliceL rfl _ rfl rfl (by first | exact (HasI.val (by assumption)).c | exact HasI.pred.c | exact HasC.val (by assumption) | exact HasC.pred | exact HasI.own.c | exact HasC.own | exact (HasI.ownV (by assumption)).c | exact HasC.ownV (by assumption)) rfl (by omega) (by omega) (by exact fun _ => rfl) ?_; try dsimp only [Int.reduceToNat, Int.toNat_natCast])
          | (refine LA_sliceH rfl _ rfl rfl (by first | exact (HasI.val (by assumption)).c | exact HasI.pred.c | exact HasC.val (by assumption) | exact HasC.pred | exact HasI.own.c | exact HasC.own | exact (HasI.ownV (by assumption)).c | exact HasC.ownV (by assumption)) rfl (by omega) (by omega) (by exact fun _ => rfl) ?_; try dsimp only [Int.reduceToNat, Int.toNat_natCast])
          | (refine LA_sliceLH rfl _ rfl rfl (by first | exact (HasI.val (by assumption)).c | exact HasI.pred.c | exact HasC.val (by assumption) | exact HasC.pred | exact HasI.own.c | exact HasC.own | exact (HasI.ownV (by assumption)).c | exact HasC.ownV (by assumption)) rfl rfl (by omega) (by omega) (by omega) (by exact fun _ => rfl) ?_; try dsimp only [Int.reduceToNat, Int.toNat_natCast]))
      | (show LA _ _ _ _ (⟨_, .call ⟨.builtin .len, _, _⟩, _, _, _, _⟩ :: _) _; first
          | refine LA_len rfl _ rfl rfl (by first | exact (HasI.val (by assumption)).c | exact HasI.pred.c | exact HasC.val (by assumption) | exact HasC.pred | exact HasI.own.c | exact HasC.own | exact (HasI.ownV (by assumption)).c | exact HasC.ownV (by assumption)) ?_)
      | (show LA _ _ _ _ (⟨_, .call ⟨.value _, _, _⟩, _, _, _, _⟩ :: _) _; first
          | (show LA _ _ _ _ (⟨_, .call ⟨.value (.func 25), _, _⟩, _, _, _, _⟩ :: _) _; refine LA_call3 (f := 25) rfl rfl rfl rfl rfl  (.pred (ownI w.heap.size 29 .u16 (mergeS fOr xs ys))) (by intro u1 u2 u3 w e hu1 hu2 hu3; (try obtain rfl : u1 = _ := hu1); (try obtain rfl : u2 = _ := hu2); (try obtain rfl : u3 = _ := hu3); exact (merge_c fOr _ or1_c _ _ _ xs ys (by first | exact hu1 | exact hu2 | exact hu3 | exact hu4 | exact hu5 | exact OwnI.slI hu1 | exact OwnI.slI hu2 | exact OwnI.slI hu3 | exact SlI.ext (by assumption) e | exact OwnI.slI (OwnI.ext (by assumption) e)) (by first | exact hu1 | exact hu2 | exact hu3 | exact hu4 | exact hu5 | exact OwnI.slI hu1 | exact OwnI.slI hu2 | exact OwnI.slI hu3 | exact SlI.ext (by assumption) e | exact OwnI.slI (OwnI.ext (by assumption) e)) hlen).mono (ret_base e.size)) ?_))
      | (refine LA_nil (hK [] _ (LX_nil ?_)); clear hK K)
      | (refine LA_nil (hK _ ?_); clear hK K))
    | (show CX _ _ _ _ _ _; first
      | refine CX_seq ?_
      | refine CX_skip ?_
      | refine CX_block ?_
      | refine CX_exit ?_
      | refine CX_ret ?_
      | refine CX_condT rfl ?_
      | refine CX_condF rfl ?_
      | refine CX_region (by kernel_rfl) (fun K hK => ?_)
      | refine CX_regionA (by kernel_rfl) (by kernel_rfl) (fun K hK => ?_)
      | refine CX_label ?_
      | refine CX_scope ?_)
    | (show PX _ _ _ _ _; first
      | refine PX_then ?_
      | refine PX_thenX ?_
      | refine PX_thenR ?_
      | refine PX_blockN ?_
      | refine PX_blockR ?_
      | refine PX_blockX ?_
      | refine PX_blockO (by decide) ?_
      | refine PX_scopeN ?_
      | refine PX_scopeR ?_
      | refine PX_scopeX ?_)
    | (show LX _ _ _ _ _ _ _; first
      | refine LX_nil ?_))
  exact PX_retP rfl rfl (Ext.refl _) (fun _ _ _ h => h)
theorem and_c (w : World) (va vb : Value) (xs ys : List Int) (ha : SlI .u16 w va xs) (hb : SlI .u16 w vb ys) (hlen : xs.length + ys.length ≤ 70368744177663) :
    Fc Try.prog 14 #[va, vb] w (Ret w (.pred (ownI w.heap.size 29 .u16 (mergeS fAnd xs ys)))) := by
  refine Fc.of (args := [_, _]) Try.func14 rfl rfl Try.ntmps14 (Nat.le_of_ble_eq_true rfl) ?_
  repeat' (first
    | (show LA _ _ _ _ _ _; first
      | refine LA_pass rfl ?_
      | (show LA _ _ _ _ (⟨_, .move _, _, _, _, _⟩ :: _) _; first
          | refine LA_moveV rfl rfl ?_
          | refine LA_moveP rfl rfl ?_
          | refine LA_moveT rfl rfl ?_
          | refine LA_moveU rfl rfl ?_)
      | (show LA _ _ _ _ (⟨_, .assign _, _, _, _, _⟩ :: _) _; first
          | refine LA_assignV rfl rfl ?_
          | refine LA_assignP rfl rfl ?_
          | refine LA_assignT rfl rfl ?_)
      | (show LA _ _ _ _ (⟨_, .pick _ _ _, _, _, _, _⟩ :: _) _; first
          | refine LA_pickTV rfl rfl rfl ?_
          | refine LA_pickFV rfl rfl rfl ?_)
      | (show LA _ _ _ _ (⟨_, .unOp .not _ _, _, _, _, _⟩ :: _) _; first
          | refine LA_notT rfl rfl ?_
          | refine LA_notF rfl rfl ?_
          | refine LA_not rfl rfl ?_)
      | (show LA _ _ _ _ (⟨_, .extract _ _, _, _, _, _⟩ :: _) _; first
          | refine LA_ext0 rfl rfl ?_
          | refine LA_ext1 rfl rfl ?_
          | refine LA_ext30 rfl rfl ?_
          | refine LA_ext31 rfl rfl ?_
          | refine LA_ext32 rfl rfl ?_)
      | (show LA _ _ _ _ (⟨_, .binOp .add _ _ _ _, _, _, _, _⟩ :: _) _; first
          | refine LA_addF rfl rfl rfl (by dsimp only [fits]; omega) ?_
          | refine LA_addW rfl rfl rfl ?_)
      | (show LA _ _ _ _ (⟨_, .binOp .sub _ _ _ _, _, _, _, _⟩ :: _) _; first
          | refine LA_subF rfl rfl rfl (by dsimp only [fits]; omega) ?_
          | refine LA_subW rfl rfl rfl ?_)
      | (show LA _ _ _ _ (⟨_, .binOp .mul _ _ _ _, _, _, _, _⟩ :: _) _; first
          | refine LA_mulF rfl rfl rfl (by dsimp only [fits]; omega) ?_
          | refine LA_mulW rfl rfl rfl ?_)
      | (show LA _ _ _ _ (⟨_, .binOp .quo _ _ _ _, _, _, _, _⟩ :: _) _; first
          | refine LA_quo rfl rfl rfl (by omega) (by omega) (by dsimp only [fits]; omega) ?_)
      | (show LA _ _ _ _ (⟨_, .binOp .rem _ _ _ _, _, _, _, _⟩ :: _) _; first
          | refine LA_rem rfl rfl rfl (by omega) (by omega) (by dsimp only [fits]; omega) ?_)
      | (show LA _ _ _ _ (⟨_, .binOp .shr _ _ _ _, _, _, _, _⟩ :: _) _; first
          | (refine LA_shr rfl rfl rfl (by omega) (by dsimp only [IntKind.bits]; omega) ?_; try dsimp only [Int.reduceToNat, Int.reducePow]))
      | (show LA _ _ _ _ (⟨_, .binOp .shl _ _ _ _, _, _, _, _⟩ :: _) _; first
          | (refine LA_shl rfl rfl rfl (by omega) (by dsimp only [IntKind.bits]; omega) ?_; try dsimp only [Int.reduceToNat, Int.reducePow]))
      | (show LA _ _ _ _ (⟨_, .binOp _ _ _ _ _, _, _, _, _⟩ :: _) _; first
          | refine LA_cmpT rfl rfl rfl rfl (by first | (dsimp only [cmpP]; done) | (dsimp only [cmpP]; omega)) ?_
          | refine LA_cmpF rfl rfl rfl rfl (by dsimp only [cmpP]; omega) ?_
          | (refine LA_cmp rfl rfl rfl rfl (fun hc => ?_) (fun hc => ?_) <;> dsimp only [cmpP] at hc)
          | refine LA_boolEqT rfl rfl rfl rfl (by first | rfl | assumption) ?_
          | refine LA_boolEqF rfl rfl rfl rfl (by first | assumption | decide) ?_
          | refine LA_boolEq rfl rfl rfl rfl ?_
          | refine LA_boolNeT rfl rfl rfl rfl (by first | assumption | decide) ?_
          | refine LA_boolNeF rfl rfl rfl rfl (by first | rfl | assumption) ?_
          | refine LA_boolNe rfl rfl rfl rfl ?_)
      | (show LA _ _ _ _ (⟨_, .indexAddr _ _ _, _, _, _, _⟩ :: _) _; first
          | refine LA_indexN rfl _ rfl (fun _ => rfl) rfl (by first | exact HasI.val (by assumption) | exact HasI.pred | exact HasI.own | exact HasI.ownV (by assumption)) rfl (by omega) ?_
          | (refine LA_index rfl _ rfl (fun _ => rfl) rfl (by first | exact HasI.val (by assumption) | exact HasI.pred | exact HasI.own | exact HasI.ownV (by assumption)) rfl (by omega) (by omega) ?_; try dsimp only [Int.reduceToNat]))
      | (show LA _ _ _ _ (⟨_, .load _ _, _, _, _, _⟩ :: _) _; first
          | refine LA_load rfl (fun _ => rfl) rfl ?_)
      | (show LA _ _ _ _ (⟨_, .convert _ _ _, _, _, _, _⟩ :: _) _; first
          | refine LA_convF rfl rfl rfl rfl (by dsimp only [fits]; omega) ?_
          | refine LA_conv rfl rfl rfl rfl ?_)
      | (show LA _ _ _ _ (⟨_, .slice _ _ _ _ _, _, _, _, _⟩ :: _) _; first
          | (refine LA_sliceL rfl _ rfl rfl (by first | exact (HasI.val (by assumption)).c | exact HasI.pred.c | exact HasC.val (by assumption) | exact HasC.pred | exact HasI.own.c | exact HasC.own | exact (HasI.ownV (by assumption)).c | exact HasC.ownV (by assumption)) rfl (by omega) (by omega) (by exact fun _ => rfl) ?_; try dsimp only [Int.reduceToNat, Int.toNat_natCast])
          | (refine LA_sliceH rfl _ rfl rfl (by first | exact (HasI.val (by assumption)).c | exact HasI.pred.c | exact HasC.val (by assumption) | exact HasC.pred | exact HasI.own.c | exact HasC.own | exact (HasI.ownV (by assumption)).c | exact HasC.ownV (by assumption)) rfl (by omega) (by omega) (by exact fun _ => rfl) ?_; try dsimp only [Int.reduceToNat, Int.toNat_natCast])
          | (refine LA_sliceLH rfl _ rfl rfl (by first | exact (HasI.val (by assumption)).c | exact HasI.pred.c | exact HasC.val (by assumption) | exact HasC.pred | exact HasI.own.c | exact HasC.own | exact (HasI.ownV (by assumption)).c | exact HasC.ownV (by assumption)) rfl rfl (by omega) (by omega) (by omega) (by exact fun _ => rfl) ?_; try dsimp only [Int.reduceToNat, Int.toNat_natCast]))
      | (show LA _ _ _ _ (⟨_, .call ⟨.builtin .len, _, _⟩, _, _, _, _⟩ :: _) _; first
          | refine LA_len rfl _ rfl rfl (by first | exact (HasI.val (by assumption)).c | exact HasI.pred.c | exact HasC.val (by assumption) | exact HasC.pred | exact HasI.own.c | exact HasC.own | exact (HasI.ownV (by assumption)).c | exact HasC.ownV (by assumption)) ?_)
      | (show LA _ _ _ _ (⟨_, .call ⟨.value _, _, _⟩, _, _, _, _⟩ :: _) _; first
          | (show LA _ _ _ _ (⟨_, .call ⟨.value (.func 25), _, _⟩, _, _, _, _⟩ :: _) _; refine LA_call3 (f := 25) rfl rfl rfl rfl rfl  (.pred (ownI w.heap.size 29 .u16 (mergeS fAnd xs ys))) (by intro u1 u2 u3 w e hu1 hu2 hu3; (try obtain rfl : u1 = _ := hu1); (try obtain rfl : u2 = _ := hu2); (try obtain rfl : u3 = _ := hu3); exact (merge_c fAnd _ and1_c _ _ _ xs ys (by first | exact hu1 | exact hu2 | exact hu3 | exact hu4 | exact hu5 | exact OwnI.slI hu1 | exact OwnI.slI hu2 | exact OwnI.slI hu3 | exact SlI.ext (by assumption) e | exact OwnI.slI (OwnI.ext (by assumption) e)) (by first | exact hu1 | exact hu2 | exact hu3 | exact hu4 | exact hu5 | exact OwnI.slI hu1 | exact OwnI.slI hu2 | exact OwnI.slI hu3 | exact SlI.ext (by assumption) e | exact OwnI.slI (OwnI.ext (by assumption) e)) hlen).mono (ret_base e.size)) ?_))
      | (refine LA_nil (hK [] _ (LX_nil ?_)); clear hK K)
      | (refine LA_nil (hK _ ?_); clear hK K))
    | (show CX _ _ _ _ _ _; first
      | refine CX_seq ?_
      | refine CX_skip ?_
      | refine CX_block ?_
      | refine CX_exit ?_
      | refine CX_ret ?_
      | refine CX_condT rfl ?_
      | refine CX_condF rfl ?_
      | refine CX_region (by kernel_rfl) (fun K hK => ?_)
      | refine CX_regionA (by kernel_rfl) (by kernel_rfl) (fun K hK => ?_)
      | refine CX_label ?_
      | refine CX_scope ?_)
    | (show PX _ _ _ _ _; first
      | refine PX_then ?_
      | refine PX_thenX ?_
      | refine PX_thenR ?_
      | refine PX_blockN ?_
      | refine PX_blockR ?_
      | refine PX_blockX ?_
      | refine PX_blockO (by decide) ?_
      | refine PX_scopeN ?_
      | refine PX_scopeR ?_
      | refine PX_scopeX ?_)
    | (show LX _ _ _ _ _ _ _; first
      | refine LX_nil ?_))
  exact PX_retP rfl rfl (Ext.refl _) (fun _ _ _ h => h)
theorem xor_c (w : World) (va vb : Value) (xs ys : List Int) (ha : SlI .u16 w va xs) (hb : SlI .u16 w vb ys) (hlen : xs.length + ys.length ≤ 70368744177663) :
    Fc Try.prog 15 #[va, vb] w (Ret w (.pred (ownI w.heap.size 29 .u16 (mergeS fXor xs ys)))) := by
  refine Fc.of (args := [_, _]) Try.func15 rfl rfl Try.ntmps15 (Nat.le_of_ble_eq_true rfl) ?_
  repeat' (first
    | (show LA _ _ _ _ _ _; first
      | refine LA_pass rfl ?_
      | (show LA _ _ _ _ (⟨_, .move _, _, _, _, _⟩ :: _) _; first
          | refine LA_moveV rfl rfl ?_
          | refine LA_moveP rfl rfl ?_
          | refine LA_moveT rfl rfl ?_
          | refine LA_moveU rfl rfl ?_)
      | (show LA _ _ _ _ (⟨_, .assign _, _, _, _, _⟩ :: _) _; first
          | refine LA_assignV rfl rfl ?_
          | refine LA_assignP rfl rfl ?_
          | refine LA_assignT rfl rfl ?_)
      | (show LA _ _ _ _ (⟨_, .pick _ _ _, _, _, _, _⟩ :: _) _; first
          | refine LA_pickTV rfl rfl rfl ?_
          | refine LA_pickFV rfl rfl rfl ?_)
      | (show LA _ _ _ _ (⟨_, .unOp .not _ _, _, _, _, _⟩ :: _) _; first
          | refine LA_notT rfl rfl ?_
          | refine LA_notF rfl rfl ?_
          | refine LA_not rfl rfl ?_)
      | (show LA _ _ _ _ (⟨_, .extract _ _, _, _, _, _⟩ :: _) _; first
          | refine LA_ext0 rfl rfl ?_
          | refine LA_ext1 rfl rfl ?_
          | refine LA_ext30 rfl rfl ?_
          | refine LA_ext31 rfl rfl ?_
          | refine LA_ext32 rfl rfl ?_)
      | (show LA _ _ _ _ (⟨_, .binOp .add _ _ _ _, _, _, _, _⟩ :: _) _; first
          | refine LA_addF rfl rfl rfl (by dsimp only [fits]; omega) ?_
          | refine LA_addW rfl rfl rfl ?_)
      | (show LA _ _ _ _ (⟨_, .binOp .sub _ _ _ _, _, _, _, _⟩ :: _) _; first
          | refine LA_subF rfl rfl rfl (by dsimp only [fits]; omega) ?_
          | refine LA_subW rfl rfl rfl ?_)
      | (show LA _ _ _ _ (⟨_, .binOp .mul _ _ _ _, _, _, _, _⟩ :: _) _; first
          | refine LA_mulF rfl rfl rfl (by dsimp only [fits]; omega) ?_
          | refine LA_mulW rfl rfl rfl ?_)
      | (show LA _ _ _ _ (⟨_, .binOp .quo _ _ _ _, _, _, _, _⟩ :: _) _; first
          | refine LA_quo rfl rfl rfl (by omega) (by omega) (by dsimp only [fits]; omega) ?_)
      | (show LA _ _ _ _ (⟨_, .binOp .rem _ _ _ _, _, _, _, _⟩ :: _) _; first
          | refine LA_rem rfl rfl rfl (by omega) (by omega) (by dsimp only [fits]; omega) ?_)
      | (show LA _ _ _ _ (⟨_, .binOp .shr _ _ _ _, _, _, _, _⟩ :: _) _; first
          | (refine LA_shr rfl rfl rfl (by omega) (by dsimp only [IntKind.bits]; omega) ?_; try dsimp only [Int.reduceToNat, Int.reducePow]))
      | (show LA _ _ _ _ (⟨_, .binOp .shl _ _ _ _, _, _, _, _⟩ :: _) _; first
          | (refine LA_shl rfl rfl rfl (by omega) (by dsimp only [IntKind.bits]; omega) ?_; try dsimp only [Int.reduceToNat, Int.reducePow]))
      | (show LA _ _ _ _ (⟨_, .binOp _ _ _ _ _, _, _, _, _⟩ :: _) _; first
          | refine LA_cmpT rfl rfl rfl rfl (by first | (dsimp only [cmpP]; done) | (dsimp only [cmpP]; omega)) ?_
          | refine LA_cmpF rfl rfl rfl rfl (by dsimp only [cmpP]; omega) ?_
          | (refine LA_cmp rfl rfl rfl rfl (fun hc => ?_) (fun hc => ?_) <;> dsimp only [cmpP] at hc)
          | refine LA_boolEqT rfl rfl rfl rfl (by first | rfl | assumption) ?_
          | refine LA_boolEqF rfl rfl rfl rfl (by first | assumption | decide) ?_
          | refine LA_boolEq rfl rfl rfl rfl ?_
          | refine LA_boolNeT rfl rfl rfl rfl (by first | assumption | decide) ?_
          | refine LA_boolNeF rfl rfl rfl rfl (by first | rfl | assumption) ?_
          | refine LA_boolNe rfl rfl rfl rfl ?_)
      | (show LA _ _ _ _ (⟨_, .indexAddr _ _ _, _, _, _, _⟩ :: _) _; first
          | refine LA_indexN rfl _ rfl (fun _ => rfl) rfl (by first | exact HasI.val (by assumption) | exact HasI.pred | exact HasI.own | exact HasI.ownV (by assumption)) rfl (by omega) ?_
          | (refine LA_index rfl _ rfl (fun _ => rfl) rfl (by first | exact HasI.val (by assumption) | exact HasI.pred | exact HasI.own | exact HasI.ownV (by assumption)) rfl (by omega) (by omega) ?_; try dsimp only [Int.reduceToNat]))
      | (show LA _ _ _ _ (⟨_, .load _ _, _, _, _, _⟩ :: _) _; first
          | refine LA_load rfl (fun _ => rfl) rfl ?_)
      | (show LA _ _ _ _ (⟨_, .convert _ _ _, _, _, _, _⟩ :: _) _; first
          | refine LA_convF rfl rfl rfl rfl (by dsimp only [fits]; omega) ?_
          | refine LA_conv rfl rfl rfl rfl ?_)
      | (show LA _ _ _ _ (⟨_, .slice _ _ _ _ _, _, _, _, _⟩ :: _) _; first
          | (refine LA_sliceL rfl _ rfl rfl (by first | exact (HasI.val (by assumption)).c | exact HasI.pred.c | exact HasC.val (by assumption) | exact HasC.pred | exact HasI.own.c | exact HasC.own | exact (HasI.ownV (by assumption)).c | exact HasC.ownV (by assumption)) rfl (by omega) (by omega) (by exact fun _ => rfl) ?_; try dsimp only [Int.reduceToNat, Int.toNat_natCast])
          | (refine LA_sliceH rfl _ rfl rfl (by first | exact (HasI.val (by assumption)).c | exact HasI.pred.c | exact HasC.val (by assumption) | exact HasC.pred | exact HasI.own.c | exact HasC.own | exact (HasI.ownV (by assumption)).c | exact HasC.ownV (by assumption)) rfl (by omega) (by omega) (by exact fun _ => rfl) ?_; try dsimp only [Int.reduceToNat, Int.toNat_natCast])
          | (refine LA_sliceLH rfl _ rfl rfl (by first | exact (HasI.val (by assumption)).c | exact HasI.pred.c | exact HasC.val (by assumption) | exact HasC.pred | exact HasI.own.c | exact HasC.own | exact (HasI.ownV (by assumption)).c | exact HasC.ownV (by assumption)) rfl rfl (by omega) (by omega) (by omega) (by exact fun _ => rfl) ?_; try dsimp only [Int.reduceToNat, Int.toNat_natCast]))
      | (show LA _ _ _ _ (⟨_, .call ⟨.builtin .len, _, _⟩, _, _, _, _⟩ :: _) _; first
          | refine LA_len rfl _ rfl rfl (by first | exact (HasI.val (by assumption)).c | exact HasI.pred.c | exact HasC.val (by assumption) | exact HasC.pred | exact HasI.own.c | exact HasC.own | exact (HasI.ownV (by assumption)).c | exact HasC.ownV (by assumption)) ?_)
      | (show LA _ _ _ _ (⟨_, .call ⟨.value _, _, _⟩, _, _, _, _⟩ :: _) _; first
          | (show LA _ _ _ _ (⟨_, .call ⟨.value (.func 25), _, _⟩, _, _, _, _⟩ :: _) _; refine LA_call3 (f := 25) rfl rfl rfl rfl rfl  (.pred (ownI w.heap.size 29 .u16 (mergeS fXor xs ys))) (by intro u1 u2 u3 w e hu1 hu2 hu3; (try obtain rfl : u1 = _ := hu1); (try obtain rfl : u2 = _ := hu2); (try obtain rfl : u3 = _ := hu3); exact (merge_c fXor _ xor1_c _ _ _ xs ys (by first | exact hu1 | exact hu2 | exact hu3 | exact hu4 | exact hu5 | exact OwnI.slI hu1 | exact OwnI.slI hu2 | exact OwnI.slI hu3 | exact SlI.ext (by assumption) e | exact OwnI.slI (OwnI.ext (by assumption) e)) (by first | exact hu1 | exact hu2 | exact hu3 | exact hu4 | exact hu5 | exact OwnI.slI hu1 | exact OwnI.slI hu2 | exact OwnI.slI hu3 | exact SlI.ext (by assumption) e | exact OwnI.slI (OwnI.ext (by assumption) e)) hlen).mono (ret_base e.size)) ?_))
      | (refine LA_nil (hK [] _ (LX_nil ?_)); clear hK K)
      | (refine LA_nil (hK _ ?_); clear hK K))
    | (show CX _ _ _ _ _ _; first
      | refine CX_seq ?_
      | refine CX_skip ?_
      | refine CX_block ?_
      | refine CX_exit ?_
      | refine CX_ret ?_
      | refine CX_condT rfl ?_
      | refine CX_condF rfl ?_
      | refine CX_region (by kernel_rfl) (fun K hK => ?_)
      | refine CX_regionA (by kernel_rfl) (by kernel_rfl) (fun K hK => ?_)
      | refine CX_label ?_
      | refine CX_scope ?_)
    | (show PX _ _ _ _ _; first
      | refine PX_then ?_
      | refine PX_thenX ?_
      | refine PX_thenR ?_
      | refine PX_blockN ?_
      | refine PX_blockR ?_
      | refine PX_blockX ?_
      | refine PX_blockO (by decide) ?_
      | refine PX_scopeN ?_
      | refine PX_scopeR ?_
      | refine PX_scopeX ?_)
    | (show LX _ _ _ _ _ _ _; first
      | refine LX_nil ?_))
  exact PX_retP rfl rfl (Ext.refl _) (fun _ _ _ h => h)
theorem andnot_c (w : World) (va vb : Value) (xs ys : List Int) (ha : SlI .u16 w va xs) (hb : SlI .u16 w vb ys) (hlen : xs.length + ys.length ≤ 70368744177663) :
    Fc Try.prog 16 #[va, vb] w (Ret w (.pred (ownI w.heap.size 29 .u16 (mergeS fNot xs ys)))) := by
  refine Fc.of (args := [_, _]) Try.func16 rfl rfl Try.ntmps16 (Nat.le_of_ble_eq_true rfl) ?_
  repeat' (first
    | (show LA _ _ _ _ _ _; first
      | refine LA_pass rfl ?_
      | (show LA _ _ _ _ (⟨_, .move _, _, _, _, _⟩ :: _) _; first
          | refine LA_moveV rfl rfl ?_
          | refine LA_moveP rfl rfl ?_
          | refine LA_moveT rfl rfl ?_
          | refine LA_moveU rfl rfl ?_)
      | (show LA _ _ _ _ (⟨_, .assign _, _, _, _, _⟩ :: _) _; first
          | refine LA_assignV rfl rfl ?_
          | refine LA_assignP rfl rfl ?_
          | refine LA_assignT rfl rfl ?_)
      | (show LA _ _ _ _ (⟨_, .pick _ _ _, _, _, _, _⟩ :: _) _; first
          | refine LA_pickTV rfl rfl rfl ?_
          | refine LA_pickFV rfl rfl rfl ?_)
      | (show LA _ _ _ _ (⟨_, .unOp .not _ _, _, _, _, _⟩ :: _) _; first
          | refine LA_notT rfl rfl ?_
          | refine LA_notF rfl rfl ?_
          | refine LA_not rfl rfl ?_)
      | (show LA _ _ _ _ (⟨_, .extract _ _, _, _, _, _⟩ :: _) _; first
          | refine LA_ext0 rfl rfl ?_
          | refine LA_ext1 rfl rfl ?_
          | refine LA_ext30 rfl rfl ?_
          | refine LA_ext31 rfl rfl ?_
          | refine LA_ext32 rfl rfl ?_)
      | (show LA _ _ _ _ (⟨_, .binOp .add _ _ _ _, _, _, _, _⟩ :: _) _; first
          | refine LA_addF rfl rfl rfl (by dsimp only [fits]; omega) ?_
          | refine LA_addW rfl rfl rfl ?_)
      | (show LA _ _ _ _ (⟨_, .binOp .sub _ _ _ _, _, _, _, _⟩ :: _) _; first
          | refine LA_subF rfl rfl rfl (by dsimp only [fits]; omega) ?_
          | refine LA_subW rfl rfl rfl ?_)
      | (show LA _ _ _ _ (⟨_, .binOp .mul _ _ _ _, _, _, _, _⟩ :: _) _; first
          | refine LA_mulF rfl rfl rfl (by dsimp only [fits]; omega) ?_
          | refine LA_mulW rfl rfl rfl ?_)
      | (show LA _ _ _ _ (⟨_, .binOp .quo _ _ _ _, _, _, _, _⟩ :: _) _; first
          | refine LA_quo rfl rfl rfl (by omega) (by omega) (by dsimp only [fits]; omega) ?_)
      | (show LA _ _ _ _ (⟨_, .binOp .rem _ _ _ _, _, _, _, _⟩ :: _) _; first
          | refine LA_rem rfl rfl rfl (by omega) (by omega) (by dsimp only [fits]; omega) ?_)
      | (show LA _ _ _ _ (⟨_, .binOp .shr _ _ _ _, _, _, _, _⟩ :: _) _; first
          | (refine LA_shr rfl rfl rfl (by omega) (by dsimp only [IntKind.bits]; omega) ?_; try dsimp only [Int.reduceToNat, Int.reducePow]))
      | (show LA _ _ _ _ (⟨_, .binOp .shl _ _ _ _, _, _, _, _⟩ :: _) _; first
          | (refine LA_shl rfl rfl rfl (by omega) (by dsimp only [IntKind.bits]; omega) ?_; try dsimp only [Int.reduceToNat, Int.reducePow]))
      | (show LA _ _ _ _ (⟨_, .binOp _ _ _ _ _, _, _, _, _⟩ :: _) _; first
          | refine LA_cmpT rfl rfl rfl rfl (by first | (dsimp only [cmpP]; done) | (dsimp only [cmpP]; omega)) ?_
          | refine LA_cmpF rfl rfl rfl rfl (by dsimp only [cmpP]; omega) ?_
          | (refine LA_cmp rfl rfl rfl rfl (fun hc => ?_) (fun hc => ?_) <;> dsimp only [cmpP] at hc)
          | refine LA_boolEqT rfl rfl rfl rfl (by first | rfl | assumption) ?_
          | refine LA_boolEqF rfl rfl rfl rfl (by first | assumption | decide) ?_
          | refine LA_boolEq rfl rfl rfl rfl ?_
          | refine LA_boolNeT rfl rfl rfl rfl (by first | assumption | decide) ?_
          | refine LA_boolNeF rfl rfl rfl rfl (by first | rfl | assumption) ?_
          | refine LA_boolNe rfl rfl rfl rfl ?_)
      | (show LA _ _ _ _ (⟨_, .indexAddr _ _ _, _, _, _, _⟩ :: _) _; first
          | refine LA_indexN rfl _ rfl (fun _ => rfl) rfl (by first | exact HasI.val (by assumption) | exact HasI.pred | exact HasI.own | exact HasI.ownV (by assumption)) rfl (by omega) ?_
          | (refine LA_index rfl _ rfl (fun _ => rfl) rfl (by first | exact HasI.val (by assumption) | exact HasI.pred | exact HasI.own | exact HasI.ownV (by assumption)) rfl (by omega) (by omega) ?_; try dsimp only [Int.reduceToNat]))
      | (show LA _ _ _ _ (⟨_, .load _ _, _, _, _, _⟩ :: _) _; first
          | refine LA_load rfl (fun _ => rfl) rfl ?_)
      | (show LA _ _ _ _ (⟨_, .convert _ _ _, _, _, _, _⟩ :: _) _; first
          | refine LA_convF rfl rfl rfl rfl (by dsimp only [fits]; omega) ?_
          | refine LA_conv rfl rfl rfl rfl ?_)
      | (show LA _ _ _ _ (⟨_, .slice _ _ _ _ _, _, _, _, _⟩ :: _) _; first
          | (refine LA_sliceL rfl _ rfl rfl (by first | exact (HasI.val (by assumption)).c | exact HasI.pred.c | exact HasC.val (by assumption) | exact HasC.pred | exact HasI.own.c | exact HasC.own | exact (HasI.ownV (by assumption)).c | exact HasC.ownV (by assumption)) rfl (by omega) (by omega) (by exact fun _ => rfl) ?_; try dsimp only [Int.reduceToNat, Int.toNat_natCast])
          | (refine LA_sliceH rfl _ rfl rfl (by first | exact (HasI.val (by assumption)).c | exact HasI.pred.c | exact HasC.val (by assumption) | exact HasC.pred | exact HasI.own.c | exact HasC.own | exact (HasI.ownV (by assumption)).c | exact HasC.ownV (by assumption)) rfl (by omega) (by omega) (by exact fun _ => rfl) ?_; try dsimp only [Int.reduceToNat, Int.toNat_natCast])
          | (refine LA_sliceLH rfl _ rfl rfl (by first | exact (HasI.val (by assumption)).c | exact HasI.pred.c | exact HasC.val (by assumption) | exact HasC.pred | exact HasI.own.c | exact HasC.own | exact (HasI.ownV (by assumption)).c | exact HasC.ownV (by assumption)) rfl rfl (by omega) (by omega) (by omega) (by exact fun _ => rfl) ?_; try dsimp only [Int.reduceToNat, Int.toNat_natCast]))
      | (show LA _ _ _ _ (⟨_, .call ⟨.builtin .len, _, _⟩, _, _, _, _⟩ :: _) _; first
          | refine LA_len rfl _ rfl rfl (by first | exact (HasI.val (by assumption)).c | exact HasI.pred.c | exact HasC.val (by assumption) | exact HasC.pred | exact HasI.own.c | exact HasC.own | exact (HasI.ownV (by assumption)).c | exact HasC.ownV (by assumption)) ?_)
      | (show LA _ _ _ _ (⟨_, .call ⟨.value _, _, _⟩, _, _, _, _⟩ :: _) _; first
          | (show LA _ _ _ _ (⟨_, .call ⟨.value (.func 25), _, _⟩, _, _, _, _⟩ :: _) _; refine LA_call3 (f := 25) rfl rfl rfl rfl rfl  (.pred (ownI w.heap.size 29 .u16 (mergeS fNot xs ys))) (by intro u1 u2 u3 w e hu1 hu2 hu3; (try obtain rfl : u1 = _ := hu1); (try obtain rfl : u2 = _ := hu2); (try obtain rfl : u3 = _ := hu3); exact (merge_c fNot _ not1_c _ _ _ xs ys (by first | exact hu1 | exact hu2 | exact hu3 | exact hu4 | exact hu5 | exact OwnI.slI hu1 | exact OwnI.slI hu2 | exact OwnI.slI hu3 | exact SlI.ext (by assumption) e | exact OwnI.slI (OwnI.ext (by assumption) e)) (by first | exact hu1 | exact hu2 | exact hu3 | exact hu4 | exact hu5 | exact OwnI.slI hu1 | exact OwnI.slI hu2 | exact OwnI.slI hu3 | exact SlI.ext (by assumption) e | exact OwnI.slI (OwnI.ext (by assumption) e)) hlen).mono (ret_base e.size)) ?_))
      | (refine LA_nil (hK [] _ (LX_nil ?_)); clear hK K)
      | (refine LA_nil (hK _ ?_); clear hK K))
    | (show CX _ _ _ _ _ _; first
      | refine CX_seq ?_
      | refine CX_skip ?_
      | refine CX_block ?_
      | refine CX_exit ?_
      | refine CX_ret ?_
      | refine CX_condT rfl ?_
      | refine CX_condF rfl ?_
      | refine CX_region (by kernel_rfl) (fun K hK => ?_)
      | refine CX_regionA (by kernel_rfl) (by kernel_rfl) (fun K hK => ?_)
      | refine CX_label ?_
      | refine CX_scope ?_)
    | (show PX _ _ _ _ _; first
      | refine PX_then ?_
      | refine PX_thenX ?_
      | refine PX_thenR ?_
      | refine PX_blockN ?_
      | refine PX_blockR ?_
      | refine PX_blockX ?_
      | refine PX_blockO (by decide) ?_
      | refine PX_scopeN ?_
      | refine PX_scopeR ?_
      | refine PX_scopeX ?_)
    | (show LX _ _ _ _ _ _ _; first
      | refine LX_nil ?_))
  exact PX_retP rfl rfl (Ext.refl _) (fun _ _ _ h => h)
end Go.Proofs.Ytbabdbiolofjdaa
