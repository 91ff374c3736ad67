import Derived.Test.YtbabdbiolofjdaaA11
set_option linter.unusedSimpArgs false
set_option linter.unusedVariables false
namespace Go.Proofs.Ytbabdbiolofjdaa
open Go.LA Go.ArrP Go.RowKit
set_option maxHeartbeats 2000000 in
theorem runslaw_c (w : World) (va vb : Value) (xs ys : List Int) (x : Int) (ha : SlI .u16 w va xs) (hb : SlI .u16 w vb ys) (hl : Low xs) (hl' : Low ys) (hx : 0 ≤ x ∧ x < 65536) : Fc Try.prog 6 #[va, vb, .int .u16 x] w (Ret w (.val (.bool true))) := by
  refine Fc.of (args := [_, _, _]) Try.func6 rfl rfl Try.ntmps6 (Nat.le_of_ble_eq_true rfl) ?_
  have hwl := withS_len xs x
  have l1 := merge_len fOr xs ys
  by_cases hi : Inc xs ∧ Inc ys
  · obtain ⟨hi1, hi2⟩ := hi
    have hm := runs_more (x := x) hi1 hl hx.1 hx.2
    have ho := runs_or hi1 hi2 hl hl'
    repeat' (first
      | (show LA _ _ _ _ _ _; first
        | refine LA_pass rfl ?_
        | (show LA _ _ _ _ (⟨_, .move _, _, _, _, _⟩ :: _) _; first
            | refine LA_moveV rfl rfl ?_
            | refine LA_moveP rfl rfl ?_
            | refine LA_moveT rfl rfl ?_
            | refine LA_moveU rfl rfl ?_)
        | (show LA _ _ _ _ (⟨_, .assign _, _, _, _, _⟩ :: _) _; first
            | refine LA_assignV rfl rfl ?_
            | refine LA_assignP rfl rfl ?_
            | refine LA_assignT rfl rfl ?_)
        | (show LA _ _ _ _ (⟨_, .pick _ _ _, _, _, _, _⟩ :: _) _; first
            | refine LA_pickTV rfl rfl rfl ?_
            | refine LA_pickFV rfl rfl rfl ?_)
        | (show LA _ _ _ _ (⟨_, .unOp .not _ _, _, _, _, _⟩ :: _) _; first
            | refine LA_notT rfl rfl ?_
            | refine LA_notF rfl rfl ?_
            | refine LA_not rfl rfl ?_)
        | (show LA _ _ _ _ (⟨_, .extract _ _, _, _, _, _⟩ :: _) _; first
            | refine LA_ext0 rfl rfl ?_
            | refine LA_ext1 rfl rfl ?_
            | refine LA_ext30 rfl rfl ?_
            | refine LA_ext31 rfl rfl ?_
            | refine LA_ext32 rfl rfl ?_)
        | (show LA _ _ _ _ (⟨_, .binOp .add _ _ _ _, _, _, _, _⟩ :: _) _; first
            | refine LA_addF rfl rfl rfl (by dsimp only [fits]; omega) ?_
            | refine LA_addW rfl rfl rfl ?_)
        | (show LA _ _ _ _ (⟨_, .binOp .sub _ _ _ _, _, _, _, _⟩ :: _) _; first
            | refine LA_subF rfl rfl rfl (by dsimp only [fits]; omega) ?_
            | refine LA_subW rfl rfl rfl ?_)
        | (show LA _ _ _ _ (⟨_, .binOp .mul _ _ _ _, _, _, _, _⟩ :: _) _; first
            | refine LA_mulF rfl rfl rfl (by dsimp only [fits]; omega) ?_
            | refine LA_mulW rfl rfl rfl ?_)
        | (show LA _ _ _ _ (⟨_, .binOp .quo _ _ _ _, _, _, _, _⟩ :: _) _; first
            | refine LA_quo rfl rfl rfl (by omega) (by omega) (by dsimp only [fits]; omega) ?_)
        | (show LA _ _ _ _ (⟨_, .binOp .rem _ _ _ _, _, _, _, _⟩ :: _) _; first
            | refine LA_rem rfl rfl rfl (by omega) (by omega) (by dsimp only [fits]; omega) ?_)
        | (show LA _ _ _ _ (⟨_, .binOp .shr _ _ _ _, _, _, _, _⟩ :: _) _; first
            | (refine LA_shr rfl rfl rfl (by omega) (by dsimp only [IntKind.bits]; omega) ?_; try dsimp only [Int.reduceToNat, Int.reducePow]))
        | (show LA _ _ _ _ (⟨_, .binOp .shl _ _ _ _, _, _, _, _⟩ :: _) _; first
            | (refine LA_shl rfl rfl rfl (by omega) (by dsimp only [IntKind.bits]; omega) ?_; try dsimp only [Int.reduceToNat, Int.reducePow]))
        | (show LA _ _ _ _ (⟨_, .binOp _ _ _ _ _, _, _, _, _⟩ :: _) _; first
            | refine LA_cmpT rfl rfl rfl rfl (by first | (dsimp only [cmpP]; done) | (dsimp only [cmpP]; omega)) ?_
            | refine LA_cmpF rfl rfl rfl rfl (by dsimp only [cmpP]; omega) ?_
            | (refine LA_cmp rfl rfl rfl rfl (fun hc => ?_) (fun hc => ?_) <;> dsimp only [cmpP] at hc)
            | refine LA_boolEqT rfl rfl rfl rfl (by first | rfl | assumption) ?_
            | refine LA_boolEqF rfl rfl rfl rfl (by first | assumption | decide) ?_
            | refine LA_boolEq rfl rfl rfl rfl ?_
            | refine LA_boolNeT rfl rfl rfl rfl (by first | assumption | decide) ?_
            | refine LA_boolNeF rfl rfl rfl rfl (by first | rfl | assumption) ?_
            | refine LA_boolNe rfl rfl rfl rfl ?_)
        | (show LA _ _ _ _ (⟨_, .indexAddr _ _ _, _, _, _, _⟩ :: _) _; first
            | refine LA_indexN rfl _ rfl (fun _ => rfl) rfl (by first | exact HasI.val (by assumption) | exact HasI.pred | exact HasI.own | exact HasI.ownV (by assumption)) rfl (by omega) ?_
            | (refine LA_index rfl _ rfl (fun _ => rfl) rfl (by first | exact HasI.val (by assumption) | exact HasI.pred | exact HasI.own | exact HasI.ownV (by assumption)) rfl (by omega) (by omega) ?_; try dsimp only [Int.reduceToNat]))
        | (show LA _ _ _ _ (⟨_, .load _ _, _, _, _, _⟩ :: _) _; first
            | refine LA_load rfl (fun _ => rfl) rfl ?_)
        | (show LA _ _ _ _ (⟨_, .convert _ _ _, _, _, _, _⟩ :: _) _; first
            | refine LA_convF rfl rfl rfl rfl (by dsimp only [fits]; omega) ?_
            | refine LA_conv rfl rfl rfl rfl ?_)
        | (show LA _ _ _ _ (⟨_, .slice _ _ _ _ _, _, _, _, _⟩ :: _) _; first
            | (refine LA_sliceL rfl _ rfl rfl (by first | exact (HasI.val (by assumption)).c | exact HasI.pred.c | exact HasC.val (by assumption) | exact HasC.pred | exact HasI.own.c | exact HasC.own | exact (HasI.ownV (by assumption)).c | exact HasC.ownV (by assumption)) rfl (by omega) (by omega) (by exact fun _ => rfl) ?_; try dsimp only [Int.reduceToNat, Int.toNat_natCast])
            | (refine LA_sliceH rfl _ rfl rfl (by first | exact (HasI.val (by assumption)).c | exact HasI.pred.c | exact HasC.val (by assumption) | exact HasC.pred | exact HasI.own.c | exact HasC.own | exact (HasI.ownV (by assumption)).c | exact HasC.ownV (by assumption)) rfl (by omega) (by omega) (by exact fun _ => rfl) ?_; try dsimp only [Int.reduceToNat, Int.toNat_natCast])
            | (refine LA_sliceLH rfl _ rfl rfl (by first | exact (HasI.val (by assumption)).c | exact HasI.pred.c | exact HasC.val (by assumption) | exact HasC.pred | exact HasI.own.c | exact HasC.own | exact (HasI.ownV (by assumption)).c | exact HasC.ownV (by assumption)) rfl rfl (by omega) (by omega) (by omega) (by exact fun _ => rfl) ?_; try dsimp only [Int.reduceToNat, Int.toNat_natCast]))
        | (show LA _ _ _ _ (⟨_, .call ⟨.builtin .len, _, _⟩, _, _, _, _⟩ :: _) _; first
            | refine LA_len rfl _ rfl rfl (by first | exact (HasI.val (by assumption)).c | exact HasI.pred.c | exact HasC.val (by assumption) | exact HasC.pred | exact HasI.own.c | exact HasC.own | exact (HasI.ownV (by assumption)).c | exact HasC.ownV (by assumption)) ?_)
        | (show LA _ _ _ _ (⟨_, .call ⟨.value _, _, _⟩, _, _, _, _⟩ :: _) _; first
            | (show LA _ _ _ _ (⟨_, .call ⟨.value (.func 8), _, _⟩, _, _, _, _⟩ :: _) _; refine LA_call1 (f := 8) rfl rfl rfl  (.val (.bool true)) (by intro u1 w e hu1; (try obtain rfl : u1 = _ := hu1); exact ret_true (rmay_c _ _ xs (by first | exact hu1 | exact hu2 | exact hu3 | exact hu4 | exact hu5 | exact OwnI.slI hu1 | exact OwnI.slI hu2 | exact OwnI.slI hu3 | exact SlI.ext (by assumption) e | exact OwnI.slI (OwnI.ext (by assumption) e))) (decide_eq_true hi1)) ?_)
            | (show LA _ _ _ _ (⟨_, .call ⟨.value (.func 8), _, _⟩, _, _, _, _⟩ :: _) _; refine LA_call1 (f := 8) rfl rfl rfl  (.val (.bool true)) (by intro u1 w e hu1; (try obtain rfl : u1 = _ := hu1); exact ret_true (rmay_c _ _ ys (by first | exact hu1 | exact hu2 | exact hu3 | exact hu4 | exact hu5 | exact OwnI.slI hu1 | exact OwnI.slI hu2 | exact OwnI.slI hu3 | exact SlI.ext (by assumption) e | exact OwnI.slI (OwnI.ext (by assumption) e))) (decide_eq_true hi2)) ?_)
            | (show LA _ _ _ _ (⟨_, .call ⟨.value (.func 9), _, _⟩, _, _, _, _⟩ :: _) _; refine LA_call0 (f := 9) rfl rfl  (.val (.bool true)) (by intro w e; exact known_c _) ?_))
        | (refine LA_nil (hK [] _ (LX_nil ?_)); clear hK K)
        | (refine LA_nil (hK _ ?_); clear hK K))
      | (show CX _ _ _ _ _ _; first
        | refine CX_seq ?_
        | refine CX_skip ?_
        | refine CX_block ?_
        | refine CX_exit ?_
        | refine CX_ret ?_
        | refine CX_condT rfl ?_
        | refine CX_condF rfl ?_
        | refine CX_region (by kernel_rfl) (fun K hK => ?_)
        | refine CX_regionA (by kernel_rfl) (by kernel_rfl) (fun K hK => ?_)
        | refine CX_label ?_
        | refine CX_scope ?_)
      | (show PX _ _ _ _ _; first
        | refine PX_then ?_
        | refine PX_thenX ?_
        | refine PX_thenR ?_
        | refine PX_blockN ?_
        | refine PX_blockR ?_
        | refine PX_blockX ?_
        | refine PX_blockO (by decide) ?_
        | refine PX_scopeN ?_
        | refine PX_scopeR ?_
        | refine PX_scopeX ?_
        | exact PX_retE rfl rfl (Ext.refl _) rfl)
      | (show LX _ _ _ _ _ _ _; first
        | refine LX_nil ?_))
    refine CX_loop (ι := Nat) (fun k => [(0, .val va), (1, .val vb), (2, .val (.int .u16 x)), (7, .val (.int .i64 (runsTo xs k))), (32, .val va), (33, .val (.int .i64 xs.length)), (34, .val (.int .i64 k))]) (fun k => k ≤ xs.length) (fun k => xs.length - k) 0 (by omega) (by repeat' (first | exact Sub.nil | refine Sub.val rfl (by first | with_reducible rfl | (congr 1; omega)) ?_ | refine Sub.same rfl ?_)) ?_
    intro k hk
    have hrl := runsTo_le xs k
    have hrs := runsTo_succ xs k
    by_cases hkl : k < xs.length
    · have hxk : 0 ≤ xs.getD k 0 ∧ xs.getD k 0 < 65536 := by rw [getD_eq hkl]; exact hl _ (List.getElem_mem hkl)
      have hra := runAt_eq hi1 hl hkl
      by_cases h0 : xs.getD k 0 = 0
      · rw [hra.2 (.inl h0)] at hrs; simp only [if_true] at hrs
        repeat' (first
          | (show LA _ _ _ _ _ _; first
            | refine LA_pass rfl ?_
            | (show LA _ _ _ _ (⟨_, .move _, _, _, _, _⟩ :: _) _; first
                | refine LA_moveV rfl rfl ?_
                | refine LA_moveP rfl rfl ?_
                | refine LA_moveT rfl rfl ?_
                | refine LA_moveU rfl rfl ?_)
            | (show LA _ _ _ _ (⟨_, .assign _, _, _, _, _⟩ :: _) _; first
                | refine LA_assignV rfl rfl ?_
                | refine LA_assignP rfl rfl ?_
                | refine LA_assignT rfl rfl ?_)
            | (show LA _ _ _ _ (⟨_, .pick _ _ _, _, _, _, _⟩ :: _) _; first
                | refine LA_pickTV rfl rfl rfl ?_
                | refine LA_pickFV rfl rfl rfl ?_)
            | (show LA _ _ _ _ (⟨_, .unOp .not _ _, _, _, _, _⟩ :: _) _; first
                | refine LA_notT rfl rfl ?_
                | refine LA_notF rfl rfl ?_
                | refine LA_not rfl rfl ?_)
            | (show LA _ _ _ _ (⟨_, .extract _ _, _, _, _, _⟩ :: _) _; first
                | refine LA_ext0 rfl rfl ?_
                | refine LA_ext1 rfl rfl ?_
                | refine LA_ext30 rfl rfl ?_
                | refine LA_ext31 rfl rfl ?_
                | refine LA_ext32 rfl rfl ?_)
            | (show LA _ _ _ _ (⟨_, .binOp .add _ _ _ _, _, _, _, _⟩ :: _) _; first
                | refine LA_addF rfl rfl rfl (by dsimp only [fits]; omega) ?_
                | refine LA_addW rfl rfl rfl ?_)
            | (show LA _ _ _ _ (⟨_, .binOp .sub _ _ _ _, _, _, _, _⟩ :: _) _; first
                | refine LA_subF rfl rfl rfl (by dsimp only [fits]; omega) ?_
                | refine LA_subW rfl rfl rfl ?_)
            | (show LA _ _ _ _ (⟨_, .binOp .mul _ _ _ _, _, _, _, _⟩ :: _) _; first
                | refine LA_mulF rfl rfl rfl (by dsimp only [fits]; omega) ?_
                | refine LA_mulW rfl rfl rfl ?_)
            | (show LA _ _ _ _ (⟨_, .binOp .quo _ _ _ _, _, _, _, _⟩ :: _) _; first
                | refine LA_quo rfl rfl rfl (by omega) (by omega) (by dsimp only [fits]; omega) ?_)
            | (show LA _ _ _ _ (⟨_, .binOp .rem _ _ _ _, _, _, _, _⟩ :: _) _; first
                | refine LA_rem rfl rfl rfl (by omega) (by omega) (by dsimp only [fits]; omega) ?_)
            | (show LA _ _ _ _ (⟨_, .binOp .shr _ _ _ _, _, _, _, _⟩ :: _) _; first
                | (refine LA_shr rfl rfl rfl (by omega) (by dsimp only [IntKind.bits]; omega) ?_; try dsimp only [Int.reduceToNat, Int.reducePow]))
            | (show LA _ _ _ _ (⟨_, .binOp .shl _ _ _ _, _, _, _, _⟩ :: _) _; first
                | (refine LA_shl rfl rfl rfl (by omega) (by dsimp only [IntKind.bits]; omega) ?_; try dsimp only [Int.reduceToNat, Int.reducePow]))
            | (show LA _ _ _ _ (⟨_, .binOp _ _ _ _ _, _, _, _, _⟩ :: _) _; first
                | refine LA_cmpT rfl rfl rfl rfl (by first | (dsimp only [cmpP]; done) | (dsimp only [cmpP]; omega)) ?_
                | refine LA_cmpF rfl rfl rfl rfl (by dsimp only [cmpP]; omega) ?_
                | (refine LA_cmp rfl rfl rfl rfl (fun hc => ?_) (fun hc => ?_) <;> dsimp only [cmpP] at hc)
                | refine LA_boolEqT rfl rfl rfl rfl (by first | rfl | assumption) ?_
                | refine LA_boolEqF rfl rfl rfl rfl (by first | assumption | decide) ?_
                | refine LA_boolEq rfl rfl rfl rfl ?_
                | refine LA_boolNeT rfl rfl rfl rfl (by first | assumption | decide) ?_
                | refine LA_boolNeF rfl rfl rfl rfl (by first | rfl | assumption) ?_
                | refine LA_boolNe rfl rfl rfl rfl ?_)
            | (show LA _ _ _ _ (⟨_, .indexAddr _ _ _, _, _, _, _⟩ :: _) _; first
                | refine LA_indexN rfl _ rfl (fun _ => rfl) rfl (by first | exact HasI.val (by assumption) | exact HasI.pred | exact HasI.own | exact HasI.ownV (by assumption)) rfl (by omega) ?_
                | (refine LA_index rfl _ rfl (fun _ => rfl) rfl (by first | exact HasI.val (by assumption) | exact HasI.pred | exact HasI.own | exact HasI.ownV (by assumption)) rfl (by omega) (by omega) ?_; try dsimp only [Int.reduceToNat]))
            | (show LA _ _ _ _ (⟨_, .load _ _, _, _, _, _⟩ :: _) _; first
                | refine LA_load rfl (fun _ => rfl) rfl ?_)
            | (show LA _ _ _ _ (⟨_, .convert _ _ _, _, _, _, _⟩ :: _) _; first
                | refine LA_convF rfl rfl rfl rfl (by dsimp only [fits]; omega) ?_
                | refine LA_conv rfl rfl rfl rfl ?_)
            | (show LA _ _ _ _ (⟨_, .slice _ _ _ _ _, _, _, _, _⟩ :: _) _; first
                | (refine LA_sliceL rfl _ rfl rfl (by first | exact (HasI.val (by assumption)).c | exact HasI.pred.c | exact HasC.val (by assumption) | exact HasC.pred | exact HasI.own.c | exact HasC.own | exact (HasI.ownV (by assumption)).c | exact HasC.ownV (by assumption)) rfl (by omega) (by omega) (by exact fun _ => rfl) ?_; try dsimp only [Int.reduceToNat, Int.toNat_natCast])
                | (refine LA_sliceH rfl _ rfl rfl (by first | exact (HasI.val (by assumption)).c | exact HasI.pred.c | exact HasC.val (by assumption) | exact HasC.pred | exact HasI.own.c | exact HasC.own | exact (HasI.ownV (by assumption)).c | exact HasC.ownV (by assumption)) rfl (by omega) (by omega) (by exact fun _ => rfl) ?_; try dsimp only [Int.reduceToNat, Int.toNat_natCast])
                | (refine LA_sliceLH rfl _ rfl rfl (by first | exact (HasI.val (by assumption)).c | exact HasI.pred.c | exact HasC.val (by assumption) | exact HasC.pred | exact HasI.own.c | exact HasC.own | exact (HasI.ownV (by assumption)).c | exact HasC.ownV (by assumption)) rfl rfl (by omega) (by omega) (by omega) (by exact fun _ => rfl) ?_; try dsimp only [Int.reduceToNat, Int.toNat_natCast]))
            | (show LA _ _ _ _ (⟨_, .call ⟨.builtin .len, _, _⟩, _, _, _, _⟩ :: _) _; first
                | refine LA_len rfl _ rfl rfl (by first | exact (HasI.val (by assumption)).c | exact HasI.pred.c | exact HasC.val (by assumption) | exact HasC.pred | exact HasI.own.c | exact HasC.own | exact (HasI.ownV (by assumption)).c | exact HasC.ownV (by assumption)) ?_)
            | (refine LA_nil (hK [] _ (LX_nil ?_)); clear hK K)
            | (refine LA_nil (hK _ ?_); clear hK K))
          | (show CX _ _ _ _ _ _; first
            | refine CX_seq ?_
            | refine CX_skip ?_
            | refine CX_block ?_
            | refine CX_exit ?_
            | refine CX_ret ?_
            | refine CX_condT rfl ?_
            | refine CX_condF rfl ?_
            | refine CX_region (by kernel_rfl) (fun K hK => ?_)
            | refine CX_regionA (by kernel_rfl) (by kernel_rfl) (fun K hK => ?_)
            | refine CX_label ?_
            | refine CX_scope ?_)
          | (show PX _ _ _ _ _; first
            | refine PX_then ?_
            | refine PX_thenX ?_
            | refine PX_thenR ?_
            | refine PX_blockN ?_
            | refine PX_blockR ?_
            | refine PX_blockX ?_
            | refine PX_blockO (by decide) ?_
            | refine PX_scopeN ?_
            | refine PX_scopeR ?_
            | refine PX_scopeX ?_)
          | (show LX _ _ _ _ _ _ _; first
            | refine LX_nil ?_))
        refine PX_rnd (k + 1) ?_ ?_ (by repeat' (first | exact Sub.nil | refine Sub.val rfl (by first | with_reducible rfl | (congr 1; omega)) ?_ | refine Sub.same rfl ?_))
        · omega
        · omega
      · have hf := found_iff (xs.getD k 0 - 1) hi1
        by_cases hm1 : (xs.getD k 0 - 1) ∈ xs
        · have hr0 : runAt xs k = false := Bool.eq_false_iff.2 fun h => (hra.1 h).elim h0 (fun h => h hm1)
          rw [hr0] at hrs; simp only [Bool.false_eq_true, if_false] at hrs
          rw [decide_eq_true hm1] at hf
          repeat' (first
            | (show LA _ _ _ _ _ _; first
              | refine LA_pass rfl ?_
              | (show LA _ _ _ _ (⟨_, .move _, _, _, _, _⟩ :: _) _; first
                  | refine LA_moveV rfl rfl ?_
                  | refine LA_moveP rfl rfl ?_
                  | refine LA_moveT rfl rfl ?_
                  | refine LA_moveU rfl rfl ?_)
              | (show LA _ _ _ _ (⟨_, .assign _, _, _, _, _⟩ :: _) _; first
                  | refine LA_assignV rfl rfl ?_
                  | refine LA_assignP rfl rfl ?_
                  | refine LA_assignT rfl rfl ?_)
              | (show LA _ _ _ _ (⟨_, .pick _ _ _, _, _, _, _⟩ :: _) _; first
                  | refine LA_pickTV rfl rfl rfl ?_
                  | refine LA_pickFV rfl rfl rfl ?_)
              | (show LA _ _ _ _ (⟨_, .unOp .not _ _, _, _, _, _⟩ :: _) _; first
                  | refine LA_notT rfl rfl ?_
                  | refine LA_notF rfl rfl ?_
                  | refine LA_not rfl rfl ?_)
              | (show LA _ _ _ _ (⟨_, .extract _ _, _, _, _, _⟩ :: _) _; first
                  | refine LA_ext0 rfl rfl ?_
                  | refine LA_ext1 rfl rfl ?_
                  | refine LA_ext30 rfl rfl ?_
                  | refine LA_ext31 rfl rfl ?_
                  | refine LA_ext32 rfl rfl ?_)
              | (show LA _ _ _ _ (⟨_, .binOp .add _ _ _ _, _, _, _, _⟩ :: _) _; first
                  | refine LA_addF rfl rfl rfl (by dsimp only [fits]; omega) ?_
                  | refine LA_addW rfl rfl rfl ?_)
              | (show LA _ _ _ _ (⟨_, .binOp .sub _ _ _ _, _, _, _, _⟩ :: _) _; first
                  | refine LA_subF rfl rfl rfl (by dsimp only [fits]; omega) ?_
                  | refine LA_subW rfl rfl rfl ?_)
              | (show LA _ _ _ _ (⟨_, .binOp .mul _ _ _ _, _, _, _, _⟩ :: _) _; first
                  | refine LA_mulF rfl rfl rfl (by dsimp only [fits]; omega) ?_
                  | refine LA_mulW rfl rfl rfl ?_)
              | (show LA _ _ _ _ (⟨_, .binOp .quo _ _ _ _, _, _, _, _⟩ :: _) _; first
                  | refine LA_quo rfl rfl rfl (by omega) (by omega) (by dsimp only [fits]; omega) ?_)
              | (show LA _ _ _ _ (⟨_, .binOp .rem _ _ _ _, _, _, _, _⟩ :: _) _; first
                  | refine LA_rem rfl rfl rfl (by omega) (by omega) (by dsimp only [fits]; omega) ?_)
              | (show LA _ _ _ _ (⟨_, .binOp .shr _ _ _ _, _, _, _, _⟩ :: _) _; first
                  | (refine LA_shr rfl rfl rfl (by omega) (by dsimp only [IntKind.bits]; omega) ?_; try dsimp only [Int.reduceToNat, Int.reducePow]))
              | (show LA _ _ _ _ (⟨_, .binOp .shl _ _ _ _, _, _, _, _⟩ :: _) _; first
                  | (refine LA_shl rfl rfl rfl (by omega) (by dsimp only [IntKind.bits]; omega) ?_; try dsimp only [Int.reduceToNat, Int.reducePow]))
              | (show LA _ _ _ _ (⟨_, .binOp _ _ _ _ _, _, _, _, _⟩ :: _) _; first
                  | refine LA_cmpT rfl rfl rfl rfl (by first | (dsimp only [cmpP]; done) | (dsimp only [cmpP]; omega)) ?_
                  | refine LA_cmpF rfl rfl rfl rfl (by dsimp only [cmpP]; omega) ?_
                  | (refine LA_cmp rfl rfl rfl rfl (fun hc => ?_) (fun hc => ?_) <;> dsimp only [cmpP] at hc)
                  | refine LA_boolEqT rfl rfl rfl rfl (by first | rfl | assumption) ?_
                  | refine LA_boolEqF rfl rfl rfl rfl (by first | assumption | decide) ?_
                  | refine LA_boolEq rfl rfl rfl rfl ?_
                  | refine LA_boolNeT rfl rfl rfl rfl (by first | assumption | decide) ?_
                  | refine LA_boolNeF rfl rfl rfl rfl (by first | rfl | assumption) ?_
                  | refine LA_boolNe rfl rfl rfl rfl ?_)
              | (show LA _ _ _ _ (⟨_, .indexAddr _ _ _, _, _, _, _⟩ :: _) _; first
                  | refine LA_indexN rfl _ rfl (fun _ => rfl) rfl (by first | exact HasI.val (by assumption) | exact HasI.pred | exact HasI.own | exact HasI.ownV (by assumption)) rfl (by omega) ?_
                  | (refine LA_index rfl _ rfl (fun _ => rfl) rfl (by first | exact HasI.val (by assumption) | exact HasI.pred | exact HasI.own | exact HasI.ownV (by assumption)) rfl (by omega) (by omega) ?_; try dsimp only [Int.reduceToNat]))
              | (show LA _ _ _ _ (⟨_, .load _ _, _, _, _, _⟩ :: _) _; first
                  | refine LA_load rfl (fun _ => rfl) rfl ?_)
              | (show LA _ _ _ _ (⟨_, .convert _ _ _, _, _, _, _⟩ :: _) _; first
                  | refine LA_convF rfl rfl rfl rfl (by dsimp only [fits]; omega) ?_
                  | refine LA_conv rfl rfl rfl rfl ?_)
              | (show LA _ _ _ _ (⟨_, .slice _ _ _ _ _, _, _, _, _⟩ :: _) _; first
                  | (refine LA_sliceL rfl _ rfl rfl (by first | exact (HasI.val (by assumption)).c | exact HasI.pred.c | exact HasC.val (by assumption) | exact HasC.pred | exact HasI.own.c | exact HasC.own | exact (HasI.ownV (by assumption)).c | exact HasC.ownV (by assumption)) rfl (by omega) (by omega) (by exact fun _ => rfl) ?_; try dsimp only [Int.reduceToNat, Int.toNat_natCast])
                  | (refine LA_sliceH rfl _ rfl rfl (by first | exact (HasI.val (by assumption)).c | exact HasI.pred.c | exact HasC.val (by assumption) | exact HasC.pred | exact HasI.own.c | exact HasC.own | exact (HasI.ownV (by assumption)).c | exact HasC.ownV (by assumption)) rfl (by omega) (by omega) (by exact fun _ => rfl) ?_; try dsimp only [Int.reduceToNat, Int.toNat_natCast])
                  | (refine LA_sliceLH rfl _ rfl rfl (by first | exact (HasI.val (by assumption)).c | exact HasI.pred.c | exact HasC.val (by assumption) | exact HasC.pred | exact HasI.own.c | exact HasC.own | exact (HasI.ownV (by assumption)).c | exact HasC.ownV (by assumption)) rfl rfl (by omega) (by omega) (by omega) (by exact fun _ => rfl) ?_; try dsimp only [Int.reduceToNat, Int.toNat_natCast]))
              | (show LA _ _ _ _ (⟨_, .call ⟨.builtin .len, _, _⟩, _, _, _, _⟩ :: _) _; first
                  | refine LA_len rfl _ rfl rfl (by first | exact (HasI.val (by assumption)).c | exact HasI.pred.c | exact HasC.val (by assumption) | exact HasC.pred | exact HasI.own.c | exact HasC.own | exact (HasI.ownV (by assumption)).c | exact HasC.ownV (by assumption)) ?_)
              | (show LA _ _ _ _ (⟨_, .call ⟨.value _, _, _⟩, _, _, _, _⟩ :: _) _; first
                  | (show LA _ _ _ _ (⟨_, .call ⟨.value (.func 17), _, _⟩, _, _, _, _⟩ :: _) _; refine LA_call2 (f := 17) rfl rfl rfl rfl  (.tup2 (.val (.int .i64 (bsS xs (xs.getD k 0 - 1)))) (.val (.bool true))) (by intro u1 u2 w e hu1 hu2; (try obtain rfl : u1 = _ := hu1); (try obtain rfl : u2 = _ := hu2); exact find_at (ha.ext e) (by omega) rfl hf) ?_))
              | (refine LA_nil (hK [] _ (LX_nil ?_)); clear hK K)
              | (refine LA_nil (hK _ ?_); clear hK K))
            | (show CX _ _ _ _ _ _; first
              | refine CX_seq ?_
              | refine CX_skip ?_
              | refine CX_block ?_
              | refine CX_exit ?_
              | refine CX_ret ?_
              | refine CX_condT rfl ?_
              | refine CX_condF rfl ?_
              | refine CX_region (by kernel_rfl) (fun K hK => ?_)
              | refine CX_regionA (by kernel_rfl) (by kernel_rfl) (fun K hK => ?_)
              | refine CX_label ?_
              | refine CX_scope ?_)
            | (show PX _ _ _ _ _; first
              | refine PX_then ?_
              | refine PX_thenX ?_
              | refine PX_thenR ?_
              | refine PX_blockN ?_
              | refine PX_blockR ?_
              | refine PX_blockX ?_
              | refine PX_blockO (by decide) ?_
              | refine PX_scopeN ?_
              | refine PX_scopeR ?_
              | refine PX_scopeX ?_)
            | (show LX _ _ _ _ _ _ _; first
              | refine LX_nil ?_))
          refine PX_rnd (k + 1) ?_ ?_ (by repeat' (first | exact Sub.nil | refine Sub.val rfl (by first | with_reducible rfl | (congr 1; omega)) ?_ | refine Sub.same rfl ?_))
          · omega
          · omega
        · have hr0 : runAt xs k = true := hra.2 (.inr hm1)
          rw [hr0] at hrs; simp only [if_true] at hrs
          rw [decide_eq_false hm1] at hf
          repeat' (first
            | (show LA _ _ _ _ _ _; first
              | refine LA_pass rfl ?_
              | (show LA _ _ _ _ (⟨_, .move _, _, _, _, _⟩ :: _) _; first
                  | refine LA_moveV rfl rfl ?_
                  | refine LA_moveP rfl rfl ?_
                  | refine LA_moveT rfl rfl ?_
                  | refine LA_moveU rfl rfl ?_)
              | (show LA _ _ _ _ (⟨_, .assign _, _, _, _, _⟩ :: _) _; first
                  | refine LA_assignV rfl rfl ?_
                  | refine LA_assignP rfl rfl ?_
                  | refine LA_assignT rfl rfl ?_)
              | (show LA _ _ _ _ (⟨_, .pick _ _ _, _, _, _, _⟩ :: _) _; first
                  | refine LA_pickTV rfl rfl rfl ?_
                  | refine LA_pickFV rfl rfl rfl ?_)
              | (show LA _ _ _ _ (⟨_, .unOp .not _ _, _, _, _, _⟩ :: _) _; first
                  | refine LA_notT rfl rfl ?_
                  | refine LA_notF rfl rfl ?_
                  | refine LA_not rfl rfl ?_)
              | (show LA _ _ _ _ (⟨_, .extract _ _, _, _, _, _⟩ :: _) _; first
                  | refine LA_ext0 rfl rfl ?_
                  | refine LA_ext1 rfl rfl ?_
                  | refine LA_ext30 rfl rfl ?_
                  | refine LA_ext31 rfl rfl ?_
                  | refine LA_ext32 rfl rfl ?_)
              | (show LA _ _ _ _ (⟨_, .binOp .add _ _ _ _, _, _, _, _⟩ :: _) _; first
                  | refine LA_addF rfl rfl rfl (by dsimp only [fits]; omega) ?_
                  | refine LA_addW rfl rfl rfl ?_)
              | (show LA _ _ _ _ (⟨_, .binOp .sub _ _ _ _, _, _, _, _⟩ :: _) _; first
                  | refine LA_subF rfl rfl rfl (by dsimp only [fits]; omega) ?_
                  | refine LA_subW rfl rfl rfl ?_)
              | (show LA _ _ _ _ (⟨_, .binOp .mul _ _ _ _, _, _, _, _⟩ :: _) _; first
                  | refine LA_mulF rfl rfl rfl (by dsimp only [fits]; omega) ?_
                  | refine LA_mulW rfl rfl rfl ?_)
              | (show LA _ _ _ _ (⟨_, .binOp .quo _ _ _ _, _, _, _, _⟩ :: _) _; first
                  | refine LA_quo rfl rfl rfl (by omega) (by omega) (by dsimp only [fits]; omega) ?_)
              | (show LA _ _ _ _ (⟨_, .binOp .rem _ _ _ _, _, _, _, _⟩ :: _) _; first
                  | refine LA_rem rfl rfl rfl (by omega) (by omega) (by dsimp only [fits]; omega) ?_)
              | (show LA _ _ _ _ (⟨_, .binOp .shr _ _ _ _, _, _, _, _⟩ :: _) _; first
                  | (refine LA_shr rfl rfl rfl (by omega) (by dsimp only [IntKind.bits]; omega) ?_; try dsimp only [Int.reduceToNat, Int.reducePow]))
              | (show LA _ _ _ _ (⟨_, .binOp .shl _ _ _ _, _, _, _, _⟩ :: _) _; first
                  | (refine LA_shl rfl rfl rfl (by omega) (by dsimp only [IntKind.bits]; omega) ?_; try dsimp only [Int.reduceToNat, Int.reducePow]))
              | (show LA _ _ _ _ (⟨_, .binOp _ _ _ _ _, _, _, _, _⟩ :: _) _; first
                  | refine LA_cmpT rfl rfl rfl rfl (by first | (dsimp only [cmpP]; done) | (dsimp only [cmpP]; omega)) ?_
                  | refine LA_cmpF rfl rfl rfl rfl (by dsimp only [cmpP]; omega) ?_
                  | (refine LA_cmp rfl rfl rfl rfl (fun hc => ?_) (fun hc => ?_) <;> dsimp only [cmpP] at hc)
                  | refine LA_boolEqT rfl rfl rfl rfl (by first | rfl | assumption) ?_
                  | refine LA_boolEqF rfl rfl rfl rfl (by first | assumption | decide) ?_
                  | refine LA_boolEq rfl rfl rfl rfl ?_
                  | refine LA_boolNeT rfl rfl rfl rfl (by first | assumption | decide) ?_
                  | refine LA_boolNeF rfl rfl rfl rfl (by first | rfl | assumption) ?_
                  | refine LA_boolNe rfl rfl rfl rfl ?_)
              | (show LA _ _ _ _ (⟨_, .indexAddr _ _ _, _, _, _, _⟩ :: _) _; first
                  | refine LA_indexN rfl _ rfl (fun _ => rfl) rfl (by first | exact HasI.val (by assumption) | exact HasI.pred | exact HasI.own | exact HasI.ownV (by assumption)) rfl (by omega) ?_
                  | (refine LA_index rfl _ rfl (fun _ => rfl) rfl (by first | exact HasI.val (by assumption) | exact HasI.pred | exact HasI.own | exact HasI.ownV (by assumption)) rfl (by omega) (by omega) ?_; try dsimp only [Int.reduceToNat]))
              | (show LA _ _ _ _ (⟨_, .load _ _, _, _, _, _⟩ :: _) _; first
                  | refine LA_load rfl (fun _ => rfl) rfl ?_)
              | (show LA _ _ _ _ (⟨_, .convert _ _ _, _, _, _, _⟩ :: _) _; first
                  | refine LA_convF rfl rfl rfl rfl (by dsimp only [fits]; omega) ?_
                  | refine LA_conv rfl rfl rfl rfl ?_)
              | (show LA _ _ _ _ (⟨_, .slice _ _ _ _ _, _, _, _, _⟩ :: _) _; first
                  | (refine LA_sliceL rfl _ rfl rfl (by first | exact (HasI.val (by assumption)).c | exact HasI.pred.c | exact HasC.val (by assumption) | exact HasC.pred | exact HasI.own.c | exact HasC.own | exact (HasI.ownV (by assumption)).c | exact HasC.ownV (by assumption)) rfl (by omega) (by omega) (by exact fun _ => rfl) ?_; try dsimp only [Int.reduceToNat, Int.toNat_natCast])
                  | (refine LA_sliceH rfl _ rfl rfl (by first | exact (HasI.val (by assumption)).c | exact HasI.pred.c | exact HasC.val (by assumption) | exact HasC.pred | exact HasI.own.c | exact HasC.own | exact (HasI.ownV (by assumption)).c | exact HasC.ownV (by assumption)) rfl (by omega) (by omega) (by exact fun _ => rfl) ?_; try dsimp only [Int.reduceToNat, Int.toNat_natCast])
                  | (refine LA_sliceLH rfl _ rfl rfl (by first | exact (HasI.val (by assumption)).c | exact HasI.pred.c | exact HasC.val (by assumption) | exact HasC.pred | exact HasI.own.c | exact HasC.own | exact (HasI.ownV (by assumption)).c | exact HasC.ownV (by assumption)) rfl rfl (by omega) (by omega) (by omega) (by exact fun _ => rfl) ?_; try dsimp only [Int.reduceToNat, Int.toNat_natCast]))
              | (show LA _ _ _ _ (⟨_, .call ⟨.builtin .len, _, _⟩, _, _, _, _⟩ :: _) _; first
                  | refine LA_len rfl _ rfl rfl (by first | exact (HasI.val (by assumption)).c | exact HasI.pred.c | exact HasC.val (by assumption) | exact HasC.pred | exact HasI.own.c | exact HasC.own | exact (HasI.ownV (by assumption)).c | exact HasC.ownV (by assumption)) ?_)
              | (show LA _ _ _ _ (⟨_, .call ⟨.value _, _, _⟩, _, _, _, _⟩ :: _) _; first
                  | (show LA _ _ _ _ (⟨_, .call ⟨.value (.func 17), _, _⟩, _, _, _, _⟩ :: _) _; refine LA_call2 (f := 17) rfl rfl rfl rfl  (.tup2 (.val (.int .i64 (bsS xs (xs.getD k 0 - 1)))) (.val (.bool false))) (by intro u1 u2 w e hu1 hu2; (try obtain rfl : u1 = _ := hu1); (try obtain rfl : u2 = _ := hu2); exact find_at (ha.ext e) (by omega) rfl hf) ?_))
              | (refine LA_nil (hK [] _ (LX_nil ?_)); clear hK K)
              | (refine LA_nil (hK _ ?_); clear hK K))
            | (show CX _ _ _ _ _ _; first
              | refine CX_seq ?_
              | refine CX_skip ?_
              | refine CX_block ?_
              | refine CX_exit ?_
              | refine CX_ret ?_
              | refine CX_condT rfl ?_
              | refine CX_condF rfl ?_
              | refine CX_region (by kernel_rfl) (fun K hK => ?_)
              | refine CX_regionA (by kernel_rfl) (by kernel_rfl) (fun K hK => ?_)
              | refine CX_label ?_
              | refine CX_scope ?_)
            | (show PX _ _ _ _ _; first
              | refine PX_then ?_
              | refine PX_thenX ?_
              | refine PX_thenR ?_
              | refine PX_blockN ?_
              | refine PX_blockR ?_
              | refine PX_blockX ?_
              | refine PX_blockO (by decide) ?_
              | refine PX_scopeN ?_
              | refine PX_scopeR ?_
              | refine PX_scopeX ?_)
            | (show LX _ _ _ _ _ _ _; first
              | refine LX_nil ?_))
          refine PX_rnd (k + 1) ?_ ?_ (by repeat' (first | exact Sub.nil | refine Sub.val rfl (by first | with_reducible rfl | (congr 1; omega)) ?_ | refine Sub.same rfl ?_))
          · omega
          · omega
    · obtain rfl : k = xs.length := by omega
      have hre : runsTo xs xs.length = runsS xs := rfl
      have g1 := runsTo_le (withS xs x) (withS xs x).length
      have g2 := runsTo_le ys ys.length
      have g3 := runsTo_le (mergeS fOr xs ys) (mergeS fOr xs ys).length
      have e1 : runsTo (withS xs x) (withS xs x).length = runsS (withS xs x) := rfl
      have e2 : runsTo ys ys.length = runsS ys := rfl
      have e3 : runsTo (mergeS fOr xs ys) (mergeS fOr xs ys).length = runsS (mergeS fOr xs ys) := rfl
      rw [e1] at g1; rw [e2] at g2; rw [e3] at g3; rw [hre] at hrl
      repeat' (first
        | (show LA _ _ _ _ _ _; first
          | refine LA_pass rfl ?_
          | (show LA _ _ _ _ (⟨_, .call ⟨.value (.func 19), _, _⟩, _, _, _, _⟩ :: _) _; refine LA_call1 (f := 19) rfl rfl rfl  (.val (.int .i64 (runsS (withS xs x)))) (by intro u1 w e hu1; (try obtain rfl : u1 = _ := hu1); exact runs_c _ _ (withS xs x) (OwnI.slI hu1)) ?_)
          | (show LA _ _ _ _ (⟨_, .call ⟨.value (.func 19), _, _⟩, _, _, _, _⟩ :: _) _; refine LA_call1 (f := 19) rfl rfl rfl  (.val (.int .i64 (runsS (mergeS fOr xs ys)))) (by intro u1 w e hu1; (try obtain rfl : u1 = _ := hu1); exact runs_c _ _ (mergeS fOr xs ys) (OwnI.slI hu1)) ?_)
          | (show LA _ _ _ _ (⟨_, .call ⟨.value (.func 19), _, _⟩, _, _, _, _⟩ :: _) _; refine LA_call1 (f := 19) rfl rfl rfl  (.val (.int .i64 (runsS xs))) (by intro u1 w e hu1; (try obtain rfl : u1 = _ := hu1); exact runs_c _ _ xs (ha.ext e)) ?_)
          | (show LA _ _ _ _ (⟨_, .call ⟨.value (.func 19), _, _⟩, _, _, _, _⟩ :: _) _; refine LA_call1 (f := 19) rfl rfl rfl  (.val (.int .i64 (runsS ys))) (by intro u1 w e hu1; (try obtain rfl : u1 = _ := hu1); exact runs_c _ _ ys (hb.ext e)) ?_)
          | (show LA _ _ _ _ (⟨_, .move _, _, _, _, _⟩ :: _) _; first
              | refine LA_moveV rfl rfl ?_
              | refine LA_moveP rfl rfl ?_
              | refine LA_moveT rfl rfl ?_
              | refine LA_moveU rfl rfl ?_)
          | (show LA _ _ _ _ (⟨_, .assign _, _, _, _, _⟩ :: _) _; first
              | refine LA_assignV rfl rfl ?_
              | refine LA_assignP rfl rfl ?_
              | refine LA_assignT rfl rfl ?_)
          | (show LA _ _ _ _ (⟨_, .pick _ _ _, _, _, _, _⟩ :: _) _; first
              | refine LA_pickTV rfl rfl rfl ?_
              | refine LA_pickFV rfl rfl rfl ?_)
          | (show LA _ _ _ _ (⟨_, .unOp .not _ _, _, _, _, _⟩ :: _) _; first
              | refine LA_notT rfl rfl ?_
              | refine LA_notF rfl rfl ?_
              | refine LA_not rfl rfl ?_)
          | (show LA _ _ _ _ (⟨_, .extract _ _, _, _, _, _⟩ :: _) _; first
              | refine LA_ext0 rfl rfl ?_
              | refine LA_ext1 rfl rfl ?_
              | refine LA_ext30 rfl rfl ?_
              | refine LA_ext31 rfl rfl ?_
              | refine LA_ext32 rfl rfl ?_)
          | (show LA _ _ _ _ (⟨_, .binOp .add _ _ _ _, _, _, _, _⟩ :: _) _; first
              | refine LA_addF rfl rfl rfl (by dsimp only [fits]; omega) ?_
              | refine LA_addW rfl rfl rfl ?_)
          | (show LA _ _ _ _ (⟨_, .binOp .sub _ _ _ _, _, _, _, _⟩ :: _) _; first
              | refine LA_subF rfl rfl rfl (by dsimp only [fits]; omega) ?_
              | refine LA_subW rfl rfl rfl ?_)
          | (show LA _ _ _ _ (⟨_, .binOp .mul _ _ _ _, _, _, _, _⟩ :: _) _; first
              | refine LA_mulF rfl rfl rfl (by dsimp only [fits]; omega) ?_
              | refine LA_mulW rfl rfl rfl ?_)
          | (show LA _ _ _ _ (⟨_, .binOp .quo _ _ _ _, _, _, _, _⟩ :: _) _; first
              | refine LA_quo rfl rfl rfl (by omega) (by omega) (by dsimp only [fits]; omega) ?_)
          | (show LA _ _ _ _ (⟨_, .binOp .rem _ _ _ _, _, _, _, _⟩ :: _) _; first
              | refine LA_rem rfl rfl rfl (by omega) (by omega) (by dsimp only [fits]; omega) ?_)
          | (show LA _ _ _ _ (⟨_, .binOp .shr _ _ _ _, _, _, _, _⟩ :: _) _; first
              | (refine LA_shr rfl rfl rfl (by omega) (by dsimp only [IntKind.bits]; omega) ?_; try dsimp only [Int.reduceToNat, Int.reducePow]))
          | (show LA _ _ _ _ (⟨_, .binOp .shl _ _ _ _, _, _, _, _⟩ :: _) _; first
              | (refine LA_shl rfl rfl rfl (by omega) (by dsimp only [IntKind.bits]; omega) ?_; try dsimp only [Int.reduceToNat, Int.reducePow]))
          | (show LA _ _ _ _ (⟨_, .binOp _ _ _ _ _, _, _, _, _⟩ :: _) _; first
              | refine LA_cmpT rfl rfl rfl rfl (by first | (dsimp only [cmpP]; done) | (dsimp only [cmpP]; omega)) ?_
              | refine LA_cmpF rfl rfl rfl rfl (by dsimp only [cmpP]; omega) ?_
              | (refine LA_cmp rfl rfl rfl rfl (fun hc => ?_) (fun hc => ?_) <;> dsimp only [cmpP] at hc)
              | refine LA_boolEqT rfl rfl rfl rfl (by first | rfl | assumption) ?_
              | refine LA_boolEqF rfl rfl rfl rfl (by first | assumption | decide) ?_
              | refine LA_boolEq rfl rfl rfl rfl ?_
              | refine LA_boolNeT rfl rfl rfl rfl (by first | assumption | decide) ?_
              | refine LA_boolNeF rfl rfl rfl rfl (by first | rfl | assumption) ?_
              | refine LA_boolNe rfl rfl rfl rfl ?_)
          | (show LA _ _ _ _ (⟨_, .indexAddr _ _ _, _, _, _, _⟩ :: _) _; first
              | refine LA_indexN rfl _ rfl (fun _ => rfl) rfl (by first | exact HasI.val (by assumption) | exact HasI.pred | exact HasI.own | exact HasI.ownV (by assumption)) rfl (by omega) ?_
              | (refine LA_index rfl _ rfl (fun _ => rfl) rfl (by first | exact HasI.val (by assumption) | exact HasI.pred | exact HasI.own | exact HasI.ownV (by assumption)) rfl (by omega) (by omega) ?_; try dsimp only [Int.reduceToNat]))
          | (show LA _ _ _ _ (⟨_, .load _ _, _, _, _, _⟩ :: _) _; first
              | refine LA_load rfl (fun _ => rfl) rfl ?_)
          | (show LA _ _ _ _ (⟨_, .convert _ _ _, _, _, _, _⟩ :: _) _; first
              | refine LA_convF rfl rfl rfl rfl (by dsimp only [fits]; omega) ?_
              | refine LA_conv rfl rfl rfl rfl ?_)
          | (show LA _ _ _ _ (⟨_, .slice _ _ _ _ _, _, _, _, _⟩ :: _) _; first
              | (refine LA_sliceL rfl _ rfl rfl (by first | exact (HasI.val (by assumption)).c | exact HasI.pred.c | exact HasC.val (by assumption) | exact HasC.pred | exact HasI.own.c | exact HasC.own | exact (HasI.ownV (by assumption)).c | exact HasC.ownV (by assumption)) rfl (by omega) (by omega) (by exact fun _ => rfl) ?_; try dsimp only [Int.reduceToNat, Int.toNat_natCast])
              | (refine LA_sliceH rfl _ rfl rfl (by first | exact (HasI.val (by assumption)).c | exact HasI.pred.c | exact HasC.val (by assumption) | exact HasC.pred | exact HasI.own.c | exact HasC.own | exact (HasI.ownV (by assumption)).c | exact HasC.ownV (by assumption)) rfl (by omega) (by omega) (by exact fun _ => rfl) ?_; try dsimp only [Int.reduceToNat, Int.toNat_natCast])
              | (refine LA_sliceLH rfl _ rfl rfl (by first | exact (HasI.val (by assumption)).c | exact HasI.pred.c | exact HasC.val (by assumption) | exact HasC.pred | exact HasI.own.c | exact HasC.own | exact (HasI.ownV (by assumption)).c | exact HasC.ownV (by assumption)) rfl rfl (by omega) (by omega) (by omega) (by exact fun _ => rfl) ?_; try dsimp only [Int.reduceToNat, Int.toNat_natCast]))
          | (show LA _ _ _ _ (⟨_, .call ⟨.builtin .len, _, _⟩, _, _, _, _⟩ :: _) _; first
              | refine LA_len rfl _ rfl rfl (by first | exact (HasI.val (by assumption)).c | exact HasI.pred.c | exact HasC.val (by assumption) | exact HasC.pred | exact HasI.own.c | exact HasC.own | exact (HasI.ownV (by assumption)).c | exact HasC.ownV (by assumption)) ?_)
          | (show LA _ _ _ _ (⟨_, .call ⟨.value _, _, _⟩, _, _, _, _⟩ :: _) _; first
              | (show LA _ _ _ _ (⟨_, .call ⟨.value (.func 18), _, _⟩, _, _, _, _⟩ :: _) _; refine LA_call2 (f := 18) rfl rfl rfl rfl  (.pred (ownI w.heap.size 29 .u16 (withS xs x))) (by intro u1 u2 w e hu1 hu2; (try obtain rfl : u1 = _ := hu1); (try obtain rfl : u2 = _ := hu2); exact (with_c _ _ xs x (ha.ext e) (by omega)).mono (ret_base e.size)) ?_)
              | (show LA _ _ _ _ (⟨_, .call ⟨.value (.func 13), _, _⟩, _, _, _, _⟩ :: _) _; refine LA_call2 (f := 13) rfl rfl rfl rfl  (.pred (ownI w.heap.size 29 .u16 (mergeS fOr xs ys))) (by intro u1 u2 w e hu1 hu2; (try obtain rfl : u1 = _ := hu1); (try obtain rfl : u2 = _ := hu2); exact (or_c _ _ _ xs ys (ha.ext e) (hb.ext e) (by omega)).mono (ret_base e.size)) ?_)
              | (show LA _ _ _ _ (⟨_, .call ⟨.value (.func 9), _, _⟩, _, _, _, _⟩ :: _) _; refine LA_call0 (f := 9) rfl rfl  (.val (.bool true)) (by intro w e; exact known_c _) ?_))
          | (refine LA_nil (hK [] _ (LX_nil ?_)); clear hK K)
          | (refine LA_nil (hK _ ?_); clear hK K))
        | (show CX _ _ _ _ _ _; first
          | refine CX_seq ?_
          | refine CX_skip ?_
          | refine CX_block ?_
          | refine CX_exit ?_
          | refine CX_ret ?_
          | refine CX_condT rfl ?_
          | refine CX_condF rfl ?_
          | refine CX_region (by kernel_rfl) (fun K hK => ?_)
          | refine CX_regionA (by kernel_rfl) (by kernel_rfl) (fun K hK => ?_)
          | refine CX_label ?_
          | refine CX_scope ?_)
        | (show PX _ _ _ _ _; first
          | refine PX_then ?_
          | refine PX_thenX ?_
          | refine PX_thenR ?_
          | refine PX_blockN ?_
          | refine PX_blockR ?_
          | refine PX_blockX ?_
          | refine PX_blockO (by decide) ?_
          | refine PX_scopeN ?_
          | refine PX_scopeR ?_
          | refine PX_scopeX ?_
          | exact PX_retE rfl rfl (Ext.refl _) rfl)
        | (show LX _ _ _ _ _ _ _; first
          | refine LX_nil ?_))
  · have := ha.len
    repeat' (first
      | (show LA _ _ _ _ _ _; first
        | refine LA_pass rfl ?_
        | (show LA _ _ _ _ (⟨_, .move _, _, _, _, _⟩ :: _) _; first
            | refine LA_moveV rfl rfl ?_
            | refine LA_moveP rfl rfl ?_
            | refine LA_moveT rfl rfl ?_
            | refine LA_moveU rfl rfl ?_)
        | (show LA _ _ _ _ (⟨_, .assign _, _, _, _, _⟩ :: _) _; first
            | refine LA_assignV rfl rfl ?_
            | refine LA_assignP rfl rfl ?_
            | refine LA_assignT rfl rfl ?_)
        | (show LA _ _ _ _ (⟨_, .pick _ _ _, _, _, _, _⟩ :: _) _; first
            | refine LA_pickTV rfl rfl rfl ?_
            | refine LA_pickFV rfl rfl rfl ?_)
        | (show LA _ _ _ _ (⟨_, .unOp .not _ _, _, _, _, _⟩ :: _) _; first
            | refine LA_notT rfl rfl ?_
            | refine LA_notF rfl rfl ?_
            | refine LA_not rfl rfl ?_)
        | (show LA _ _ _ _ (⟨_, .extract _ _, _, _, _, _⟩ :: _) _; first
            | refine LA_ext0 rfl rfl ?_
            | refine LA_ext1 rfl rfl ?_
            | refine LA_ext30 rfl rfl ?_
            | refine LA_ext31 rfl rfl ?_
            | refine LA_ext32 rfl rfl ?_)
        | (show LA _ _ _ _ (⟨_, .binOp .add _ _ _ _, _, _, _, _⟩ :: _) _; first
            | refine LA_addF rfl rfl rfl (by dsimp only [fits]; omega) ?_
            | refine LA_addW rfl rfl rfl ?_)
        | (show LA _ _ _ _ (⟨_, .binOp .sub _ _ _ _, _, _, _, _⟩ :: _) _; first
            | refine LA_subF rfl rfl rfl (by dsimp only [fits]; omega) ?_
            | refine LA_subW rfl rfl rfl ?_)
        | (show LA _ _ _ _ (⟨_, .binOp .mul _ _ _ _, _, _, _, _⟩ :: _) _; first
            | refine LA_mulF rfl rfl rfl (by dsimp only [fits]; omega) ?_
            | refine LA_mulW rfl rfl rfl ?_)
        | (show LA _ _ _ _ (⟨_, .binOp .quo _ _ _ _, _, _, _, _⟩ :: _) _; first
            | refine LA_quo rfl rfl rfl (by omega) (by omega) (by dsimp only [fits]; omega) ?_)
        | (show LA _ _ _ _ (⟨_, .binOp .rem _ _ _ _, _, _, _, _⟩ :: _) _; first
            | refine LA_rem rfl rfl rfl (by omega) (by omega) (by dsimp only [fits]; omega) ?_)
        | (show LA _ _ _ _ (⟨_, .binOp .shr _ _ _ _, _, _, _, _⟩ :: _) _; first
            | (refine LA_shr rfl rfl rfl (by omega) (by dsimp only [IntKind.bits]; omega) ?_; try dsimp only [Int.reduceToNat, Int.reducePow]))
        | (show LA _ _ _ _ (⟨_, .binOp .shl _ _ _ _, _, _, _, _⟩ :: _) _; first
            | (refine LA_shl rfl rfl rfl (by omega) (by dsimp only [IntKind.bits]; omega) ?_; try dsimp only [Int.reduceToNat, Int.reducePow]))
        | (show LA _ _ _ _ (⟨_, .binOp _ _ _ _ _, _, _, _, _⟩ :: _) _; first
            | refine LA_cmpT rfl rfl rfl rfl (by first | (dsimp only [cmpP]; done) | (dsimp only [cmpP]; omega)) ?_
            | refine LA_cmpF rfl rfl rfl rfl (by dsimp only [cmpP]; omega) ?_
            | (refine LA_cmp rfl rfl rfl rfl (fun hc => ?_) (fun hc => ?_) <;> dsimp only [cmpP] at hc)
            | refine LA_boolEqT rfl rfl rfl rfl (by first | rfl | assumption) ?_
            | refine LA_boolEqF rfl rfl rfl rfl (by first | assumption | decide) ?_
            | refine LA_boolEq rfl rfl rfl rfl ?_
            | refine LA_boolNeT rfl rfl rfl rfl (by first | assumption | decide) ?_
            | refine LA_boolNeF rfl rfl rfl rfl (by first | rfl | assumption) ?_
            | refine LA_boolNe rfl rfl rfl rfl ?_)
        | (show LA _ _ _ _ (⟨_, .indexAddr _ _ _, _, _, _, _⟩ :: _) _; first
            | refine LA_indexN rfl _ rfl (fun _ => rfl) rfl (by first | exact HasI.val (by assumption) | exact HasI.pred | exact HasI.own | exact HasI.ownV (by assumption)) rfl (by omega) ?_
            | (refine LA_index rfl _ rfl (fun _ => rfl) rfl (by first | exact HasI.val (by assumption) | exact HasI.pred | exact HasI.own | exact HasI.ownV (by assumption)) rfl (by omega) (by omega) ?_; try dsimp only [Int.reduceToNat]))
        | (show LA _ _ _ _ (⟨_, .load _ _, _, _, _, _⟩ :: _) _; first
            | refine LA_load rfl (fun _ => rfl) rfl ?_)
        | (show LA _ _ _ _ (⟨_, .convert _ _ _, _, _, _, _⟩ :: _) _; first
            | refine LA_convF rfl rfl rfl rfl (by dsimp only [fits]; omega) ?_
            | refine LA_conv rfl rfl rfl rfl ?_)
        | (show LA _ _ _ _ (⟨_, .slice _ _ _ _ _, _, _, _, _⟩ :: _) _; first
            | (refine LA_sliceL rfl _ rfl rfl (by first | exact (HasI.val (by assumption)).c | exact HasI.pred.c | exact HasC.val (by assumption) | exact HasC.pred | exact HasI.own.c | exact HasC.own | exact (HasI.ownV (by assumption)).c | exact HasC.ownV (by assumption)) rfl (by omega) (by omega) (by exact fun _ => rfl) ?_; try dsimp only [Int.reduceToNat, Int.toNat_natCast])
            | (refine LA_sliceH rfl _ rfl rfl (by first | exact (HasI.val (by assumption)).c | exact HasI.pred.c | exact HasC.val (by assumption) | exact HasC.pred | exact HasI.own.c | exact HasC.own | exact (HasI.ownV (by assumption)).c | exact HasC.ownV (by assumption)) rfl (by omega) (by omega) (by exact fun _ => rfl) ?_; try dsimp only [Int.reduceToNat, Int.toNat_natCast])
            | (refine LA_sliceLH rfl _ rfl rfl (by first | exact (HasI.val (by assumption)).c | exact HasI.pred.c | exact HasC.val (by assumption) | exact HasC.pred | exact HasI.own.c | exact HasC.own | exact (HasI.ownV (by assumption)).c | exact HasC.ownV (by assumption)) rfl rfl (by omega) (by omega) (by omega) (by exact fun _ => rfl) ?_; try dsimp only [Int.reduceToNat, Int.toNat_natCast]))
        | (show LA _ _ _ _ (⟨_, .call ⟨.builtin .len, _, _⟩, _, _, _, _⟩ :: _) _; first
            | refine LA_len rfl _ rfl rfl (by first | exact (HasI.val (by assumption)).c | exact HasI.pred.c | exact HasC.val (by assumption) | exact HasC.pred | exact HasI.own.c | exact HasC.own | exact (HasI.ownV (by assumption)).c | exact HasC.ownV (by assumption)) ?_)
        | (show LA _ _ _ _ (⟨_, .call ⟨.value _, _, _⟩, _, _, _, _⟩ :: _) _; first
            | (show LA _ _ _ _ (⟨_, .call ⟨.value (.func 8), _, _⟩, _, _, _, _⟩ :: _) _; refine LA_callB1 (f := 8) rfl rfl rfl  (decide (Inc _)) (by intro u1 w e hu1; (try obtain rfl : u1 = _ := hu1); exact rmay_c _ _ _ (by first | exact hu1 | exact hu2 | exact hu3 | exact hu4 | exact hu5 | exact OwnI.slI hu1 | exact OwnI.slI hu2 | exact OwnI.slI hu3 | exact SlI.ext (by assumption) e | exact OwnI.slI (OwnI.ext (by assumption) e))) (fun hc => ?_) (fun hc => ?_) <;> simp only [decide_eq_true_eq, decide_eq_false_iff_not] at hc)
            | (show LA _ _ _ _ (⟨_, .call ⟨.value (.func 9), _, _⟩, _, _, _, _⟩ :: _) _; refine LA_call0 (f := 9) rfl rfl  (.val (.bool true)) (by intro w e; exact known_c _) ?_))
        | (refine LA_nil (hK [] _ (LX_nil ?_)); clear hK K)
        | (refine LA_nil (hK _ ?_); clear hK K))
      | (show CX _ _ _ _ _ _; first
        | refine CX_seq ?_
        | refine CX_skip ?_
        | refine CX_block ?_
        | refine CX_exit ?_
        | refine CX_ret ?_
        | refine CX_condT rfl ?_
        | refine CX_condF rfl ?_
        | refine CX_region (by kernel_rfl) (fun K hK => ?_)
        | refine CX_regionA (by kernel_rfl) (by kernel_rfl) (fun K hK => ?_)
        | refine CX_label ?_
        | refine CX_scope ?_)
      | (show PX _ _ _ _ _; first
        | refine PX_then ?_
        | refine PX_thenX ?_
        | refine PX_thenR ?_
        | refine PX_blockN ?_
        | refine PX_blockR ?_
        | refine PX_blockX ?_
        | refine PX_blockO (by decide) ?_
        | refine PX_scopeN ?_
        | refine PX_scopeR ?_
        | refine PX_scopeX ?_
        | exact PX_retE rfl rfl (Ext.refl _) rfl)
      | (show LX _ _ _ _ _ _ _; first
        | refine LX_nil ?_))
    exact absurd ⟨by assumption, by assumption⟩ hi
end Go.Proofs.Ytbabdbiolofjdaa
