import Derived.Test.YtbabdbiolofjdaaA10
set_option linter.unusedSimpArgs false
set_option linter.unusedVariables false
namespace Go.Proofs.Ytbabdbiolofjdaa
open Go.LA Go.ArrP Go.RowKit
theorem find_at {w : World} {v : Value} {xs : List Int} {x : Int} {n : Nat} {b : Bool} (h : SlI .u16 w v xs) (hb : xs.length ≤ 4611686018427387903) (hn : bsS xs x = n) (hf : foundS xs x = b) : Fc Try.prog 17 #[v, .int .u16 x] w (Ret w (.tup2 (.val (.int .i64 n)) (.val (.bool b)))) := by
  subst hn hf; exact find_c w v xs x h hb
set_option maxHeartbeats 2000000 in
theorem findlaw_c (w : World) (v : Value) (xs : List Int) (x y : Int) (h : SlI .u16 w v xs) (hl : Low xs) (hx : 0 ≤ x ∧ x < 65536) : Fc Try.prog 5 #[v, .int .u16 x, .int .u16 y] w (Ret w (.val (.bool true))) := by
  refine Fc.of (args := [_, _, _]) Try.func5 rfl rfl Try.ntmps5 (Nat.le_of_ble_eq_true rfl) ?_
  have hwl := withS_len xs x
  have hlen := with_len (xs := xs) (x := x)
  have hble := bsS_le xs x
  by_cases hi : Inc xs
  · by_cases hxy : x = y
    · subst hxy
      have hat := found_at (with_found (xs := xs) (x := x) hi)
      rw [find_low hi hl hx.1 hx.2] at hat
      cases hw : foundS xs x
      all_goals rw [hw] at hlen
      all_goals simp only [Bool.false_eq_true, if_false, if_true, Nat.add_zero] at hlen
      all_goals
        repeat' (first
          | (show LA _ _ _ _ _ _; first
            | refine LA_pass rfl ?_
            | (show LA _ _ _ _ (⟨_, .call ⟨.value (.func 17), _, _⟩, _, _, _, _⟩ :: _) _; refine LA_call2 (f := 17) rfl rfl rfl rfl  (.tup2 (.val (.int .i64 (bsS xs x))) (.val (.bool true))) (by intro u1 u2 w e hu1 hu2; (try obtain rfl : u1 = _ := hu1); (try obtain rfl : u2 = _ := hu2); exact find_at (OwnI.slI hu1) (by omega) (find_low hi hl hx.1 hx.2) (with_found hi)) ?_)
            | (show LA _ _ _ _ (⟨_, .call ⟨.value (.func 17), _, _⟩, _, _, _, _⟩ :: _) _; refine LA_call2 (f := 17) rfl rfl rfl rfl  (.tup2 (.val (.int .i64 (bsS xs x))) (.val (.bool _))) (by intro u1 u2 w e hu1 hu2; (try obtain rfl : u1 = _ := hu1); (try obtain rfl : u2 = _ := hu2); exact find_at (h.ext e) (by omega) rfl hw) ?_)
            | (show LA _ _ _ _ (⟨_, .move _, _, _, _, _⟩ :: _) _; first
                | refine LA_moveV rfl rfl ?_
                | refine LA_moveP rfl rfl ?_
                | refine LA_moveT rfl rfl ?_
                | refine LA_moveU rfl rfl ?_)
            | (show LA _ _ _ _ (⟨_, .assign _, _, _, _, _⟩ :: _) _; first
                | refine LA_assignV rfl rfl ?_
                | refine LA_assignP rfl rfl ?_
                | refine LA_assignT rfl rfl ?_)
            | (show LA _ _ _ _ (⟨_, .pick _ _ _, _, _, _, _⟩ :: _) _; first
                | refine LA_pickTV rfl rfl rfl ?_
                | refine LA_pickFV rfl rfl rfl ?_)
            | (show LA _ _ _ _ (⟨_, .unOp .not _ _, _, _, _, _⟩ :: _) _; first
                | refine LA_notT rfl rfl ?_
                | refine LA_notF rfl rfl ?_
                | refine LA_not rfl rfl ?_)
            | (show LA _ _ _ _ (⟨_, .extract _ _, _, _, _, _⟩ :: _) _; first
                | refine LA_ext0 rfl rfl ?_
                | refine LA_ext1 rfl rfl ?_
                | refine LA_ext30 rfl rfl ?_
                | refine LA_ext31 rfl rfl ?_
                | refine LA_ext32 rfl rfl ?_)
            | (show LA _ _ _ _ (⟨_, .binOp .add _ _ _ _, _, _, _, _⟩ :: _) _; first
                | refine LA_addF rfl rfl rfl (by dsimp only [fits]; omega) ?_
                | refine LA_addW rfl rfl rfl ?_)
            | (show LA _ _ _ _ (⟨_, .binOp .sub _ _ _ _, _, _, _, _⟩ :: _) _; first
                | refine LA_subF rfl rfl rfl (by dsimp only [fits]; omega) ?_
                | refine LA_subW rfl rfl rfl ?_)
            | (show LA _ _ _ _ (⟨_, .binOp .mul _ _ _ _, _, _, _, _⟩ :: _) _; first
                | refine LA_mulF rfl rfl rfl (by dsimp only [fits]; omega) ?_
                | refine LA_mulW rfl rfl rfl ?_)
            | (show LA _ _ _ _ (⟨_, .binOp .quo _ _ _ _, _, _, _, _⟩ :: _) _; first
                | refine LA_quo rfl rfl rfl (by omega) (by omega) (by dsimp only [fits]; omega) ?_)
            | (show LA _ _ _ _ (⟨_, .binOp .rem _ _ _ _, _, _, _, _⟩ :: _) _; first
                | refine LA_rem rfl rfl rfl (by omega) (by omega) (by dsimp only [fits]; omega) ?_)
            | (show LA _ _ _ _ (⟨_, .binOp .shr _ _ _ _, _, _, _, _⟩ :: _) _; first
                | (refine LA_shr rfl rfl rfl (by omega) (by dsimp only [IntKind.bits]; omega) ?_; try dsimp only [Int.reduceToNat, Int.reducePow]))
            | (show LA _ _ _ _ (⟨_, .binOp .shl _ _ _ _, _, _, _, _⟩ :: _) _; first
                | (refine LA_shl rfl rfl rfl (by omega) (by dsimp only [IntKind.bits]; omega) ?_; try dsimp only [Int.reduceToNat, Int.reducePow]))
            | (show LA _ _ _ _ (⟨_, .binOp _ _ _ _ _, _, _, _, _⟩ :: _) _; first
                | refine LA_cmpT rfl rfl rfl rfl (by first | (dsimp only [cmpP]; done) | (dsimp only [cmpP]; omega)) ?_
                | refine LA_cmpF rfl rfl rfl rfl (by dsimp only [cmpP]; omega) ?_
                | (refine LA_cmp rfl rfl rfl rfl (fun hc => ?_) (fun hc => ?_) <;> dsimp only [cmpP] at hc)
                | refine LA_boolEqT rfl rfl rfl rfl (by first | rfl | assumption) ?_
                | refine LA_boolEqF rfl rfl rfl rfl (by first | assumption | decide) ?_
                | refine LA_boolEq rfl rfl rfl rfl ?_
                | refine LA_boolNeT rfl rfl rfl rfl (by first | assumption | decide) ?_
                | refine LA_boolNeF rfl rfl rfl rfl (by first | rfl | assumption) ?_
                | refine LA_boolNe rfl rfl rfl rfl ?_)
            | (show LA _ _ _ _ (⟨_, .indexAddr _ _ _, _, _, _, _⟩ :: _) _; first
                | refine LA_indexN rfl _ rfl (fun _ => rfl) rfl (by first | exact HasI.val (by assumption) | exact HasI.pred | exact HasI.own | exact HasI.ownV (by assumption)) rfl (by omega) ?_
                | (refine LA_index rfl _ rfl (fun _ => rfl) rfl (by first | exact HasI.val (by assumption) | exact HasI.pred | exact HasI.own | exact HasI.ownV (by assumption)) rfl (by omega) (by omega) ?_; try dsimp only [Int.reduceToNat]))
            | (show LA _ _ _ _ (⟨_, .load _ _, _, _, _, _⟩ :: _) _; first
                | refine LA_load rfl (fun _ => rfl) rfl ?_)
            | (show LA _ _ _ _ (⟨_, .convert _ _ _, _, _, _, _⟩ :: _) _; first
                | refine LA_convF rfl rfl rfl rfl (by dsimp only [fits]; omega) ?_
                | refine LA_conv rfl rfl rfl rfl ?_)
            | (show LA _ _ _ _ (⟨_, .slice _ _ _ _ _, _, _, _, _⟩ :: _) _; first
                | (refine LA_sliceL rfl _ rfl rfl (by first | exact (HasI.val (by assumption)).c | exact HasI.pred.c | exact HasC.val (by assumption) | exact HasC.pred | exact HasI.own.c | exact HasC.own | exact (HasI.ownV (by assumption)).c | exact HasC.ownV (by assumption)) rfl (by omega) (by omega) (by exact fun _ => rfl) ?_; try dsimp only [Int.reduceToNat, Int.toNat_natCast])
                | (refine LA_sliceH rfl _ rfl rfl (by first | exact (HasI.val (by assumption)).c | exact HasI.pred.c | exact HasC.val (by assumption) | exact HasC.pred | exact HasI.own.c | exact HasC.own | exact (HasI.ownV (by assumption)).c | exact HasC.ownV (by assumption)) rfl (by omega) (by omega) (by exact fun _ => rfl) ?_; try dsimp only [Int.reduceToNat, Int.toNat_natCast])
                | (refine LA_sliceLH rfl _ rfl rfl (by first | exact (HasI.val (by assumption)).c | exact HasI.pred.c | exact HasC.val (by assumption) | exact HasC.pred | exact HasI.own.c | exact HasC.own | exact (HasI.ownV (by assumption)).c | exact HasC.ownV (by assumption)) rfl rfl (by omega) (by omega) (by omega) (by exact fun _ => rfl) ?_; try dsimp only [Int.reduceToNat, Int.toNat_natCast]))
            | (show LA _ _ _ _ (⟨_, .call ⟨.builtin .len, _, _⟩, _, _, _, _⟩ :: _) _; first
                | refine LA_len rfl _ rfl rfl (by first | exact (HasI.val (by assumption)).c | exact HasI.pred.c | exact HasC.val (by assumption) | exact HasC.pred | exact HasI.own.c | exact HasC.own | exact (HasI.ownV (by assumption)).c | exact HasC.ownV (by assumption)) ?_)
            | (show LA _ _ _ _ (⟨_, .call ⟨.value _, _, _⟩, _, _, _, _⟩ :: _) _; first
                | (show LA _ _ _ _ (⟨_, .call ⟨.value (.func 8), _, _⟩, _, _, _, _⟩ :: _) _; refine LA_call1 (f := 8) rfl rfl rfl  (.val (.bool true)) (by intro u1 w e hu1; (try obtain rfl : u1 = _ := hu1); exact ret_true (rmay_c _ _ xs (by first | exact hu1 | exact hu2 | exact hu3 | exact hu4 | exact hu5 | exact OwnI.slI hu1 | exact OwnI.slI hu2 | exact OwnI.slI hu3 | exact SlI.ext (by assumption) e | exact OwnI.slI (OwnI.ext (by assumption) e))) (decide_eq_true hi)) ?_)
                | (show LA _ _ _ _ (⟨_, .call ⟨.value (.func 9), _, _⟩, _, _, _, _⟩ :: _) _; refine LA_call0 (f := 9) rfl rfl  (.val (.bool true)) (by intro w e; exact known_c _) ?_)
                | (show LA _ _ _ _ (⟨_, .call ⟨.value (.func 18), _, _⟩, _, _, _, _⟩ :: _) _; refine LA_call2 (f := 18) rfl rfl rfl rfl  (.pred (ownI w.heap.size 29 .u16 (withS xs x))) (by intro u1 u2 w e hu1 hu2; (try obtain rfl : u1 = _ := hu1); (try obtain rfl : u2 = _ := hu2); exact (with_c _ _ xs x (by first | exact hu1 | exact hu2 | exact hu3 | exact hu4 | exact hu5 | exact OwnI.slI hu1 | exact OwnI.slI hu2 | exact OwnI.slI hu3 | exact SlI.ext (by assumption) e | exact OwnI.slI (OwnI.ext (by assumption) e)) (by omega)).mono (ret_base e.size)) ?_))
            | (refine LA_nil (hK [] _ (LX_nil ?_)); clear hK K)
            | (refine LA_nil (hK _ ?_); clear hK K))
          | (show CX _ _ _ _ _ _; first
            | refine CX_seq ?_
            | refine CX_skip ?_
            | refine CX_block ?_
            | refine CX_exit ?_
            | refine CX_ret ?_
            | refine CX_condT rfl ?_
            | refine CX_condF rfl ?_
            | refine CX_region (by kernel_rfl) (fun K hK => ?_)
            | refine CX_regionA (by kernel_rfl) (by kernel_rfl) (fun K hK => ?_)
            | refine CX_label ?_
            | refine CX_scope ?_)
          | (show PX _ _ _ _ _; first
            | refine PX_then ?_
            | refine PX_thenX ?_
            | refine PX_thenR ?_
            | refine PX_blockN ?_
            | refine PX_blockR ?_
            | refine PX_blockX ?_
            | refine PX_blockO (by decide) ?_
            | refine PX_scopeN ?_
            | refine PX_scopeR ?_
            | refine PX_scopeX ?_
            | exact PX_retE rfl rfl (Ext.refl _) rfl)
          | (show LX _ _ _ _ _ _ _; first
            | refine LX_nil ?_))
    · have hn := with_now (xs := xs) hi hxy
      cases hw : foundS xs x
      all_goals rw [hw] at hlen
      all_goals simp only [Bool.false_eq_true, if_false, if_true, Nat.add_zero] at hlen
      all_goals cases ha : foundS xs y
      all_goals rw [ha] at hn
      all_goals (try have hat := found_at hn)
      all_goals
        repeat' (first
          | (show LA _ _ _ _ _ _; first
            | refine LA_pass rfl ?_
            | (show LA _ _ _ _ (⟨_, .call ⟨.value (.func 17), _, _⟩, _, _, _, _⟩ :: _) _; refine LA_call2 (f := 17) rfl rfl rfl rfl  (.tup2 (.val (.int .i64 (bsS xs x))) (.val (.bool true))) (by intro u1 u2 w e hu1 hu2; (try obtain rfl : u1 = _ := hu1); (try obtain rfl : u2 = _ := hu2); exact find_at (OwnI.slI hu1) (by omega) (find_low hi hl hx.1 hx.2) (with_found hi)) ?_)
            | (show LA _ _ _ _ (⟨_, .call ⟨.value (.func 17), _, _⟩, _, _, _, _⟩ :: _) _; refine LA_call2 (f := 17) rfl rfl rfl rfl  (.tup2 (.val (.int .i64 (bsS (withS xs x) y))) (.val (.bool _))) (by intro u1 u2 w e hu1 hu2; (try obtain rfl : u1 = _ := hu1); (try obtain rfl : u2 = _ := hu2); exact find_at (OwnI.slI hu1) (by omega) rfl hn) ?_)
            | (show LA _ _ _ _ (⟨_, .call ⟨.value (.func 17), _, _⟩, _, _, _, _⟩ :: _) _; refine LA_call2 (f := 17) rfl rfl rfl rfl  (.tup2 (.val (.int .i64 (bsS xs x))) (.val (.bool _))) (by intro u1 u2 w e hu1 hu2; (try obtain rfl : u1 = _ := hu1); (try obtain rfl : u2 = _ := hu2); exact find_at (h.ext e) (by omega) rfl hw) ?_)
            | (show LA _ _ _ _ (⟨_, .call ⟨.value (.func 17), _, _⟩, _, _, _, _⟩ :: _) _; refine LA_call2 (f := 17) rfl rfl rfl rfl  (.tup2 (.val (.int .i64 (bsS xs y))) (.val (.bool _))) (by intro u1 u2 w e hu1 hu2; (try obtain rfl : u1 = _ := hu1); (try obtain rfl : u2 = _ := hu2); exact find_at (h.ext e) (by omega) rfl ha) ?_)
            | (show LA _ _ _ _ (⟨_, .move _, _, _, _, _⟩ :: _) _; first
                | refine LA_moveV rfl rfl ?_
                | refine LA_moveP rfl rfl ?_
                | refine LA_moveT rfl rfl ?_
                | refine LA_moveU rfl rfl ?_)
            | (show LA _ _ _ _ (⟨_, .assign _, _, _, _, _⟩ :: _) _; first
                | refine LA_assignV rfl rfl ?_
                | refine LA_assignP rfl rfl ?_
                | refine LA_assignT rfl rfl ?_)
            | (show LA _ _ _ _ (⟨_, .pick _ _ _, _, _, _, _⟩ :: _) _; first
                | refine LA_pickTV rfl rfl rfl ?_
                | refine LA_pickFV rfl rfl rfl ?_)
            | (show LA _ _ _ _ (⟨_, .unOp .not _ _, _, _, _, _⟩ :: _) _; first
                | refine LA_notT rfl rfl ?_
                | refine LA_notF rfl rfl ?_
                | refine LA_not rfl rfl ?_)
            | (show LA _ _ _ _ (⟨_, .extract _ _, _, _, _, _⟩ :: _) _; first
                | refine LA_ext0 rfl rfl ?_
                | refine LA_ext1 rfl rfl ?_
                | refine LA_ext30 rfl rfl ?_
                | refine LA_ext31 rfl rfl ?_
                | refine LA_ext32 rfl rfl ?_)
            | (show LA _ _ _ _ (⟨_, .binOp .add _ _ _ _, _, _, _, _⟩ :: _) _; first
                | refine LA_addF rfl rfl rfl (by dsimp only [fits]; omega) ?_
                | refine LA_addW rfl rfl rfl ?_)
            | (show LA _ _ _ _ (⟨_, .binOp .sub _ _ _ _, _, _, _, _⟩ :: _) _; first
                | refine LA_subF rfl rfl rfl (by dsimp only [fits]; omega) ?_
                | refine LA_subW rfl rfl rfl ?_)
            | (show LA _ _ _ _ (⟨_, .binOp .mul _ _ _ _, _, _, _, _⟩ :: _) _; first
                | refine LA_mulF rfl rfl rfl (by dsimp only [fits]; omega) ?_
                | refine LA_mulW rfl rfl rfl ?_)
            | (show LA _ _ _ _ (⟨_, .binOp .quo _ _ _ _, _, _, _, _⟩ :: _) _; first
                | refine LA_quo rfl rfl rfl (by omega) (by omega) (by dsimp only [fits]; omega) ?_)
            | (show LA _ _ _ _ (⟨_, .binOp .rem _ _ _ _, _, _, _, _⟩ :: _) _; first
                | refine LA_rem rfl rfl rfl (by omega) (by omega) (by dsimp only [fits]; omega) ?_)
            | (show LA _ _ _ _ (⟨_, .binOp .shr _ _ _ _, _, _, _, _⟩ :: _) _; first
                | (refine LA_shr rfl rfl rfl (by omega) (by dsimp only [IntKind.bits]; omega) ?_; try dsimp only [Int.reduceToNat, Int.reducePow]))
            | (show LA _ _ _ _ (⟨_, .binOp .shl _ _ _ _, _, _, _, _⟩ :: _) _; first
                | (refine LA_shl rfl rfl rfl (by omega) (by dsimp only [IntKind.bits]; omega) ?_; try dsimp only [Int.reduceToNat, Int.reducePow]))
            | (show LA _ _ _ _ (⟨_, .binOp _ _ _ _ _, _, _, _, _⟩ :: _) _; first
                | refine LA_cmpT rfl rfl rfl rfl (by first | (dsimp only [cmpP]; done) | (dsimp only [cmpP]; omega)) ?_
                | refine LA_cmpF rfl rfl rfl rfl (by dsimp only [cmpP]; omega) ?_
                | (refine LA_cmp rfl rfl rfl rfl (fun hc => ?_) (fun hc => ?_) <;> dsimp only [cmpP] at hc)
                | refine LA_boolEqT rfl rfl rfl rfl (by first | rfl | assumption) ?_
                | refine LA_boolEqF rfl rfl rfl rfl (by first | assumption | decide) ?_
                | refine LA_boolEq rfl rfl rfl rfl ?_
                | refine LA_boolNeT rfl rfl rfl rfl (by first | assumption | decide) ?_
                | refine LA_boolNeF rfl rfl rfl rfl (by first | rfl | assumption) ?_
                | refine LA_boolNe rfl rfl rfl rfl ?_)
            | (show LA _ _ _ _ (⟨_, .indexAddr _ _ _, _, _, _, _⟩ :: _) _; first
                | refine LA_indexN rfl _ rfl (fun _ => rfl) rfl (by first | exact HasI.val (by assumption) | exact HasI.pred | exact HasI.own | exact HasI.ownV (by assumption)) rfl (by omega) ?_
                | (refine LA_index rfl _ rfl (fun _ => rfl) rfl (by first | exact HasI.val (by assumption) | exact HasI.pred | exact HasI.own | exact HasI.ownV (by assumption)) rfl (by omega) (by omega) ?_; try dsimp only [Int.reduceToNat]))
            | (show LA _ _ _ _ (⟨_, .load _ _, _, _, _, _⟩ :: _) _; first
                | refine LA_load rfl (fun _ => rfl) rfl ?_)
            | (show LA _ _ _ _ (⟨_, .convert _ _ _, _, _, _, _⟩ :: _) _; first
                | refine LA_convF rfl rfl rfl rfl (by dsimp only [fits]; omega) ?_
                | refine LA_conv rfl rfl rfl rfl ?_)
            | (show LA _ _ _ _ (⟨_, .slice _ _ _ _ _, _, _, _, _⟩ :: _) _; first
                | (refine LA_sliceL rfl _ rfl rfl (by first | exact (HasI.val (by assumption)).c | exact HasI.pred.c | exact HasC.val (by assumption) | exact HasC.pred | exact HasI.own.c | exact HasC.own | exact (HasI.ownV (by assumption)).c | exact HasC.ownV (by assumption)) rfl (by omega) (by omega) (by exact fun _ => rfl) ?_; try dsimp only [Int.reduceToNat, Int.toNat_natCast])
                | (refine LA_sliceH rfl _ rfl rfl (by first | exact (HasI.val (by assumption)).c | exact HasI.pred.c | exact HasC.val (by assumption) | exact HasC.pred | exact HasI.own.c | exact HasC.own | exact (HasI.ownV (by assumption)).c | exact HasC.ownV (by assumption)) rfl (by omega) (by omega) (by exact fun _ => rfl) ?_; try dsimp only [Int.reduceToNat, Int.toNat_natCast])
                | (refine LA_sliceLH rfl _ rfl rfl (by first | exact (HasI.val (by assumption)).c | exact HasI.pred.c | exact HasC.val (by assumption) | exact HasC.pred | exact HasI.own.c | exact HasC.own | exact (HasI.ownV (by assumption)).c | exact HasC.ownV (by assumption)) rfl rfl (by omega) (by omega) (by omega) (by exact fun _ => rfl) ?_; try dsimp only [Int.reduceToNat, Int.toNat_natCast]))
            | (show LA _ _ _ _ (⟨_, .call ⟨.builtin .len, _, _⟩, _, _, _, _⟩ :: _) _; first
                | refine LA_len rfl _ rfl rfl (by first | exact (HasI.val (by assumption)).c | exact HasI.pred.c | exact HasC.val (by assumption) | exact HasC.pred | exact HasI.own.c | exact HasC.own | exact (HasI.ownV (by assumption)).c | exact HasC.ownV (by assumption)) ?_)
            | (show LA _ _ _ _ (⟨_, .call ⟨.value _, _, _⟩, _, _, _, _⟩ :: _) _; first
                | (show LA _ _ _ _ (⟨_, .call ⟨.value (.func 8), _, _⟩, _, _, _, _⟩ :: _) _; refine LA_call1 (f := 8) rfl rfl rfl  (.val (.bool true)) (by intro u1 w e hu1; (try obtain rfl : u1 = _ := hu1); exact ret_true (rmay_c _ _ xs (by first | exact hu1 | exact hu2 | exact hu3 | exact hu4 | exact hu5 | exact OwnI.slI hu1 | exact OwnI.slI hu2 | exact OwnI.slI hu3 | exact SlI.ext (by assumption) e | exact OwnI.slI (OwnI.ext (by assumption) e))) (decide_eq_true hi)) ?_)
                | (show LA _ _ _ _ (⟨_, .call ⟨.value (.func 9), _, _⟩, _, _, _, _⟩ :: _) _; refine LA_call0 (f := 9) rfl rfl  (.val (.bool true)) (by intro w e; exact known_c _) ?_)
                | (show LA _ _ _ _ (⟨_, .call ⟨.value (.func 18), _, _⟩, _, _, _, _⟩ :: _) _; refine LA_call2 (f := 18) rfl rfl rfl rfl  (.pred (ownI w.heap.size 29 .u16 (withS xs x))) (by intro u1 u2 w e hu1 hu2; (try obtain rfl : u1 = _ := hu1); (try obtain rfl : u2 = _ := hu2); exact (with_c _ _ xs x (by first | exact hu1 | exact hu2 | exact hu3 | exact hu4 | exact hu5 | exact OwnI.slI hu1 | exact OwnI.slI hu2 | exact OwnI.slI hu3 | exact SlI.ext (by assumption) e | exact OwnI.slI (OwnI.ext (by assumption) e)) (by omega)).mono (ret_base e.size)) ?_))
            | (refine LA_nil (hK [] _ (LX_nil ?_)); clear hK K)
            | (refine LA_nil (hK _ ?_); clear hK K))
          | (show CX _ _ _ _ _ _; first
            | refine CX_seq ?_
            | refine CX_skip ?_
            | refine CX_block ?_
            | refine CX_exit ?_
            | refine CX_ret ?_
            | refine CX_condT rfl ?_
            | refine CX_condF rfl ?_
            | refine CX_region (by kernel_rfl) (fun K hK => ?_)
            | refine CX_regionA (by kernel_rfl) (by kernel_rfl) (fun K hK => ?_)
            | refine CX_label ?_
            | refine CX_scope ?_)
          | (show PX _ _ _ _ _; first
            | refine PX_then ?_
            | refine PX_thenX ?_
            | refine PX_thenR ?_
            | refine PX_blockN ?_
            | refine PX_blockR ?_
            | refine PX_blockX ?_
            | refine PX_blockO (by decide) ?_
            | refine PX_scopeN ?_
            | refine PX_scopeR ?_
            | refine PX_scopeX ?_
            | exact PX_retE rfl rfl (Ext.refl _) rfl)
          | (show LX _ _ _ _ _ _ _; first
            | refine LX_nil ?_))
  · have := h.len
    repeat' (first
      | (show LA _ _ _ _ _ _; first
        | refine LA_pass rfl ?_
        | (show LA _ _ _ _ (⟨_, .move _, _, _, _, _⟩ :: _) _; first
            | refine LA_moveV rfl rfl ?_
            | refine LA_moveP rfl rfl ?_
            | refine LA_moveT rfl rfl ?_
            | refine LA_moveU rfl rfl ?_)
        | (show LA _ _ _ _ (⟨_, .assign _, _, _, _, _⟩ :: _) _; first
            | refine LA_assignV rfl rfl ?_
            | refine LA_assignP rfl rfl ?_
            | refine LA_assignT rfl rfl ?_)
        | (show LA _ _ _ _ (⟨_, .pick _ _ _, _, _, _, _⟩ :: _) _; first
            | refine LA_pickTV rfl rfl rfl ?_
            | refine LA_pickFV rfl rfl rfl ?_)
        | (show LA _ _ _ _ (⟨_, .unOp .not _ _, _, _, _, _⟩ :: _) _; first
            | refine LA_notT rfl rfl ?_
            | refine LA_notF rfl rfl ?_
            | refine LA_not rfl rfl ?_)
        | (show LA _ _ _ _ (⟨_, .extract _ _, _, _, _, _⟩ :: _) _; first
            | refine LA_ext0 rfl rfl ?_
            | refine LA_ext1 rfl rfl ?_
            | refine LA_ext30 rfl rfl ?_
            | refine LA_ext31 rfl rfl ?_
            | refine LA_ext32 rfl rfl ?_)
        | (show LA _ _ _ _ (⟨_, .binOp .add _ _ _ _, _, _, _, _⟩ :: _) _; first
            | refine LA_addF rfl rfl rfl (by dsimp only [fits]; omega) ?_
            | refine LA_addW rfl rfl rfl ?_)
        | (show LA _ _ _ _ (⟨_, .binOp .sub _ _ _ _, _, _, _, _⟩ :: _) _; first
            | refine LA_subF rfl rfl rfl (by dsimp only [fits]; omega) ?_
            | refine LA_subW rfl rfl rfl ?_)
        | (show LA _ _ _ _ (⟨_, .binOp .mul _ _ _ _, _, _, _, _⟩ :: _) _; first
            | refine LA_mulF rfl rfl rfl (by dsimp only [fits]; omega) ?_
            | refine LA_mulW rfl rfl rfl ?_)
        | (show LA _ _ _ _ (⟨_, .binOp .quo _ _ _ _, _, _, _, _⟩ :: _) _; first
            | refine LA_quo rfl rfl rfl (by omega) (by omega) (by dsimp only [fits]; omega) ?_)
        | (show LA _ _ _ _ (⟨_, .binOp .rem _ _ _ _, _, _, _, _⟩ :: _) _; first
            | refine LA_rem rfl rfl rfl (by omega) (by omega) (by dsimp only [fits]; omega) ?_)
        | (show LA _ _ _ _ (⟨_, .binOp .shr _ _ _ _, _, _, _, _⟩ :: _) _; first
            | (refine LA_shr rfl rfl rfl (by omega) (by dsimp only [IntKind.bits]; omega) ?_; try dsimp only [Int.reduceToNat, Int.reducePow]))
        | (show LA _ _ _ _ (⟨_, .binOp .shl _ _ _ _, _, _, _, _⟩ :: _) _; first
            | (refine LA_shl rfl rfl rfl (by omega) (by dsimp only [IntKind.bits]; omega) ?_; try dsimp only [Int.reduceToNat, Int.reducePow]))
        | (show LA _ _ _ _ (⟨_, .binOp _ _ _ _ _, _, _, _, _⟩ :: _) _; first
            | refine LA_cmpT rfl rfl rfl rfl (by first | (dsimp only [cmpP]; done) | (dsimp only [cmpP]; omega)) ?_
            | refine LA_cmpF rfl rfl rfl rfl (by dsimp only [cmpP]; omega) ?_
            | (refine LA_cmp rfl rfl rfl rfl (fun hc => ?_) (fun hc => ?_) <;> dsimp only [cmpP] at hc)
            | refine LA_boolEqT rfl rfl rfl rfl (by first | rfl | assumption) ?_
            | refine LA_boolEqF rfl rfl rfl rfl (by first | assumption | decide) ?_
            | refine LA_boolEq rfl rfl rfl rfl ?_
            | refine LA_boolNeT rfl rfl rfl rfl (by first | assumption | decide) ?_
            | refine LA_boolNeF rfl rfl rfl rfl (by first | rfl | assumption) ?_
            | refine LA_boolNe rfl rfl rfl rfl ?_)
        | (show LA _ _ _ _ (⟨_, .indexAddr _ _ _, _, _, _, _⟩ :: _) _; first
            | refine LA_indexN rfl _ rfl (fun _ => rfl) rfl (by first | exact HasI.val (by assumption) | exact HasI.pred | exact HasI.own | exact HasI.ownV (by assumption)) rfl (by omega) ?_
            | (refine LA_index rfl _ rfl (fun _ => rfl) rfl (by first | exact HasI.val (by assumption) | exact HasI.pred | exact HasI.own | exact HasI.ownV (by assumption)) rfl (by omega) (by omega) ?_; try dsimp only [Int.reduceToNat]))
        | (show LA _ _ _ _ (⟨_, .load _ _, _, _, _, _⟩ :: _) _; first
            | refine LA_load rfl (fun _ => rfl) rfl ?_)
        | (show LA _ _ _ _ (⟨_, .convert _ _ _, _, _, _, _⟩ :: _) _; first
            | refine LA_convF rfl rfl rfl rfl (by dsimp only [fits]; omega) ?_
            | refine LA_conv rfl rfl rfl rfl ?_)
        | (show LA _ _ _ _ (⟨_, .slice _ _ _ _ _, _, _, _, _⟩ :: _) _; first
            | (refine LA_sliceL rfl _ rfl rfl (by first | exact (HasI.val (by assumption)).c | exact HasI.pred.c | exact HasC.val (by assumption) | exact HasC.pred | exact HasI.own.c | exact HasC.own | exact (HasI.ownV (by assumption)).c | exact HasC.ownV (by assumption)) rfl (by omega) (by omega) (by exact fun _ => rfl) ?_; try dsimp only [Int.reduceToNat, Int.toNat_natCast])
            | (refine LA_sliceH rfl _ rfl rfl (by first | exact (HasI.val (by assumption)).c | exact HasI.pred.c | exact HasC.val (by assumption) | exact HasC.pred | exact HasI.own.c | exact HasC.own | exact (HasI.ownV (by assumption)).c | exact HasC.ownV (by assumption)) rfl (by omega) (by omega) (by exact fun _ => rfl) ?_; try dsimp only [Int.reduceToNat, Int.toNat_natCast])
            | (refine LA_sliceLH rfl _ rfl rfl (by first | exact (HasI.val (by assumption)).c | exact HasI.pred.c | exact HasC.val (by assumption) | exact HasC.pred | exact HasI.own.c | exact HasC.own | exact (HasI.ownV (by assumption)).c | exact HasC.ownV (by assumption)) rfl rfl (by omega) (by omega) (by omega) (by exact fun _ => rfl) ?_; try dsimp only [Int.reduceToNat, Int.toNat_natCast]))
        | (show LA _ _ _ _ (⟨_, .call ⟨.builtin .len, _, _⟩, _, _, _, _⟩ :: _) _; first
            | refine LA_len rfl _ rfl rfl (by first | exact (HasI.val (by assumption)).c | exact HasI.pred.c | exact HasC.val (by assumption) | exact HasC.pred | exact HasI.own.c | exact HasC.own | exact (HasI.ownV (by assumption)).c | exact HasC.ownV (by assumption)) ?_)
        | (show LA _ _ _ _ (⟨_, .call ⟨.value _, _, _⟩, _, _, _, _⟩ :: _) _; first
            | (show LA _ _ _ _ (⟨_, .call ⟨.value (.func 8), _, _⟩, _, _, _, _⟩ :: _) _; refine LA_call1 (f := 8) rfl rfl rfl  (.val (.bool false)) (by intro u1 w e hu1; (try obtain rfl : u1 = _ := hu1); exact ret_eq (by rw [decide_eq_false hi]) (rmay_c _ _ xs (by first | exact hu1 | exact hu2 | exact hu3 | exact hu4 | exact hu5 | exact OwnI.slI hu1 | exact OwnI.slI hu2 | exact OwnI.slI hu3 | exact SlI.ext (by assumption) e | exact OwnI.slI (OwnI.ext (by assumption) e)))) ?_)
            | (show LA _ _ _ _ (⟨_, .call ⟨.value (.func 9), _, _⟩, _, _, _, _⟩ :: _) _; refine LA_call0 (f := 9) rfl rfl  (.val (.bool true)) (by intro w e; exact known_c _) ?_))
        | (refine LA_nil (hK [] _ (LX_nil ?_)); clear hK K)
        | (refine LA_nil (hK _ ?_); clear hK K))
      | (show CX _ _ _ _ _ _; first
        | refine CX_seq ?_
        | refine CX_skip ?_
        | refine CX_block ?_
        | refine CX_exit ?_
        | refine CX_ret ?_
        | refine CX_condT rfl ?_
        | refine CX_condF rfl ?_
        | refine CX_region (by kernel_rfl) (fun K hK => ?_)
        | refine CX_regionA (by kernel_rfl) (by kernel_rfl) (fun K hK => ?_)
        | refine CX_label ?_
        | refine CX_scope ?_)
      | (show PX _ _ _ _ _; first
        | refine PX_then ?_
        | refine PX_thenX ?_
        | refine PX_thenR ?_
        | refine PX_blockN ?_
        | refine PX_blockR ?_
        | refine PX_blockX ?_
        | refine PX_blockO (by decide) ?_
        | refine PX_scopeN ?_
        | refine PX_scopeR ?_
        | refine PX_scopeX ?_
        | exact PX_retE rfl rfl (Ext.refl _) rfl)
      | (show LX _ _ _ _ _ _ _; first
        | refine LX_nil ?_))
end Go.Proofs.Ytbabdbiolofjdaa
