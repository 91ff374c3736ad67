import Derived.Test.YthcpljmibcacaaaR6

set_option linter.unusedSimpArgs false
set_option linter.unusedVariables false
namespace Go.Proofs.Ythcpljmibcacaaa
open Go.LA Go.ArrP Go.RowKit
theorem eqR_same (f m f' m' : Int) (hf : f = f') (hm : m = m') (x y : Operand) (w : World) : (do eqGuard .eql 25 x y (runV f m) (runV f' m'); binOp .eql 25 (runV f m) (runV f' m') : Sem Value).run Try.prog w = .ok (.bool true) w := by
  rw [eqR_op, decide_eq_true hf, decide_eq_true hm]; rfl
theorem touch_one (F M N : Int) (hF : 0 ≤ F) (hM : 0 ≤ M) (hN : 0 ≤ N) (h : F + M + 1 + N < 65536) : runsL (two (fun x y => x || y) (inR [(F, M)]) (inR [(F + M + 1, N)])) = [(F, M + N + 1)] := by
  rw [← right_L (right_one (f := F) (m := M + N + 1) hF (by omega)) (U16.one (by omega) (by omega) (by omega) (by omega))]
  refine runsL_congr fun i _ => ?_
  unfold two
  rw [Bool.eq_iff_iff]; simp [inR]; omega
theorem touch_two (F M N : Int) (hF : 0 ≤ F) (hM : 0 ≤ M) (hN : 0 ≤ N) (h : F + M + 2 + N < 65536) : runsL (two (fun x y => x || y) (inR [(F + M + 2, N)]) (inR [(F, M)])) = [(F, M), (F + M + 2, N)] := by
  rw [← right_L (right_two (f := F) (m := M) (f' := F + M + 2) (m' := N) hF (by omega) hN (by omega)) (U16.two (by omega) (by omega))]
  refine runsL_congr fun i _ => ?_
  unfold two
  rw [Bool.eq_iff_iff]; simp [inR]; omega
theorem touch_not (F M N : Int) : ¬ Right [(F, M), (F + M + 1, N)] := fun h => by
  have h1 : F + M + 2 ≤ F + M + 1 := (h 1 (by simp)).1
  omega
set_option maxHeartbeats 4000000 in
theorem touch_c (w : World) (F M N : Int) (hF : 0 ≤ F ∧ F < 65536) (hM : 0 ≤ M ∧ M < 65536) (hN : 0 ≤ N ∧ N < 65536) : Fc Try.prog 3 #[.int .u16 F, .int .u16 M, .int .u16 N] w (Ret w (.val (.bool true))) := by
  refine Fc.of (args := [_, _, _]) Try.func3 rfl rfl Try.ntmps3 (Nat.le_of_ble_eq_true rfl) ?_
  by_cases hbig : F + M + 1 + 1 + N ≥ 65536
  · skip
    repeat' (first
      | (show LA _ _ _ _ _ _; first
        | refine LA_pass rfl ?_
        | (show LA _ _ _ _ (⟨_, .move _, _, _, _, _⟩ :: _) _; first
            | refine LA_moveV rfl rfl ?_
            | refine LA_moveP rfl rfl ?_
            | refine LA_moveT rfl rfl ?_
            | refine LA_moveU rfl rfl ?_)
        | (show LA _ _ _ _ (⟨_, .assign _, _, _, _, _⟩ :: _) _; first
            | refine LA_assignV rfl rfl ?_
            | refine LA_assignP rfl rfl ?_
            | refine LA_assignT rfl rfl ?_)
        | (show LA _ _ _ _ (⟨_, .pick _ _ _, _, _, _, _⟩ :: _) _; first
            | refine LA_pickTV rfl rfl rfl ?_
            | refine LA_pickFV rfl rfl rfl ?_)
        | (show LA _ _ _ _ (⟨_, .unOp .not _ _, _, _, _, _⟩ :: _) _; first
            | refine LA_notT rfl rfl ?_
            | refine LA_notF rfl rfl ?_
            | refine LA_not rfl rfl ?_)
        | (show LA _ _ _ _ (⟨_, .extract _ _, _, _, _, _⟩ :: _) _; first
            | refine LA_ext0 rfl rfl ?_
            | refine LA_ext1 rfl rfl ?_
            | refine LA_ext30 rfl rfl ?_
            | refine LA_ext31 rfl rfl ?_
            | refine LA_ext32 rfl rfl ?_)
        | (show LA _ _ _ _ (⟨_, .binOp .add _ _ _ _, _, _, _, _⟩ :: _) _; first
            | refine LA_addF rfl rfl rfl (by dsimp only [fits]; omega) ?_
            | refine LA_addW rfl rfl rfl ?_)
        | (show LA _ _ _ _ (⟨_, .binOp .sub _ _ _ _, _, _, _, _⟩ :: _) _; first
            | refine LA_subF rfl rfl rfl (by dsimp only [fits]; omega) ?_
            | refine LA_subW rfl rfl rfl ?_)
        | (show LA _ _ _ _ (⟨_, .binOp .mul _ _ _ _, _, _, _, _⟩ :: _) _; first
            | refine LA_mulF rfl rfl rfl (by dsimp only [fits]; omega) ?_
            | refine LA_mulW rfl rfl rfl ?_)
        | (show LA _ _ _ _ (⟨_, .binOp .quo _ _ _ _, _, _, _, _⟩ :: _) _; first
            | refine LA_quo rfl rfl rfl (by omega) (by omega) (by dsimp only [fits]; omega) ?_)
        | (show LA _ _ _ _ (⟨_, .binOp .rem _ _ _ _, _, _, _, _⟩ :: _) _; first
            | refine LA_rem rfl rfl rfl (by omega) (by omega) (by dsimp only [fits]; omega) ?_)
        | (show LA _ _ _ _ (⟨_, .binOp .shr _ _ _ _, _, _, _, _⟩ :: _) _; first
            | (refine LA_shr rfl rfl rfl (by omega) (by dsimp only [IntKind.bits]; omega) ?_; try dsimp only [Int.reduceToNat, Int.reducePow]))
        | (show LA _ _ _ _ (⟨_, .binOp .shl _ _ _ _, _, _, _, _⟩ :: _) _; first
            | (refine LA_shl rfl rfl rfl (by omega) (by dsimp only [IntKind.bits]; omega) ?_; try dsimp only [Int.reduceToNat, Int.reducePow]))
        | (show LA _ _ _ _ (⟨_, .binOp _ _ _ _ _, _, _, _, _⟩ :: _) _; first
            | refine LA_cmpT rfl rfl rfl rfl (by first | (dsimp only [cmpP]; done) | (dsimp only [cmpP]; omega)) ?_
            | refine LA_cmpF rfl rfl rfl rfl (by dsimp only [cmpP]; omega) ?_
            | (refine LA_cmp rfl rfl rfl rfl (fun hc => ?_) (fun hc => ?_) <;> dsimp only [cmpP] at hc)
            | refine LA_boolEqT rfl rfl rfl rfl (by first | rfl | assumption) ?_
            | refine LA_boolEqF rfl rfl rfl rfl (by first | assumption | decide) ?_
            | refine LA_boolEq rfl rfl rfl rfl ?_
            | refine LA_boolNeT rfl rfl rfl rfl (by first | assumption | decide) ?_
            | refine LA_boolNeF rfl rfl rfl rfl (by first | rfl | assumption) ?_
            | refine LA_boolNe rfl rfl rfl rfl ?_)
        | (show LA _ _ _ _ (⟨_, .indexAddr _ _ _, _, _, _, _⟩ :: _) _; first
            | refine LA_indexN rfl _ rfl (fun _ => rfl) rfl (by first | exact HasI.val (by assumption) | exact HasI.pred | exact HasI.own | exact HasI.ownV (by assumption)) rfl (by omega) ?_
            | (refine LA_index rfl _ rfl (fun _ => rfl) rfl (by first | exact HasI.val (by assumption) | exact HasI.pred | exact HasI.own | exact HasI.ownV (by assumption)) rfl (by omega) (by omega) ?_; try dsimp only [Int.reduceToNat]))
        | (show LA _ _ _ _ (⟨_, .load _ _, _, _, _, _⟩ :: _) _; first
            | refine LA_load rfl (fun _ => rfl) rfl ?_)
        | (show LA _ _ _ _ (⟨_, .convert _ _ _, _, _, _, _⟩ :: _) _; first
            | refine LA_convF rfl rfl rfl rfl (by dsimp only [fits]; omega) ?_
            | refine LA_conv rfl rfl rfl rfl ?_)
        | (show LA _ _ _ _ (⟨_, .slice _ _ _ _ _, _, _, _, _⟩ :: _) _; first
            | (refine LA_sliceL rfl _ rfl rfl (by first | exact (HasI.val (by assumption)).c | exact HasI.pred.c | exact HasC.val (by assumption) | exact HasC.pred | exact HasI.own.c | exact HasC.own | exact (HasI.ownV (by assumption)).c | exact HasC.ownV (by assumption)) rfl (by omega) (by omega) (by exact fun _ => rfl) ?_; try dsimp only [Int.reduceToNat, Int.toNat_natCast])
            | (refine LA_sliceH rfl _ rfl rfl (by first | exact (HasI.val (by assumption)).c | exact HasI.pred.c | exact HasC.val (by assumption) | exact HasC.pred | exact HasI.own.c | exact HasC.own | exact (HasI.ownV (by assumption)).c | exact HasC.ownV (by assumption)) rfl (by omega) (by omega) (by exact fun _ => rfl) ?_; try dsimp only [Int.reduceToNat, Int.toNat_natCast])
            | (refine LA_sliceLH rfl _ rfl rfl (by first | exact (HasI.val (by assumption)).c | exact HasI.pred.c | exact HasC.val (by assumption) | exact HasC.pred | exact HasI.own.c | exact HasC.own | exact (HasI.ownV (by assumption)).c | exact HasC.ownV (by assumption)) rfl rfl (by omega) (by omega) (by omega) (by exact fun _ => rfl) ?_; try dsimp only [Int.reduceToNat, Int.toNat_natCast]))
        | (show LA _ _ _ _ (⟨_, .call ⟨.builtin .len, _, _⟩, _, _, _, _⟩ :: _) _; first
            | refine LA_len rfl _ rfl rfl (by first | exact (HasI.val (by assumption)).c | exact HasI.pred.c | exact HasC.val (by assumption) | exact HasC.pred | exact HasI.own.c | exact HasC.own | exact (HasI.ownV (by assumption)).c | exact HasC.ownV (by assumption)) ?_)
        | (show LA _ _ _ _ (⟨_, .call ⟨.value _, _, _⟩, _, _, _, _⟩ :: _) _; first
            | (show LA _ _ _ _ (⟨_, .call ⟨.value (.func 5), _, _⟩, _, _, _, _⟩ :: _) _; refine LA_call0 (f := 5) rfl rfl  (.val (.bool true)) (by intro w e; exact rknown_c _) ?_))
        | (refine LA_nil (hK [] _ (LX_nil ?_)); clear hK K)
        | (refine LA_nil (hK _ ?_); clear hK K))
      | (show CX _ _ _ _ _ _; first
        | refine CX_seq ?_
        | refine CX_skip ?_
        | refine CX_block ?_
        | refine CX_exit ?_
        | refine CX_ret ?_
        | refine CX_condT rfl ?_
        | refine CX_condF rfl ?_
        | refine CX_region (by kernel_rfl) (fun K hK => ?_)
        | refine CX_regionA (by kernel_rfl) (by kernel_rfl) (fun K hK => ?_)
        | refine CX_label ?_
        | refine CX_scope ?_)
      | (show PX _ _ _ _ _; first
        | refine PX_then ?_
        | refine PX_thenX ?_
        | refine PX_thenR ?_
        | refine PX_blockN ?_
        | refine PX_blockR ?_
        | refine PX_blockX ?_
        | refine PX_blockO (by decide) ?_
        | refine PX_scopeN ?_
        | refine PX_scopeR ?_
        | refine PX_scopeX ?_
        | exact PX_retE rfl rfl (Ext.refl _) rfl)
      | (show LX _ _ _ _ _ _ _; first
        | refine LX_nil ?_))
  · have rA : Right [(F, M)] := right_one hF.1 (by omega)
    have uA : U16 [(F, M)] := U16.one hF.1 hF.2 hM.1 hM.2
    have rB : Right [(F + M + 1, N)] := right_one (by omega) (by omega)
    have uB : U16 [(F + M + 1, N)] := U16.one (by omega) (by omega) hN.1 hN.2
    have rC : Right [(F + M + 2, N)] := right_one (by omega) (by omega)
    have uC : U16 [(F + M + 2, N)] := U16.one (by omega) (by omega) hN.1 hN.2
    have rT : Right [(F, M), (F + M + 2, N)] := right_two hF.1 (by omega) hN.1 (by omega)
    have uT : U16 [(F, M), (F + M + 2, N)] := U16.two (by omega) (by omega)
    have uN : U16 [(F, M), (F + M + 1, N)] := U16.two (by omega) (by omega)
    have t1 := touch_one F M N hF.1 hM.1 hN.1 (by omega)
    have t2 := touch_two F M N hF.1 hM.1 hN.1 (by omega)
    have e2 : F + M + 1 + 1 = F + M + 2 := by omega
    repeat' (first
      | (show LA _ _ _ _ _ _; first
        | refine LA_pass rfl ?_
        | (show LA _ _ _ _ (⟨some 28, _, _, _, _, _⟩ :: _) _; refine LA_build2 (c := runV F M) rfl rfl rfl (fun w => build_run _ _ w) ?_)
        | (show LA _ _ _ _ (⟨some 33, _, _, _, _, _⟩ :: _) _; refine LA_build2 (c := runV (F + M + 1) N) rfl rfl rfl (fun w => build_run _ _ w) ?_)
        | (show LA _ _ _ _ (⟨some 36, _, _, _, _, _⟩ :: _) _; refine LA_addF rfl rfl rfl (by dsimp only [fits]; omega) ?_; rw [e2])
        | (show LA _ _ _ _ (⟨some 39, _, _, _, _, _⟩ :: _) _; refine LA_build2 (c := runV (F + M + 2) N) rfl rfl rfl (fun w => build_run _ _ w) ?_)
        | (show LA _ _ _ _ (⟨some 59, _, _, _, _, _⟩ :: _) _; refine LA_build2 (c := runV F (M + N + 1)) rfl rfl rfl (fun w => build_run _ _ w) ?_)
        | refine LA_oneS rfl run_el rfl rfl (by decide) ?_
        | (show LA _ _ _ _ (⟨some 43, _, _, _, _, _⟩ :: _) _; show LA _ _ _ _ (⟨_, .call ⟨.value (.func 6), _, _⟩, _, _, _, _⟩ :: _) _; refine LA_call2 (f := 6) rfl rfl rfl rfl  (.pred (ownR w.heap.size 25 [(F, M + N + 1)])) (by intro u1 u2 w e hu1 hu2; (try obtain rfl : u1 = _ := hu1); (try obtain rfl : u2 = _ := hu2); exact (ror_c _ _ _ (inR [(F, M)]) (inR [(F + M + 1, N)]) (inR_cut rA uA (Nat.le_refl _)) (inR_cut rB uB (Nat.le_refl _)) (by rw [right_L rA uA]; exact slR_one hu1) (by rw [right_L rB uB]; exact slR_one hu2)).mono (ret_baseR e.size t1)) ?_)
        | (show LA _ _ _ _ (⟨some 46, _, _, _, _, _⟩ :: _) _; show LA _ _ _ _ (⟨_, .call ⟨.value (.func 6), _, _⟩, _, _, _, _⟩ :: _) _; refine LA_call2 (f := 6) rfl rfl rfl rfl  (.pred (ownR w.heap.size 25 [(F, M), (F + M + 2, N)])) (by intro u1 u2 w e hu1 hu2; (try obtain rfl : u1 = _ := hu1); (try obtain rfl : u2 = _ := hu2); exact (ror_c _ _ _ (inR [(F + M + 2, N)]) (inR [(F, M)]) (inR_cut rC uC (Nat.le_refl _)) (inR_cut rA uA (Nat.le_refl _)) (by rw [right_L rC uC]; exact slR_one hu1) (by rw [right_L rA uA]; exact slR_one hu2)).mono (ret_baseR e.size t2)) ?_)
        | (show LA _ _ _ _ (⟨some 53, _, _, _, _, _⟩ :: _) _; refine LA_loadC rfl (fun _ => rfl) (fun _ => rfl) rfl ?_)
        | (show LA _ _ _ _ (⟨some 52, _, _, _, _, _⟩ :: _) _; refine LA_indexR (j := 0) rfl _ rfl (fun _ => rfl) rfl HasR.own rfl (by simp) ?_)
        | (show LA _ _ _ _ (⟨some 69, _, _, _, _, _⟩ :: _) _; refine LA_indexR (j := 0) rfl _ rfl (fun _ => rfl) rfl HasR.own rfl (by simp) ?_)
        | (show LA _ _ _ _ (⟨some 78, _, _, _, _, _⟩ :: _) _; refine LA_indexR (j := 1) rfl _ rfl (fun _ => rfl) rfl HasR.own rfl (by simp) ?_)
        | (show LA _ _ _ _ (⟨some 72, _, _, _, _, _⟩ :: _) _; refine LA_indexR (rs := [(F, M)]) (j := 0) rfl _ rfl (fun _ => rfl) rfl HasC.own rfl (by simp) ?_)
        | (show LA _ _ _ _ (⟨some 81, _, _, _, _, _⟩ :: _) _; refine LA_indexR (rs := [(F + M + 2, N)]) (j := 0) rfl _ rfl (fun _ => rfl) rfl HasC.own rfl (by simp) ?_)
        | (show LA _ _ _ _ (⟨some 91, _, _, _, _, _⟩ :: _) _; refine LA_indexR (rs := [(F, M)]) (j := 0) rfl _ rfl (fun _ => rfl) rfl HasC.own rfl (by simp) ?_)
        | (show LA _ _ _ _ (⟨some 94, _, _, _, _, _⟩ :: _) _; refine LA_indexR (rs := [(F + M + 1, N)]) (j := 0) rfl _ rfl (fun _ => rfl) rfl HasC.own rfl (by simp) ?_)
        | (show LA _ _ _ _ (⟨some 96, _, _, _, _, _⟩ :: _) _; refine LA_twoR (f := F) (m := M) (f' := F + M + 1) (m' := N) rfl run_el rfl rfl ?_)
        | (show LA _ _ _ _ (⟨_, .binOp .eql 25 _ _ _, _, _, _, _⟩ :: _) _; refine LA_binV (c := .bool true) rfl rfl rfl (fun w => eqR_same _ _ _ _ rfl rfl _ _ w) ?_)
        | (show LA _ _ _ _ (⟨_, .call ⟨.builtin .len, _, _⟩, _, _, _, _⟩ :: _) _; refine LA_lenR rfl _ rfl rfl HasR.own ?_; dsimp only [List.length_cons, List.length_nil, Nat.reduceAdd, Nat.cast_ofNat_Int])
        | (show LA _ _ _ _ (⟨some 87, _, _, _, _, _⟩ :: _) _; show LA _ _ _ _ (⟨_, .call ⟨.value (.func 7), _, _⟩, _, _, _, _⟩ :: _) _; refine LA_call1 (f := 7) rfl rfl rfl  (.val (.bool true)) (by intro u1 w e hu1; (try obtain rfl : u1 = _ := hu1); exact ret_eq (by rw [decide_eq_true rT]) (rmayR_c _ _ _ (OwnR.slR hu1) uT)) ?_)
        | (show LA _ _ _ _ (⟨some 97, _, _, _, _, _⟩ :: _) _; show LA _ _ _ _ (⟨_, .call ⟨.value (.func 7), _, _⟩, _, _, _, _⟩ :: _) _; refine LA_call1 (f := 7) rfl rfl rfl  (.val (.bool false)) (by intro u1 w e hu1; (try obtain rfl : u1 = _ := hu1); exact ret_eq (by rw [decide_eq_false (touch_not F M N)]) (rmayR_c _ _ [(F, M), (F + M + 1, N)] (slR_two hu1) uN)) ?_)
        | (show LA _ _ _ _ (⟨_, .indexAddr _ _ _, _, _, _, _⟩ :: _) _; refine LA_indexR rfl _ rfl (fun _ => rfl) rfl (by first | exact HasR.val (by assumption) | exact HasR.own | exact HasR.ownV (by assumption)) rfl (by omega) ?_)
        | (show LA _ _ _ _ (⟨_, .load 25 _, _, _, _, _⟩ :: _) _; refine LA_loadC rfl (fun _ => rfl) (fun _ => rfl) rfl ?_)
        | (show LA _ _ _ _ (⟨some 99, .alloc _, _, _, _, _⟩ :: _) _; refine LA_stop (hK _ _ (LX_var rfl rfl (by decide) (fun _ => rfl) (fun _ => rfl) (fun _ => rfl) rfl (by intro u hu; simp [Value.cells] at hu; rcases hu with rfl | rfl <;> rfl) (fun bx wx ex hbx hbc => ?_))); clear hK K; refine LX_la (by kernel_rfl) (fun K hK => ?_))
        | (show LA _ _ _ _ (⟨_, .fieldAddr _ _ 0, _, _, _, _⟩ :: _) _; refine LA_fieldAddr (a := ⟨bx, 0, none⟩) (a' := ⟨bx, 0, none⟩) rfl rfl (fun _ => rfl) ?_)
        | (show LA _ _ _ _ (⟨_, .fieldAddr _ _ 1, _, _, _, _⟩ :: _) _; refine LA_fieldAddr (a := ⟨bx, 0, none⟩) (a' := ⟨bx, 1, none⟩) rfl rfl (fun _ => rfl) ?_)
        | (show LA _ _ _ _ (⟨_, .load 25 _, _, _, _, _⟩ :: _) _; refine LA_loadBN rfl (fun _ => rfl) (fun _ => rfl) rfl hbc ?_)
        | (show LA _ _ _ _ (⟨_, .load 22 _, _, _, _, _⟩ :: _) _; refine LA_loadB rfl (fun _ => rfl) rfl hbc rfl ?_)
        | (show LA _ _ _ _ (⟨_, .call ⟨.builtin .len, _, _⟩, _, _, _, _⟩ :: _) _; refine LA_lenR rfl _ rfl rfl (by first | exact HasR.val (by assumption) | exact HasR.own | exact HasR.ownV (by assumption)) ?_)
        | (show LA _ _ _ _ (⟨_, .move _, _, _, _, _⟩ :: _) _; first
            | refine LA_moveV rfl rfl ?_
            | refine LA_moveP rfl rfl ?_
            | refine LA_moveT rfl rfl ?_
            | refine LA_moveU rfl rfl ?_)
        | (show LA _ _ _ _ (⟨_, .assign _, _, _, _, _⟩ :: _) _; first
            | refine LA_assignV rfl rfl ?_
            | refine LA_assignP rfl rfl ?_
            | refine LA_assignT rfl rfl ?_)
        | (show LA _ _ _ _ (⟨_, .pick _ _ _, _, _, _, _⟩ :: _) _; first
            | refine LA_pickTV rfl rfl rfl ?_
            | refine LA_pickFV rfl rfl rfl ?_)
        | (show LA _ _ _ _ (⟨_, .unOp .not _ _, _, _, _, _⟩ :: _) _; first
            | refine LA_notT rfl rfl ?_
            | refine LA_notF rfl rfl ?_
            | refine LA_not rfl rfl ?_)
        | (show LA _ _ _ _ (⟨_, .extract _ _, _, _, _, _⟩ :: _) _; first
            | refine LA_ext0 rfl rfl ?_
            | refine LA_ext1 rfl rfl ?_
            | refine LA_ext30 rfl rfl ?_
            | refine LA_ext31 rfl rfl ?_
            | refine LA_ext32 rfl rfl ?_)
        | (show LA _ _ _ _ (⟨_, .binOp .add _ _ _ _, _, _, _, _⟩ :: _) _; first
            | refine LA_addF rfl rfl rfl (by dsimp only [fits]; omega) ?_
            | refine LA_addW rfl rfl rfl ?_)
        | (show LA _ _ _ _ (⟨_, .binOp .sub _ _ _ _, _, _, _, _⟩ :: _) _; first
            | refine LA_subF rfl rfl rfl (by dsimp only [fits]; omega) ?_
            | refine LA_subW rfl rfl rfl ?_)
        | (show LA _ _ _ _ (⟨_, .binOp .mul _ _ _ _, _, _, _, _⟩ :: _) _; first
            | refine LA_mulF rfl rfl rfl (by dsimp only [fits]; omega) ?_
            | refine LA_mulW rfl rfl rfl ?_)
        | (show LA _ _ _ _ (⟨_, .binOp .quo _ _ _ _, _, _, _, _⟩ :: _) _; first
            | refine LA_quo rfl rfl rfl (by omega) (by omega) (by dsimp only [fits]; omega) ?_)
        | (show LA _ _ _ _ (⟨_, .binOp .rem _ _ _ _, _, _, _, _⟩ :: _) _; first
            | refine LA_rem rfl rfl rfl (by omega) (by omega) (by dsimp only [fits]; omega) ?_)
        | (show LA _ _ _ _ (⟨_, .binOp .shr _ _ _ _, _, _, _, _⟩ :: _) _; first
            | (refine LA_shr rfl rfl rfl (by omega) (by dsimp only [IntKind.bits]; omega) ?_; try dsimp only [Int.reduceToNat, Int.reducePow]))
        | (show LA _ _ _ _ (⟨_, .binOp .shl _ _ _ _, _, _, _, _⟩ :: _) _; first
            | (refine LA_shl rfl rfl rfl (by omega) (by dsimp only [IntKind.bits]; omega) ?_; try dsimp only [Int.reduceToNat, Int.reducePow]))
        | (show LA _ _ _ _ (⟨_, .binOp _ _ _ _ _, _, _, _, _⟩ :: _) _; first
            | refine LA_cmpT rfl rfl rfl rfl (by first | (dsimp only [cmpP]; done) | (dsimp only [cmpP]; omega)) ?_
            | refine LA_cmpF rfl rfl rfl rfl (by dsimp only [cmpP]; omega) ?_
            | (refine LA_cmp rfl rfl rfl rfl (fun hc => ?_) (fun hc => ?_) <;> dsimp only [cmpP] at hc)
            | refine LA_boolEqT rfl rfl rfl rfl (by first | rfl | assumption) ?_
            | refine LA_boolEqF rfl rfl rfl rfl (by first | assumption | decide) ?_
            | refine LA_boolEq rfl rfl rfl rfl ?_
            | refine LA_boolNeT rfl rfl rfl rfl (by first | assumption | decide) ?_
            | refine LA_boolNeF rfl rfl rfl rfl (by first | rfl | assumption) ?_
            | refine LA_boolNe rfl rfl rfl rfl ?_)
        | (show LA _ _ _ _ (⟨_, .indexAddr _ _ _, _, _, _, _⟩ :: _) _; first
            | refine LA_indexN rfl _ rfl (fun _ => rfl) rfl (by first | exact HasI.val (by assumption) | exact HasI.pred | exact HasI.own | exact HasI.ownV (by assumption)) rfl (by omega) ?_
            | (refine LA_index rfl _ rfl (fun _ => rfl) rfl (by first | exact HasI.val (by assumption) | exact HasI.pred | exact HasI.own | exact HasI.ownV (by assumption)) rfl (by omega) (by omega) ?_; try dsimp only [Int.reduceToNat]))
        | (show LA _ _ _ _ (⟨_, .load _ _, _, _, _, _⟩ :: _) _; first
            | refine LA_load rfl (fun _ => rfl) rfl ?_)
        | (show LA _ _ _ _ (⟨_, .convert _ _ _, _, _, _, _⟩ :: _) _; first
            | refine LA_convF rfl rfl rfl rfl (by dsimp only [fits]; omega) ?_
            | refine LA_conv rfl rfl rfl rfl ?_)
        | (show LA _ _ _ _ (⟨_, .slice _ _ _ _ _, _, _, _, _⟩ :: _) _; first
            | (refine LA_sliceL rfl _ rfl rfl (by first | exact (HasI.val (by assumption)).c | exact HasI.pred.c | exact HasC.val (by assumption) | exact HasC.pred | exact HasI.own.c | exact HasC.own | exact (HasI.ownV (by assumption)).c | exact HasC.ownV (by assumption)) rfl (by omega) (by omega) (by exact fun _ => rfl) ?_; try dsimp only [Int.reduceToNat, Int.toNat_natCast])
            | (refine LA_sliceH rfl _ rfl rfl (by first | exact (HasI.val (by assumption)).c | exact HasI.pred.c | exact HasC.val (by assumption) | exact HasC.pred | exact HasI.own.c | exact HasC.own | exact (HasI.ownV (by assumption)).c | exact HasC.ownV (by assumption)) rfl (by omega) (by omega) (by exact fun _ => rfl) ?_; try dsimp only [Int.reduceToNat, Int.toNat_natCast])
            | (refine LA_sliceLH rfl _ rfl rfl (by first | exact (HasI.val (by assumption)).c | exact HasI.pred.c | exact HasC.val (by assumption) | exact HasC.pred | exact HasI.own.c | exact HasC.own | exact (HasI.ownV (by assumption)).c | exact HasC.ownV (by assumption)) rfl rfl (by omega) (by omega) (by omega) (by exact fun _ => rfl) ?_; try dsimp only [Int.reduceToNat, Int.toNat_natCast]))
        | (show LA _ _ _ _ (⟨_, .call ⟨.builtin .len, _, _⟩, _, _, _, _⟩ :: _) _; first
            | refine LA_len rfl _ rfl rfl (by first | exact (HasI.val (by assumption)).c | exact HasI.pred.c | exact HasC.val (by assumption) | exact HasC.pred | exact HasI.own.c | exact HasC.own | exact (HasI.ownV (by assumption)).c | exact HasC.ownV (by assumption)) ?_)
        | (show LA _ _ _ _ (⟨_, .call ⟨.value _, _, _⟩, _, _, _, _⟩ :: _) _; first
            | (show LA _ _ _ _ (⟨_, .call ⟨.value (.func 5), _, _⟩, _, _, _, _⟩ :: _) _; refine LA_call0 (f := 5) rfl rfl  (.val (.bool true)) (by intro w e; exact rknown_c _) ?_))
        | (refine LA_nil (hK [] _ (LX_nil ?_)); clear hK K)
        | (refine LA_nil (hK _ ?_); clear hK K))
      | (show CX _ _ _ _ _ _; first
        | refine CX_seq ?_
        | refine CX_skip ?_
        | refine CX_block ?_
        | refine CX_exit ?_
        | refine CX_ret ?_
        | refine CX_condT rfl ?_
        | refine CX_condF rfl ?_
        | refine CX_region (by kernel_rfl) (fun K hK => ?_)
        | refine CX_regionA (by kernel_rfl) (by kernel_rfl) (fun K hK => ?_)
        | refine CX_label ?_
        | refine CX_scope ?_)
      | (show PX _ _ _ _ _; first
        | refine PX_then ?_
        | refine PX_thenX ?_
        | refine PX_thenR ?_
        | refine PX_blockN ?_
        | refine PX_blockR ?_
        | refine PX_blockX ?_
        | refine PX_blockO (by decide) ?_
        | refine PX_scopeN ?_
        | refine PX_scopeR ?_
        | refine PX_scopeX ?_)
      | (show LX _ _ _ _ _ _ _; first
        | refine LX_nil ?_))
    all_goals skip
    all_goals first | exact PX_retE rfl rfl (Ext.refl _) rfl | exact absurd rfl hc
end Go.Proofs.Ythcpljmibcacaaa
