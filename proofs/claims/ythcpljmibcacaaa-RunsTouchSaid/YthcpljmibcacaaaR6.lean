import Derived.Test.YthcpljmibcacaaaR5

set_option linter.unusedSimpArgs false
set_option linter.unusedVariables false
namespace Go.Proofs.Ythcpljmibcacaaa
open Go.LA Go.ArrP Go.RowKit
theorem right_one {f m : Int} (h0 : 0 ≤ f) (h : f + m + 1 ≤ 65536) : Right [(f, m)] := fun k hk => by
  obtain rfl : k = 0 := by simp at hk; omega
  exact ⟨h0, h⟩
theorem right_two {f m f' m' : Int} (h0 : 0 ≤ f) (h : f + m + 2 ≤ f') (hm : 0 ≤ m') (h' : f' + m' + 1 ≤ 65536) : Right [(f, m), (f', m')] := fun k hk => by
  have : k = 0 ∨ k = 1 := by simp at hk; omega
  rcases this with rfl | rfl
  · exact ⟨h0, by show f + m + 1 ≤ 65536; omega⟩
  · exact ⟨h, h'⟩
theorem U16.two {f m f' m' : Int} (h : 0 ≤ f ∧ f < 65536 ∧ 0 ≤ m ∧ m < 65536) (h' : 0 ≤ f' ∧ f' < 65536 ∧ 0 ≤ m' ∧ m' < 65536) : U16 [(f, m), (f', m')] := fun x hx => by
  simp only [List.mem_cons, List.not_mem_nil, or_false] at hx
  rcases hx with rfl | rfl
  · exact h
  · exact h'
theorem kr_of : runsL (memb [1, 2, 3, 7]) = [(1, 2), (7, 0)] := by
  rw [← right_L (right_two (f := 1) (m := 2) (f' := 7) (m' := 0) (by decide) (by decide) (by decide) (by decide)) (U16.two (by decide) (by decide))]
  refine runsL_congr fun i _ => ?_
  rw [Bool.eq_iff_iff]; simp [memb, inR]; omega
theorem kr_one : runsL (inR [(1, 2)]) = [(1, 2)] := right_L (right_one (by decide) (by decide)) (U16.one (by decide) (by decide) (by decide) (by decide))
theorem kr_flip : runsL (two fXor' (inR [(1, 2)]) (spanM 0 3)) = [(0, 0), (3, 0)] := by
  rw [← right_L (right_two (f := 0) (m := 0) (f' := 3) (m' := 0) (by decide) (by decide) (by decide) (by decide)) (U16.two (by decide) (by decide))]
  refine runsL_congr fun i _ => ?_
  by_cases h0 : i = 0
  · subst h0; decide
  · by_cases h1 : i = 1
    · subst h1; decide
    · by_cases h2 : i = 2
      · subst h2; decide
      · by_cases h3 : i = 3
        · subst h3; decide
        · have e1 : inR [(1, 2)] i = false := by simp [inR]; omega
          have e2 : spanM 0 3 i = false := by simp [spanM]; omega
          have e3 : inR [(0, 0), (3, 0)] i = false := by simp [inR]; omega
          unfold two
          rw [e1, e2, e3]; rfl
theorem notright : ¬ Right [(1, 0), (2, 0)] := fun h => by
  have := (h 1 (by decide)).1
  simp [lst, fst, mor] at this
theorem kr_rank : rankR [(1, 2), (7, 0)] 3 = 2 := rfl
theorem kr_sel : selR [(1, 2), (7, 0)] 3 = (7, true) := rfl
theorem slR_one {w : World} {base : Nat} {v : Value} {f m : Int} (h : Own base 25 2 w v 1 (runV f m).cells.toList) : SlR w v [(f, m)] := Own.slC h
theorem slR_two {w : World} {base : Nat} {v : Value} {a b : Rn} (h : Own base 25 2 w v 2 (cellsR [a, b])) : SlR w v [a, b] := Own.slC h
theorem u16_four : El Try.prog 40 22 (.int .u16 0) 1 2 := ⟨rfl, rfl, rfl, by decide⟩
set_option maxHeartbeats 4000000 in
theorem rknown_c (w : World) : Fc Try.prog 5 #[] w (Ret w (.val (.bool true))) := by
  have hR : Right [(1, 2), (7, 0)] := right_two (f := 1) (m := 2) (f' := 7) (m' := 0) (by decide) (by decide) (by decide) (by decide)
  have hU : U16 [(1, 2), (7, 0)] := U16.two (by decide) (by decide)
  have hz : inR [(1, 2)] 65536 = false := rfl
  refine Fc.of (args := []) Try.func5 rfl rfl Try.ntmps5 (Nat.le_of_ble_eq_true rfl) ?_
  repeat' (first
    | (show LA _ _ _ _ _ _; first
      | refine LA_pass rfl ?_
      | refine LA_litI 22 .u16 [1, 2, 3, 7] rfl (fun _ => rfl) (fun _ => by kernel_rfl) rfl (by decide) ?_
      | (show LA _ _ _ _ (⟨some 7, _, _, _, _, _⟩ :: _) _; refine LA_build2 (c := runV 1 2) rfl rfl rfl (fun w => run_build w _ _ _ (by kernel_rfl)) ?_)
      | (show LA _ _ _ _ (⟨some 22, _, _, _, _, _⟩ :: _) _; refine LA_build2 (c := runV 1 2) rfl rfl rfl (fun w => run_build w _ _ _ (by kernel_rfl)) ?_)
      | (show LA _ _ _ _ (⟨some 29, _, _, _, _, _⟩ :: _) _; refine LA_build1 (c := runV 7 0) rfl rfl (fun w => run_build w _ _ _ (by kernel_rfl)) ?_)
      | (show LA _ _ _ _ (⟨some 41, _, _, _, _, _⟩ :: _) _; refine LA_build0 (c := runV 0 0) rfl (fun w => run_build w _ _ _ (by kernel_rfl)) ?_)
      | (show LA _ _ _ _ (⟨some 48, _, _, _, _, _⟩ :: _) _; refine LA_build1 (c := runV 3 0) rfl rfl (fun w => run_build w _ _ _ (by kernel_rfl)) ?_)
      | (show LA _ _ _ _ (⟨some 64, _, _, _, _, _⟩ :: _) _; refine LA_build1 (c := runV 1 0) rfl rfl (fun w => run_build w _ _ _ (by kernel_rfl)) ?_)
      | (show LA _ _ _ _ (⟨some 65, _, _, _, _, _⟩ :: _) _; refine LA_build1 (c := runV 2 0) rfl rfl (fun w => run_build w _ _ _ (by kernel_rfl)) ?_)
      | (show LA _ _ _ _ (⟨some 71, _, _, _, _, _⟩ :: _) _; refine LA_build1 (c := runV 65535 0) rfl rfl (fun w => run_build w _ _ _ (by kernel_rfl)) ?_)
      | (show LA _ _ _ _ (⟨some 66, _, _, _, _, _⟩ :: _) _; refine LA_twoR rfl run_el rfl rfl ?_)
      | refine LA_oneS rfl run_el rfl rfl (by decide) ?_
      | (show LA _ _ _ _ (⟨some 67, _, _, _, _, _⟩ :: _) _; show LA _ _ _ _ (⟨_, .call ⟨.value (.func 7), _, _⟩, _, _, _, _⟩ :: _) _; refine LA_call1 (f := 7) rfl rfl rfl  (.val (.bool false)) (by intro u1 w e hu1; (try obtain rfl : u1 = _ := hu1); exact ret_eq (by rw [decide_eq_false notright]) (rmayR_c _ _ [(1, 0), (2, 0)] (slR_two hu1) (U16.two (by decide) (by decide)))) ?_)
      | (show LA _ _ _ _ (⟨some 73, _, _, _, _, _⟩ :: _) _; show LA _ _ _ _ (⟨_, .call ⟨.value (.func 7), _, _⟩, _, _, _, _⟩ :: _) _; refine LA_call1 (f := 7) rfl rfl rfl  (.val (.bool true)) (by intro u1 w e hu1; (try obtain rfl : u1 = _ := hu1); exact ret_eq (by rw [decide_eq_true (right_one (f := 65535) (m := 0) (by decide) (by decide))]) (rmayR_c _ _ [(65535, 0)] (slR_one hu1) (U16.one (by decide) (by decide) (by decide) (by decide)))) ?_)
      | (show LA _ _ _ _ (⟨_, .call ⟨.builtin .len, _, _⟩, _, _, _, _⟩ :: _) _; refine LA_lenR rfl _ rfl rfl HasR.own ?_; dsimp only [List.length_cons, List.length_nil, Nat.reduceAdd, Nat.cast_ofNat_Int])
      | (show LA _ _ _ _ (⟨some 20, _, _, _, _, _⟩ :: _) _; refine LA_indexR (j := 0) rfl _ rfl (fun _ => rfl) rfl HasR.own rfl (by decide) ?_)
      | (show LA _ _ _ _ (⟨some 27, _, _, _, _, _⟩ :: _) _; refine LA_indexR (j := 1) rfl _ rfl (fun _ => rfl) rfl HasR.own rfl (by decide) ?_)
      | (show LA _ _ _ _ (⟨some 39, _, _, _, _, _⟩ :: _) _; refine LA_indexR (j := 0) rfl _ rfl (fun _ => rfl) rfl HasR.own rfl (by decide) ?_)
      | (show LA _ _ _ _ (⟨some 46, _, _, _, _, _⟩ :: _) _; refine LA_indexR (j := 1) rfl _ rfl (fun _ => rfl) rfl HasR.own rfl (by decide) ?_)
      | (show LA _ _ _ _ (⟨_, .binOp _ 25 _ _ _, _, _, _, _⟩ :: _) _; refine LA_binV (c := .bool true) rfl rfl rfl (fun w => eqR_op _ _ _ _ _ _ w) ?_)
      | (show LA _ _ _ _ (⟨_, .indexAddr _ _ _, _, _, _, _⟩ :: _) _; refine LA_indexR rfl _ rfl (fun _ => rfl) rfl (by first | exact HasR.val (by assumption) | exact HasR.own | exact HasR.ownV (by assumption)) rfl (by omega) ?_)
      | (show LA _ _ _ _ (⟨_, .load 25 _, _, _, _, _⟩ :: _) _; refine LA_loadC rfl (fun _ => rfl) (fun _ => rfl) rfl ?_)
      | (show LA _ _ _ _ (⟨some 99, .alloc _, _, _, _, _⟩ :: _) _; refine LA_stop (hK _ _ (LX_var rfl rfl (by decide) (fun _ => rfl) (fun _ => rfl) (fun _ => rfl) rfl (by intro u hu; simp [Value.cells] at hu; rcases hu with rfl | rfl <;> rfl) (fun bx wx ex hbx hbc => ?_))); clear hK K; refine LX_la (by kernel_rfl) (fun K hK => ?_))
      | (show LA _ _ _ _ (⟨_, .fieldAddr _ _ 0, _, _, _, _⟩ :: _) _; refine LA_fieldAddr (a := ⟨bx, 0, none⟩) (a' := ⟨bx, 0, none⟩) rfl rfl (fun _ => rfl) ?_)
      | (show LA _ _ _ _ (⟨_, .fieldAddr _ _ 1, _, _, _, _⟩ :: _) _; refine LA_fieldAddr (a := ⟨bx, 0, none⟩) (a' := ⟨bx, 1, none⟩) rfl rfl (fun _ => rfl) ?_)
      | (show LA _ _ _ _ (⟨_, .load 25 _, _, _, _, _⟩ :: _) _; refine LA_loadBN rfl (fun _ => rfl) (fun _ => rfl) rfl hbc ?_)
      | (show LA _ _ _ _ (⟨_, .load 22 _, _, _, _, _⟩ :: _) _; refine LA_loadB rfl (fun _ => rfl) rfl hbc rfl ?_)
      | (show LA _ _ _ _ (⟨_, .call ⟨.builtin .len, _, _⟩, _, _, _, _⟩ :: _) _; refine LA_lenR rfl _ rfl rfl (by first | exact HasR.val (by assumption) | exact HasR.own | exact HasR.ownV (by assumption)) ?_)
      | (show LA _ _ _ _ (⟨_, .move _, _, _, _, _⟩ :: _) _; first
          | refine LA_moveV rfl rfl ?_
          | refine LA_moveP rfl rfl ?_
          | refine LA_moveT rfl rfl ?_
          | refine LA_moveU rfl rfl ?_)
      | (show LA _ _ _ _ (⟨_, .assign _, _, _, _, _⟩ :: _) _; first
          | refine LA_assignV rfl rfl ?_
          | refine LA_assignP rfl rfl ?_
          | refine LA_assignT rfl rfl ?_)
      | (show LA _ _ _ _ (⟨_, .pick _ _ _, _, _, _, _⟩ :: _) _; first
          | refine LA_pickTV rfl rfl rfl ?_
          | refine LA_pickFV rfl rfl rfl ?_)
      | (show LA _ _ _ _ (⟨_, .unOp .not _ _, _, _, _, _⟩ :: _) _; first
          | refine LA_notT rfl rfl ?_
          | refine LA_notF rfl rfl ?_
          | refine LA_not rfl rfl ?_)
      | (show LA _ _ _ _ (⟨_, .extract _ _, _, _, _, _⟩ :: _) _; first
          | refine LA_ext0 rfl rfl ?_
          | refine LA_ext1 rfl rfl ?_
          | refine LA_ext30 rfl rfl ?_
          | refine LA_ext31 rfl rfl ?_
          | refine LA_ext32 rfl rfl ?_)
      | (show LA _ _ _ _ (⟨_, .binOp .add _ _ _ _, _, _, _, _⟩ :: _) _; first
          | refine LA_addF rfl rfl rfl (by dsimp only [fits]; omega) ?_
          | refine LA_addW rfl rfl rfl ?_)
      | (show LA _ _ _ _ (⟨_, .binOp .sub _ _ _ _, _, _, _, _⟩ :: _) _; first
          | refine LA_subF rfl rfl rfl (by dsimp only [fits]; omega) ?_
          | refine LA_subW rfl rfl rfl ?_)
      | (show LA _ _ _ _ (⟨_, .binOp .mul _ _ _ _, _, _, _, _⟩ :: _) _; first
          | refine LA_mulF rfl rfl rfl (by dsimp only [fits]; omega) ?_
          | refine LA_mulW rfl rfl rfl ?_)
      | (show LA _ _ _ _ (⟨_, .binOp .quo _ _ _ _, _, _, _, _⟩ :: _) _; first
          | refine LA_quo rfl rfl rfl (by omega) (by omega) (by dsimp only [fits]; omega) ?_)
      | (show LA _ _ _ _ (⟨_, .binOp .rem _ _ _ _, _, _, _, _⟩ :: _) _; first
          | refine LA_rem rfl rfl rfl (by omega) (by omega) (by dsimp only [fits]; omega) ?_)
      | (show LA _ _ _ _ (⟨_, .binOp .shr _ _ _ _, _, _, _, _⟩ :: _) _; first
          | (refine LA_shr rfl rfl rfl (by omega) (by dsimp only [IntKind.bits]; omega) ?_; try dsimp only [Int.reduceToNat, Int.reducePow]))
      | (show LA _ _ _ _ (⟨_, .binOp .shl _ _ _ _, _, _, _, _⟩ :: _) _; first
          | (refine LA_shl rfl rfl rfl (by omega) (by dsimp only [IntKind.bits]; omega) ?_; try dsimp only [Int.reduceToNat, Int.reducePow]))
      | (show LA _ _ _ _ (⟨_, .binOp _ _ _ _ _, _, _, _, _⟩ :: _) _; first
          | refine LA_cmpT rfl rfl rfl rfl (by first | (dsimp only [cmpP]; done) | (dsimp only [cmpP]; omega)) ?_
          | refine LA_cmpF rfl rfl rfl rfl (by dsimp only [cmpP]; omega) ?_
          | (refine LA_cmp rfl rfl rfl rfl (fun hc => ?_) (fun hc => ?_) <;> dsimp only [cmpP] at hc)
          | refine LA_boolEqT rfl rfl rfl rfl (by first | rfl | assumption) ?_
          | refine LA_boolEqF rfl rfl rfl rfl (by first | assumption | decide) ?_
          | refine LA_boolEq rfl rfl rfl rfl ?_
          | refine LA_boolNeT rfl rfl rfl rfl (by first | assumption | decide) ?_
          | refine LA_boolNeF rfl rfl rfl rfl (by first | rfl | assumption) ?_
          | refine LA_boolNe rfl rfl rfl rfl ?_)
      | (show LA _ _ _ _ (⟨_, .indexAddr _ _ _, _, _, _, _⟩ :: _) _; first
          | refine LA_indexN rfl _ rfl (fun _ => rfl) rfl (by first | exact HasI.val (by assumption) | exact HasI.pred | exact HasI.own | exact HasI.ownV (by assumption)) rfl (by omega) ?_
          | (refine LA_index rfl _ rfl (fun _ => rfl) rfl (by first | exact HasI.val (by assumption) | exact HasI.pred | exact HasI.own | exact HasI.ownV (by assumption)) rfl (by omega) (by omega) ?_; try dsimp only [Int.reduceToNat]))
      | (show LA _ _ _ _ (⟨_, .load _ _, _, _, _, _⟩ :: _) _; first
          | refine LA_load rfl (fun _ => rfl) rfl ?_)
      | (show LA _ _ _ _ (⟨_, .convert _ _ _, _, _, _, _⟩ :: _) _; first
          | refine LA_convF rfl rfl rfl rfl (by dsimp only [fits]; omega) ?_
          | refine LA_conv rfl rfl rfl rfl ?_)
      | (show LA _ _ _ _ (⟨_, .slice _ _ _ _ _, _, _, _, _⟩ :: _) _; first
          | (refine LA_sliceL rfl _ rfl rfl (by first | exact (HasI.val (by assumption)).c | exact HasI.pred.c | exact HasC.val (by assumption) | exact HasC.pred | exact HasI.own.c | exact HasC.own | exact (HasI.ownV (by assumption)).c | exact HasC.ownV (by assumption)) rfl (by omega) (by omega) (by exact fun _ => rfl) ?_; try dsimp only [Int.reduceToNat, Int.toNat_natCast])
          | (refine LA_sliceH rfl _ rfl rfl (by first | exact (HasI.val (by assumption)).c | exact HasI.pred.c | exact HasC.val (by assumption) | exact HasC.pred | exact HasI.own.c | exact HasC.own | exact (HasI.ownV (by assumption)).c | exact HasC.ownV (by assumption)) rfl (by omega) (by omega) (by exact fun _ => rfl) ?_; try dsimp only [Int.reduceToNat, Int.toNat_natCast])
          | (refine LA_sliceLH rfl _ rfl rfl (by first | exact (HasI.val (by assumption)).c | exact HasI.pred.c | exact HasC.val (by assumption) | exact HasC.pred | exact HasI.own.c | exact HasC.own | exact (HasI.ownV (by assumption)).c | exact HasC.ownV (by assumption)) rfl rfl (by omega) (by omega) (by omega) (by exact fun _ => rfl) ?_; try dsimp only [Int.reduceToNat, Int.toNat_natCast]))
      | (show LA _ _ _ _ (⟨_, .call ⟨.builtin .len, _, _⟩, _, _, _, _⟩ :: _) _; first
          | refine LA_len rfl _ rfl rfl (by first | exact (HasI.val (by assumption)).c | exact HasI.pred.c | exact HasC.val (by assumption) | exact HasC.pred | exact HasI.own.c | exact HasC.own | exact (HasI.ownV (by assumption)).c | exact HasC.ownV (by assumption)) ?_)
      | (show LA _ _ _ _ (⟨_, .call ⟨.value _, _, _⟩, _, _, _, _⟩ :: _) _; first
          | (show LA _ _ _ _ (⟨_, .call ⟨.value (.func 17), _, _⟩, _, _, _, _⟩ :: _) _; refine LA_call1 (f := 17) rfl rfl rfl  (.pred (ownR w.heap.size 25 [(1, 2), (7, 0)])) (by intro u1 w e hu1; (try obtain rfl : u1 = _ := hu1); exact (rofR_c _ _ [1, 2, 3, 7] (OwnI.slI hu1) (by decide) (by unfold Low; decide)).mono (ret_baseR e.size kr_of)) ?_)
          | (show LA _ _ _ _ (⟨_, .call ⟨.value (.func 12), _, _⟩, _, _, _, _⟩ :: _) _; refine LA_call3 (f := 12) rfl rfl rfl rfl rfl  (.pred (ownR w.heap.size 25 [(0, 0), (3, 0)])) (by intro u1 u2 u3 w e hu1 hu2 hu3; (try obtain rfl : u1 = _ := hu1); (try obtain rfl : u2 = _ := hu2); (try obtain rfl : u3 = _ := hu3); exact (rflip_c _ _ (inR [(1, 2)]) 0 3 hz (by rw [kr_one]; exact slR_one hu1) (by decide) (by decide)).mono (ret_baseR e.size kr_flip)) ?_)
          | (show LA _ _ _ _ (⟨_, .call ⟨.value (.func 13), _, _⟩, _, _, _, _⟩ :: _) _; refine LA_call2 (f := 13) rfl rfl rfl rfl  (.tup2 (.val (.int .u16 7)) (.val (.bool true))) (by intro u1 u2 w e hu1 hu2; (try obtain rfl : u1 = _ := hu1); (try obtain rfl : u2 = _ := hu2); exact ret_tup2R (by rw [kr_sel]) (by rw [kr_sel]) (rselR_c _ _ [(1, 2), (7, 0)] 3 (OwnR.slR hu1) hU hR (by decide))) ?_)
          | (show LA _ _ _ _ (⟨_, .call ⟨.value (.func 14), _, _⟩, _, _, _, _⟩ :: _) _; refine LA_call2 (f := 14) rfl rfl rfl rfl  (.val (.int .i64 2)) (by intro u1 u2 w e hu1 hu2; (try obtain rfl : u1 = _ := hu1); (try obtain rfl : u2 = _ := hu2); exact ret_eq (by rw [kr_rank]) (rrankR_c _ _ [(1, 2), (7, 0)] 3 (OwnR.slR hu1) hU (by decide) (by decide))) ?_))
      | (refine LA_nil (hK [] _ (LX_nil ?_)); clear hK K)
      | (refine LA_nil (hK _ ?_); clear hK K))
    | (show CX _ _ _ _ _ _; first
      | refine CX_seq ?_
      | refine CX_skip ?_
      | refine CX_block ?_
      | refine CX_exit ?_
      | refine CX_ret ?_
      | refine CX_condT rfl ?_
      | refine CX_condF rfl ?_
      | refine CX_region (by kernel_rfl) (fun K hK => ?_)
      | refine CX_regionA (by kernel_rfl) (by kernel_rfl) (fun K hK => ?_)
      | refine CX_label ?_
      | refine CX_scope ?_)
    | (show PX _ _ _ _ _; first
      | refine PX_then ?_
      | refine PX_thenX ?_
      | refine PX_thenR ?_
      | refine PX_blockN ?_
      | refine PX_blockR ?_
      | refine PX_blockX ?_
      | refine PX_blockO (by decide) ?_
      | refine PX_scopeN ?_
      | refine PX_scopeR ?_
      | refine PX_scopeX ?_)
    | (show LX _ _ _ _ _ _ _; first
      | refine LX_nil ?_))
  all_goals skip
  all_goals first | exact PX_retE rfl rfl (Ext.refl _) rfl | exact absurd rfl hc
end Go.Proofs.Ythcpljmibcacaaa
