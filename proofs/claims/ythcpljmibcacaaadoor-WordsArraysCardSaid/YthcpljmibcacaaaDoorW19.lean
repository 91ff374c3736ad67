import Derived.Test.YthcpljmibcacaaaDoorW18

set_option linter.unusedSimpArgs false
set_option linter.unusedVariables false
namespace Go.Proofs.YthcpljmibcacaaaDoor
open Go.LA Go.ArrP Go.RowKit
/-- What the j-th of the four calls tells, as an array. -/
def ca (p q : Nat → Bool) (j : Nat) : Nat → Bool := fun i => bothF ((j : Int) + 1) (p i) (q i)
theorem listS_both (p q : Nat → Bool) (what : Int) : listS (fun i => bothF what (memb (listS p 65536) i) (memb (listS q 65536) i)) 65536 = listS (fun i => bothF what (p i) (q i)) 65536 := listS_congr 65536 fun i hi => by
  rw [memb_listS p hi, memb_listS q hi]
theorem ma0 (p q : Nat → Bool) : mergeS fAnd (listS p 65536) (listS q 65536) = listS (ca p q 0) 65536 := (and_eq (listS_inc p _) (listS_inc q _) (listS_low p) (listS_low q)).trans (listS_both p q 1)
theorem ma1 (p q : Nat → Bool) : mergeS fOr (listS p 65536) (listS q 65536) = listS (ca p q 1) 65536 := (or_eq' (listS_inc p _) (listS_inc q _) (listS_low p) (listS_low q)).trans (listS_both p q 2)
theorem ma2 (p q : Nat → Bool) : mergeS fNot (listS p 65536) (listS q 65536) = listS (ca p q 2) 65536 := (not_eq (listS_inc p _) (listS_inc q _) (listS_low p) (listS_low q)).trans (listS_both p q 3)
theorem ma3 (p q : Nat → Bool) : mergeS fXor (listS p 65536) (listS q 65536) = listS (ca p q 3) 65536 := (xor_eq (listS_inc p _) (listS_inc q _) (listS_low p) (listS_low q)).trans (listS_both p q 4)
theorem wa0 (p q : Nat → Bool) : wordsOf (fun i => p i && q i) = wordsOf (ca p q 0) := wordsOf_congr fun i _ => by simp [ca, bothF]
theorem wa1 (p q : Nat → Bool) : wordsOf (fun i => p i || q i) = wordsOf (ca p q 1) := wordsOf_congr fun i _ => by simp [ca, bothF]
theorem wa2 (p q : Nat → Bool) : wordsOf (fun i => p i && !q i) = wordsOf (ca p q 2) := wordsOf_congr fun i _ => by simp [ca, bothF]
theorem wa3 (p q : Nat → Bool) : wordsOf (fun i => !(p i == q i)) = wordsOf (ca p q 3) := wordsOf_congr fun i _ => by simp [ca, bothF]
theorem four_cases {j : Nat} (h : j < 4) : j = 0 ∨ j = 1 ∨ j = 2 ∨ j = 3 := by omega
theorem four_one {v0 v1 v2 v3 : Value} (h0 : v0.oneCell' = true) (h1 : v1.oneCell' = true) (h2 : v2.oneCell' = true) (h3 : v3.oneCell' = true) : ∀ u ∈ (Value.agg #[v0, v1, v2, v3]).cells.toList, u.oneCell' = true := fun u hu => by
  simp only [Value.cells, List.mem_cons, List.not_mem_nil, or_false] at hu
  rcases hu with rfl | rfl | rfl | rfl <;> assumption
theorem build4w {v0 v1 v2 v3 : Value} (h0 : v0.cells = #[v0]) (h1 : v1.cells = #[v1]) (h2 : v2.cells = #[v2]) (h3 : v3.cells = #[v3]) (w : World) :
    (Instr.build 50 #[(0, v0), (1, v1), (2, v2), (3, v3)]).run Tryd.prog w = .ok (.agg #[v0, v1, v2, v3]) w := by
  have hz : (zeroValue 50).run Tryd.prog w = .ok (.agg #[.slice none 0 0, .slice none 0 0, .slice none 0 0, .slice none 0 0]) w := rfl
  have hu : (underlying 50).run Tryd.prog w = .ok (.array 4 24) w := rfl
  have hs : (sizeOf 24).run Tryd.prog w = .ok 1 w := rfl
  simp only [Instr.build, Sem.run_bind, hz, hu, hs, Result.andThen_ok]
  simp [Instr.fill, h0, h1, h2, h3, show ∀ cs, (Value.agg cs).cells = cs from fun _ => rfl]
theorem build4a {v0 v1 v2 v3 : Value} (h0 : v0.cells = #[v0]) (h1 : v1.cells = #[v1]) (h2 : v2.cells = #[v2]) (h3 : v3.cells = #[v3]) (w : World) :
    (Instr.build 52 #[(0, v0), (1, v1), (2, v2), (3, v3)]).run Tryd.prog w = .ok (.agg #[v0, v1, v2, v3]) w := by
  have hz : (zeroValue 52).run Tryd.prog w = .ok (.agg #[.slice none 0 0, .slice none 0 0, .slice none 0 0, .slice none 0 0]) w := rfl
  have hu : (underlying 52).run Tryd.prog w = .ok (.array 4 22) w := rfl
  have hs : (sizeOf 22).run Tryd.prog w = .ok 1 w := rfl
  simp only [Instr.build, Sem.run_bind, hz, hu, hs, Result.andThen_ok]
  simp [Instr.fill, h0, h1, h2, h3, show ∀ cs, (Value.agg cs).cells = cs from fun _ => rfl]
set_option maxHeartbeats 4000000 in
theorem warr_c (w : World) (va vb : Value) (xs ys : List Int) (ha : SlI .u16 w va xs) (hb : SlI .u16 w vb ys) (hl : Low xs) (hl' : Low ys) (hT : Tab w) : Fc Tryd.prog 7 #[va, vb] w (Ret w (.val (.bool true))) := by
  have hlen := ha.len
  have hlen' := hb.len
  refine Fc.of (args := [_, _]) Tryd.func7 rfl rfl Tryd.ntmps7 (Nat.le_of_ble_eq_true rfl) ?_
  obtain ⟨p, hp⟩ : ∃ p, p = memb xs := ⟨_, rfl⟩
  obtain ⟨q, hq⟩ : ∃ q, q = memb ys := ⟨_, rfl⟩
  obtain ⟨C, hC⟩ : ∃ C, C = fun j => wordsOf (ca p q j) := ⟨_, rfl⟩
  obtain ⟨A, hA⟩ : ∃ A, A = fun j => listS (ca p q j) 65536 := ⟨_, rfl⟩
  have hbd : Hid ((listS p 65536).length + (listS q 65536).length ≤ 70368744177663) := ⟨by rw [listS_len, listS_len]; have := cnt_le p 65536; have := cnt_le q 65536; omega⟩
  repeat' (first
    | (show LA _ _ _ _ _ _; first
      | refine LA_pass rfl ?_
      | (show LA _ _ _ _ (⟨some 22, _, _, _, _, _⟩ :: _) _; show LA _ _ _ _ (⟨_, .call ⟨.value (.func 10), _, _⟩, _, _, _, _⟩ :: _) _; refine LA_call1 (f := 10) rfl rfl rfl  (.pred (ownI w.heap.size 43 .u64 (wordsOf p))) (by intro u1 w e hu1; (try obtain rfl : u1 = _ := hu1); exact hp ▸ (wof_c _ _ xs (ha.ext e) hl).mono (ret_base e.size)) ?_)
      | (show LA _ _ _ _ (⟨some 24, _, _, _, _, _⟩ :: _) _; show LA _ _ _ _ (⟨_, .call ⟨.value (.func 10), _, _⟩, _, _, _, _⟩ :: _) _; refine LA_call1 (f := 10) rfl rfl rfl  (.pred (ownI w.heap.size 43 .u64 (wordsOf q))) (by intro u1 w e hu1; (try obtain rfl : u1 = _ := hu1); exact hq ▸ (wof_c _ _ ys (hb.ext e) hl').mono (ret_base e.size)) ?_)
      | (show LA _ _ _ _ (⟨some 26, _, _, _, _, _⟩ :: _) _; show LA _ _ _ _ (⟨_, .call ⟨.value (.func 11), _, _⟩, _, _, _, _⟩ :: _) _; refine LA_call1 (f := 11) rfl rfl rfl  (.pred (ownI w.heap.size 30 .u16 (listS p 65536))) (by intro u1 w e hu1; (try obtain rfl : u1 = _ := hu1); exact (wlistP _ _ p (OwnI.slI hu1) (hT.ext e)).mono (ret_base e.size)) ?_)
      | (show LA _ _ _ _ (⟨some 28, _, _, _, _, _⟩ :: _) _; show LA _ _ _ _ (⟨_, .call ⟨.value (.func 11), _, _⟩, _, _, _, _⟩ :: _) _; refine LA_call1 (f := 11) rfl rfl rfl  (.pred (ownI w.heap.size 30 .u16 (listS q 65536))) (by intro u1 w e hu1; (try obtain rfl : u1 = _ := hu1); exact (wlistP _ _ q (OwnI.slI hu1) (hT.ext e)).mono (ret_base e.size)) ?_)
      | (show LA _ _ _ _ (⟨some 29, _, _, _, _, _⟩ :: _) _; refine LA_stop (hK _ _ (LX_pick 5 rfl (fun v5 w1 e1 h5 => LX_pick 6 rfl (fun v6 w2 e2 h6 => LX_pick 7 rfl (fun v7 w3 e3 h7 => LX_pick 8 rfl (fun v8 w4 e4 h8 => ?_)))))); clear hK K; have h5 : OwnI w.heap.size 43 .u64 w4 v5 (wordsOf p) := OwnI.ext h5 (e2.trans (e3.trans e4)); have h6 : OwnI w.heap.size 43 .u64 w4 v6 (wordsOf q) := OwnI.ext h6 (e3.trans e4); have h7 : OwnI w.heap.size 30 .u16 w4 v7 (listS p 65536) := OwnI.ext h7 e4; have h8 : OwnI w.heap.size 30 .u16 w4 v8 (listS q 65536) := h8; have x4 : Ext w w4 := (e1.trans e2).trans (e3.trans e4); clear e1 e2 e3 e4; refine LX_la (by kernel_rfl) (fun K hK => ?_))
      | (show LA _ _ _ _ (⟨some 31, _, _, _, _, _⟩ :: _) _; show LA _ _ _ _ (⟨_, .call ⟨.value (.func 18), _, _⟩, _, _, _, _⟩ :: _) _; refine LA_call2 (f := 18) rfl rfl rfl rfl  (.pred (ownI w4.heap.size 43 .u64 (C 0))) (by intro u1 u2 w e hu1 hu2; (try obtain rfl : u1 = _ := hu1); (try obtain rfl : u2 = _ := hu2); exact (wandP _ _ _ p q (OwnI.slI (h5.ext e)) (OwnI.slI (h6.ext e))).mono (ret_w e.size (by rw [hC]; exact wa0 p q))) ?_)
      | (show LA _ _ _ _ (⟨some 34, _, _, _, _, _⟩ :: _) _; show LA _ _ _ _ (⟨_, .call ⟨.value (.func 20), _, _⟩, _, _, _, _⟩ :: _) _; refine LA_call2 (f := 20) rfl rfl rfl rfl  (.pred (ownI w4.heap.size 43 .u64 (C 1))) (by intro u1 u2 w e hu1 hu2; (try obtain rfl : u1 = _ := hu1); (try obtain rfl : u2 = _ := hu2); exact (worP _ _ _ p q (OwnI.slI (h5.ext e)) (OwnI.slI (h6.ext e))).mono (ret_w e.size (by rw [hC]; exact wa1 p q))) ?_)
      | (show LA _ _ _ _ (⟨some 37, _, _, _, _, _⟩ :: _) _; show LA _ _ _ _ (⟨_, .call ⟨.value (.func 21), _, _⟩, _, _, _, _⟩ :: _) _; refine LA_call2 (f := 21) rfl rfl rfl rfl  (.pred (ownI w4.heap.size 43 .u64 (C 2))) (by intro u1 u2 w e hu1 hu2; (try obtain rfl : u1 = _ := hu1); (try obtain rfl : u2 = _ := hu2); exact (wnotP _ _ _ p q (OwnI.slI (h5.ext e)) (OwnI.slI (h6.ext e))).mono (ret_w e.size (by rw [hC]; exact wa2 p q))) ?_)
      | (show LA _ _ _ _ (⟨some 40, _, _, _, _, _⟩ :: _) _; show LA _ _ _ _ (⟨_, .call ⟨.value (.func 22), _, _⟩, _, _, _, _⟩ :: _) _; refine LA_call2 (f := 22) rfl rfl rfl rfl  (.pred (ownI w4.heap.size 43 .u64 (C 3))) (by intro u1 u2 w e hu1 hu2; (try obtain rfl : u1 = _ := hu1); (try obtain rfl : u2 = _ := hu2); exact (wxorP _ _ _ p q (OwnI.slI (h5.ext e)) (OwnI.slI (h6.ext e))).mono (ret_w e.size (by rw [hC]; exact wa3 p q))) ?_)
      | (show LA _ _ _ _ (⟨some 41, _, _, _, _, _⟩ :: _) _; refine LA_stop (hK _ _ (LX_pick 31 rfl (fun g0 y1 e1 r0 => LX_pick 34 rfl (fun g1 y2 e2 r1 => LX_pick 37 rfl (fun g2 y3 e3 r2 => LX_pick 40 rfl (fun g3 y4 e4 r3 => ?_)))))); clear hK K; have r0 : OwnI w4.heap.size 43 .u64 y4 g0 (C 0) := OwnI.ext r0 (e2.trans (e3.trans e4)); have r1 : OwnI w4.heap.size 43 .u64 y4 g1 (C 1) := OwnI.ext r1 (e3.trans e4); have r2 : OwnI w4.heap.size 43 .u64 y4 g2 (C 2) := OwnI.ext r2 e4; have r3 : OwnI w4.heap.size 43 .u64 y4 g3 (C 3) := r3; have h45 : Ext w4 y4 := (e1.trans e2).trans (e3.trans e4); clear e1 e2 e3 e4; have h7 := h7.ext h45; have h8 := h8.ext h45; refine LX_la (by kernel_rfl) (fun K hK => LA_build4 (c := .agg #[g0, g1, g2, g3]) rfl rfl rfl rfl rfl (build4w (OwnI.cells r0) (OwnI.cells r1) (OwnI.cells r2) (OwnI.cells r3)) ?_))
      | (show LA _ _ _ _ (⟨some 9, .alloc _, _, _, _, _⟩ :: _) _; refine LA_alloc rfl (fun _ => rfl) ?_)
      | (show LA _ _ _ _ (⟨none, .store _ _ _, _, _, _, _⟩ :: _) _; refine LA_stop (hK _ _ (LX_pick 9 rfl (fun v9 y5 e5 h9 => ?_))); clear hK K)
      | (show LA _ _ _ _ (⟨_, .move _, _, _, _, _⟩ :: _) _; first
          | refine LA_moveV rfl rfl ?_
          | refine LA_moveP rfl rfl ?_
          | refine LA_moveT rfl rfl ?_
          | refine LA_moveU rfl rfl ?_)
      | (show LA _ _ _ _ (⟨_, .assign _, _, _, _, _⟩ :: _) _; first
          | refine LA_assignV rfl rfl ?_
          | refine LA_assignP rfl rfl ?_
          | refine LA_assignT rfl rfl ?_)
      | (show LA _ _ _ _ (⟨_, .pick _ _ _, _, _, _, _⟩ :: _) _; first
          | refine LA_pickTV rfl rfl rfl ?_
          | refine LA_pickFV rfl rfl rfl ?_)
      | (show LA _ _ _ _ (⟨_, .unOp .not _ _, _, _, _, _⟩ :: _) _; first
          | refine LA_notT rfl rfl ?_
          | refine LA_notF rfl rfl ?_
          | refine LA_not rfl rfl ?_)
      | (show LA _ _ _ _ (⟨_, .extract _ _, _, _, _, _⟩ :: _) _; first
          | refine LA_ext0 rfl rfl ?_
          | refine LA_ext1 rfl rfl ?_
          | refine LA_ext30 rfl rfl ?_
          | refine LA_ext31 rfl rfl ?_
          | refine LA_ext32 rfl rfl ?_)
      | (show LA _ _ _ _ (⟨_, .binOp .add _ _ _ _, _, _, _, _⟩ :: _) _; first
          | refine LA_addF rfl rfl rfl (by dsimp only [fits]; omega) ?_
          | refine LA_addW rfl rfl rfl ?_)
      | (show LA _ _ _ _ (⟨_, .binOp .sub _ _ _ _, _, _, _, _⟩ :: _) _; first
          | refine LA_subF rfl rfl rfl (by dsimp only [fits]; omega) ?_
          | refine LA_subW rfl rfl rfl ?_)
      | (show LA _ _ _ _ (⟨_, .binOp .mul _ _ _ _, _, _, _, _⟩ :: _) _; first
          | refine LA_mulF rfl rfl rfl (by dsimp only [fits]; omega) ?_
          | refine LA_mulW rfl rfl rfl ?_)
      | (show LA _ _ _ _ (⟨_, .binOp .quo _ _ _ _, _, _, _, _⟩ :: _) _; first
          | refine LA_quo rfl rfl rfl (by omega) (by omega) (by dsimp only [fits]; omega) ?_)
      | (show LA _ _ _ _ (⟨_, .binOp .rem _ _ _ _, _, _, _, _⟩ :: _) _; first
          | refine LA_rem rfl rfl rfl (by omega) (by omega) (by dsimp only [fits]; omega) ?_)
      | (show LA _ _ _ _ (⟨_, .binOp .shr _ _ _ _, _, _, _, _⟩ :: _) _; first
          | (refine LA_shr rfl rfl rfl (by omega) (by dsimp only [IntKind.bits]; omega) ?_; try dsimp only [Int.reduceToNat, Int.reducePow]))
      | (show LA _ _ _ _ (⟨_, .binOp .shl _ _ _ _, _, _, _, _⟩ :: _) _; first
          | (refine LA_shl rfl rfl rfl (by omega) (by dsimp only [IntKind.bits]; omega) ?_; try dsimp only [Int.reduceToNat, Int.reducePow]))
      | (show LA _ _ _ _ (⟨_, .binOp _ _ _ _ _, _, _, _, _⟩ :: _) _; first
          | refine LA_cmpT rfl rfl rfl rfl (by first | (dsimp only [cmpP]; done) | (dsimp only [cmpP]; omega)) ?_
          | refine LA_cmpF rfl rfl rfl rfl (by dsimp only [cmpP]; omega) ?_
          | (refine LA_cmp rfl rfl rfl rfl (fun hc => ?_) (fun hc => ?_) <;> dsimp only [cmpP] at hc)
          | refine LA_boolEqT rfl rfl rfl rfl (by first | rfl | assumption) ?_
          | refine LA_boolEqF rfl rfl rfl rfl (by first | assumption | decide) ?_
          | refine LA_boolEq rfl rfl rfl rfl ?_
          | refine LA_boolNeT rfl rfl rfl rfl (by first | assumption | decide) ?_
          | refine LA_boolNeF rfl rfl rfl rfl (by first | rfl | assumption) ?_
          | refine LA_boolNe rfl rfl rfl rfl ?_)
      | (show LA _ _ _ _ (⟨_, .indexAddr _ _ _, _, _, _, _⟩ :: _) _; first
          | refine LA_indexN rfl _ rfl (fun _ => rfl) rfl (by first | exact HasI.val (by assumption) | exact HasI.pred | exact HasI.own | exact HasI.ownV (by assumption)) rfl (by omega) ?_
          | (refine LA_index rfl _ rfl (fun _ => rfl) rfl (by first | exact HasI.val (by assumption) | exact HasI.pred | exact HasI.own | exact HasI.ownV (by assumption)) rfl (by omega) (by omega) ?_; try dsimp only [Int.reduceToNat]))
      | (show LA _ _ _ _ (⟨_, .load _ _, _, _, _, _⟩ :: _) _; first
          | refine LA_load rfl (fun _ => rfl) rfl ?_)
      | (show LA _ _ _ _ (⟨_, .convert _ _ _, _, _, _, _⟩ :: _) _; first
          | refine LA_convF rfl rfl rfl rfl (by dsimp only [fits]; omega) ?_
          | refine LA_conv rfl rfl rfl rfl ?_)
      | (show LA _ _ _ _ (⟨_, .slice _ _ _ _ _, _, _, _, _⟩ :: _) _; first
          | (refine LA_sliceL rfl _ rfl rfl (by first | exact (HasI.val (by assumption)).c | exact HasI.pred.c | exact HasC.val (by assumption) | exact HasC.pred | exact HasI.own.c | exact HasC.own | exact (HasI.ownV (by assumption)).c | exact HasC.ownV (by assumption)) rfl (by omega) (by omega) (by exact fun _ => rfl) ?_; try dsimp only [Int.reduceToNat, Int.toNat_natCast])
          | (refine LA_sliceH rfl _ rfl rfl (by first | exact (HasI.val (by assumption)).c | exact HasI.pred.c | exact HasC.val (by assumption) | exact HasC.pred | exact HasI.own.c | exact HasC.own | exact (HasI.ownV (by assumption)).c | exact HasC.ownV (by assumption)) rfl (by omega) (by omega) (by exact fun _ => rfl) ?_; try dsimp only [Int.reduceToNat, Int.toNat_natCast])
          | (refine LA_sliceLH rfl _ rfl rfl (by first | exact (HasI.val (by assumption)).c | exact HasI.pred.c | exact HasC.val (by assumption) | exact HasC.pred | exact HasI.own.c | exact HasC.own | exact (HasI.ownV (by assumption)).c | exact HasC.ownV (by assumption)) rfl rfl (by omega) (by omega) (by omega) (by exact fun _ => rfl) ?_; try dsimp only [Int.reduceToNat, Int.toNat_natCast]))
      | (show LA _ _ _ _ (⟨_, .call ⟨.builtin .len, _, _⟩, _, _, _, _⟩ :: _) _; first
          | refine LA_len rfl _ rfl rfl (by first | exact (HasI.val (by assumption)).c | exact HasI.pred.c | exact HasC.val (by assumption) | exact HasC.pred | exact HasI.own.c | exact HasC.own | exact (HasI.ownV (by assumption)).c | exact HasC.ownV (by assumption)) ?_)
      | (show LA _ _ _ _ (⟨_, .call ⟨.value _, _, _⟩, _, _, _, _⟩ :: _) _; first
          | (show LA _ _ _ _ (⟨_, .call ⟨.value (.func 9), _, _⟩, _, _, _, _⟩ :: _) _; refine LA_call0 (f := 9) rfl rfl  (.val (.bool true)) (by intro w e; exact known_c _ (hT.ext e)) ?_))
      | (refine LA_nil (hK [] _ (LX_nil ?_)); clear hK K)
      | (refine LA_nil (hK _ ?_); clear hK K))
    | (show CX _ _ _ _ _ _; first
      | refine CX_seq ?_
      | refine CX_skip ?_
      | refine CX_block ?_
      | refine CX_exit ?_
      | refine CX_ret ?_
      | refine CX_condT rfl ?_
      | refine CX_condF rfl ?_
      | refine CX_region (by kernel_rfl) (fun K hK => ?_)
      | refine CX_regionA (by kernel_rfl) (by kernel_rfl) (fun K hK => ?_)
      | refine CX_label ?_
      | refine CX_scope ?_)
    | (show PX _ _ _ _ _; first
      | refine PX_then ?_
      | refine PX_thenX ?_
      | refine PX_thenR ?_
      | refine PX_blockN ?_
      | refine PX_blockR ?_
      | refine PX_blockX ?_
      | refine PX_blockO (by decide) ?_
      | refine PX_scopeN ?_
      | refine PX_scopeR ?_
      | refine PX_scopeX ?_
      | exact PX_retE rfl rfl (Ext.refl _) rfl)
    | (show LX _ _ _ _ _ _ _; first
      | refine LX_nil ?_))
  obtain ⟨bw, hbw, rfl, hbw'⟩ := h9
  refine LX_storeAll rfl rfl rfl hbw' (fun _ => rfl) rfl (four_one (OwnI.one r0) (OwnI.one r1) (OwnI.one r2) (OwnI.one r3)) (fun y6 e6 => ?_)
  dsimp only [vals]
  obtain ⟨y, hy⟩ : ∃ y, y = y6.setRow bw (Value.agg #[g0, g1, g2, g3]).cells := ⟨_, rfl⟩
  rw [← hy]
  have qy : Ext y4 y := hy ▸ (e5.trans e6).setRow hbw _
  have hW : y.heap[bw]? = some (.cells #[g0, g1, g2, g3] 50 (0, 0)) := hy ▸ setRow_heap y6 bw _ _ _ (0, 0) (e6.block hbw')
  have z0 := r0.ext qy; have z1 := r1.ext qy; have z2 := r2.ext qy; have z3 := r3.ext qy
  have h7y := h7.ext qy; have h8y := h8.ext qy
  have xy : Ext w y := (x4.trans h45).trans qy
  clear hy e5 e6 hbw hbw' r0 r1 r2 r3
  repeat' (first
    | (show LA _ _ _ _ _ _; first
      | refine LA_pass rfl ?_
      | (show LA _ _ _ _ (⟨some 44, _, _, _, _, _⟩ :: _) _; show LA _ _ _ _ (⟨_, .call ⟨.value (.func 31), _, _⟩, _, _, _, _⟩ :: _) _; refine LA_call2 (f := 31) rfl rfl rfl rfl  (.pred (ownI y.heap.size 30 .u16 (A 0))) (by intro u1 u2 w e hu1 hu2; (try obtain rfl : u1 = _ := hu1); (try obtain rfl : u2 = _ := hu2); exact (and_c _ _ _ (listS p 65536) (listS q 65536) (OwnI.slI (h7y.ext e)) (OwnI.slI (h8y.ext e)) hbd.out).mono (ret_w e.size (by rw [hA]; exact ma0 p q))) ?_)
      | (show LA _ _ _ _ (⟨some 47, _, _, _, _, _⟩ :: _) _; show LA _ _ _ _ (⟨_, .call ⟨.value (.func 32), _, _⟩, _, _, _, _⟩ :: _) _; refine LA_call2 (f := 32) rfl rfl rfl rfl  (.pred (ownI y.heap.size 30 .u16 (A 1))) (by intro u1 u2 w e hu1 hu2; (try obtain rfl : u1 = _ := hu1); (try obtain rfl : u2 = _ := hu2); exact (or_c _ _ _ (listS p 65536) (listS q 65536) (OwnI.slI (h7y.ext e)) (OwnI.slI (h8y.ext e)) hbd.out).mono (ret_w e.size (by rw [hA]; exact ma1 p q))) ?_)
      | (show LA _ _ _ _ (⟨some 50, _, _, _, _, _⟩ :: _) _; show LA _ _ _ _ (⟨_, .call ⟨.value (.func 33), _, _⟩, _, _, _, _⟩ :: _) _; refine LA_call2 (f := 33) rfl rfl rfl rfl  (.pred (ownI y.heap.size 30 .u16 (A 2))) (by intro u1 u2 w e hu1 hu2; (try obtain rfl : u1 = _ := hu1); (try obtain rfl : u2 = _ := hu2); exact (andnot_c _ _ _ (listS p 65536) (listS q 65536) (OwnI.slI (h7y.ext e)) (OwnI.slI (h8y.ext e)) hbd.out).mono (ret_w e.size (by rw [hA]; exact ma2 p q))) ?_)
      | (show LA _ _ _ _ (⟨some 53, _, _, _, _, _⟩ :: _) _; show LA _ _ _ _ (⟨_, .call ⟨.value (.func 34), _, _⟩, _, _, _, _⟩ :: _) _; refine LA_call2 (f := 34) rfl rfl rfl rfl  (.pred (ownI y.heap.size 30 .u16 (A 3))) (by intro u1 u2 w e hu1 hu2; (try obtain rfl : u1 = _ := hu1); (try obtain rfl : u2 = _ := hu2); exact (xor_c _ _ _ (listS p 65536) (listS q 65536) (OwnI.slI (h7y.ext e)) (OwnI.slI (h8y.ext e)) hbd.out).mono (ret_w e.size (by rw [hA]; exact ma3 p q))) ?_)
      | (show LA _ _ _ _ (⟨some 54, _, _, _, _, _⟩ :: _) _; refine LA_stop (hK _ _ (LX_pick 44 rfl (fun a0 y1 e1 r0 => LX_pick 47 rfl (fun a1 y2 e2 r1 => LX_pick 50 rfl (fun a2 y3 e3 r2 => LX_pick 53 rfl (fun a3 u4 e4 r3 => ?_)))))); clear hK K; have r0 : OwnI y.heap.size 30 .u16 u4 a0 (A 0) := OwnI.ext r0 (e2.trans (e3.trans e4)); have r1 : OwnI y.heap.size 30 .u16 u4 a1 (A 1) := OwnI.ext r1 (e3.trans e4); have r2 : OwnI y.heap.size 30 .u16 u4 a2 (A 2) := OwnI.ext r2 e4; have r3 : OwnI y.heap.size 30 .u16 u4 a3 (A 3) := r3; have h46 : Ext y u4 := (e1.trans e2).trans (e3.trans e4); clear e1 e2 e3 e4; refine LX_la (by kernel_rfl) (fun K hK => LA_build4 (c := .agg #[a0, a1, a2, a3]) rfl rfl rfl rfl rfl (build4a (OwnI.cells r0) (OwnI.cells r1) (OwnI.cells r2) (OwnI.cells r3)) ?_))
      | (show LA _ _ _ _ (⟨some 10, .alloc _, _, _, _, _⟩ :: _) _; refine LA_alloc rfl (fun _ => rfl) ?_)
      | (show LA _ _ _ _ (⟨none, .store _ _ _, _, _, _, _⟩ :: _) _; refine LA_stop (hK _ _ (LX_pick 10 rfl (fun v10 u5 e5 h10 => ?_))); clear hK K)
      | (show LA _ _ _ _ (⟨_, .move _, _, _, _, _⟩ :: _) _; first
          | refine LA_moveV rfl rfl ?_
          | refine LA_moveP rfl rfl ?_
          | refine LA_moveT rfl rfl ?_
          | refine LA_moveU rfl rfl ?_)
      | (show LA _ _ _ _ (⟨_, .assign _, _, _, _, _⟩ :: _) _; first
          | refine LA_assignV rfl rfl ?_
          | refine LA_assignP rfl rfl ?_
          | refine LA_assignT rfl rfl ?_)
      | (show LA _ _ _ _ (⟨_, .pick _ _ _, _, _, _, _⟩ :: _) _; first
          | refine LA_pickTV rfl rfl rfl ?_
          | refine LA_pickFV rfl rfl rfl ?_)
      | (show LA _ _ _ _ (⟨_, .unOp .not _ _, _, _, _, _⟩ :: _) _; first
          | refine LA_notT rfl rfl ?_
          | refine LA_notF rfl rfl ?_
          | refine LA_not rfl rfl ?_)
      | (show LA _ _ _ _ (⟨_, .extract _ _, _, _, _, _⟩ :: _) _; first
          | refine LA_ext0 rfl rfl ?_
          | refine LA_ext1 rfl rfl ?_
          | refine LA_ext30 rfl rfl ?_
          | refine LA_ext31 rfl rfl ?_
          | refine LA_ext32 rfl rfl ?_)
      | (show LA _ _ _ _ (⟨_, .binOp .add _ _ _ _, _, _, _, _⟩ :: _) _; first
          | refine LA_addF rfl rfl rfl (by dsimp only [fits]; omega) ?_
          | refine LA_addW rfl rfl rfl ?_)
      | (show LA _ _ _ _ (⟨_, .binOp .sub _ _ _ _, _, _, _, _⟩ :: _) _; first
          | refine LA_subF rfl rfl rfl (by dsimp only [fits]; omega) ?_
          | refine LA_subW rfl rfl rfl ?_)
      | (show LA _ _ _ _ (⟨_, .binOp .mul _ _ _ _, _, _, _, _⟩ :: _) _; first
          | refine LA_mulF rfl rfl rfl (by dsimp only [fits]; omega) ?_
          | refine LA_mulW rfl rfl rfl ?_)
      | (show LA _ _ _ _ (⟨_, .binOp .quo _ _ _ _, _, _, _, _⟩ :: _) _; first
          | refine LA_quo rfl rfl rfl (by omega) (by omega) (by dsimp only [fits]; omega) ?_)
      | (show LA _ _ _ _ (⟨_, .binOp .rem _ _ _ _, _, _, _, _⟩ :: _) _; first
          | refine LA_rem rfl rfl rfl (by omega) (by omega) (by dsimp only [fits]; omega) ?_)
      | (show LA _ _ _ _ (⟨_, .binOp .shr _ _ _ _, _, _, _, _⟩ :: _) _; first
          | (refine LA_shr rfl rfl rfl (by omega) (by dsimp only [IntKind.bits]; omega) ?_; try dsimp only [Int.reduceToNat, Int.reducePow]))
      | (show LA _ _ _ _ (⟨_, .binOp .shl _ _ _ _, _, _, _, _⟩ :: _) _; first
          | (refine LA_shl rfl rfl rfl (by omega) (by dsimp only [IntKind.bits]; omega) ?_; try dsimp only [Int.reduceToNat, Int.reducePow]))
      | (show LA _ _ _ _ (⟨_, .binOp _ _ _ _ _, _, _, _, _⟩ :: _) _; first
          | refine LA_cmpT rfl rfl rfl rfl (by first | (dsimp only [cmpP]; done) | (dsimp only [cmpP]; omega)) ?_
          | refine LA_cmpF rfl rfl rfl rfl (by dsimp only [cmpP]; omega) ?_
          | (refine LA_cmp rfl rfl rfl rfl (fun hc => ?_) (fun hc => ?_) <;> dsimp only [cmpP] at hc)
          | refine LA_boolEqT rfl rfl rfl rfl (by first | rfl | assumption) ?_
          | refine LA_boolEqF rfl rfl rfl rfl (by first | assumption | decide) ?_
          | refine LA_boolEq rfl rfl rfl rfl ?_
          | refine LA_boolNeT rfl rfl rfl rfl (by first | assumption | decide) ?_
          | refine LA_boolNeF rfl rfl rfl rfl (by first | rfl | assumption) ?_
          | refine LA_boolNe rfl rfl rfl rfl ?_)
      | (show LA _ _ _ _ (⟨_, .indexAddr _ _ _, _, _, _, _⟩ :: _) _; first
          | refine LA_indexN rfl _ rfl (fun _ => rfl) rfl (by first | exact HasI.val (by assumption) | exact HasI.pred | exact HasI.own | exact HasI.ownV (by assumption)) rfl (by omega) ?_
          | (refine LA_index rfl _ rfl (fun _ => rfl) rfl (by first | exact HasI.val (by assumption) | exact HasI.pred | exact HasI.own | exact HasI.ownV (by assumption)) rfl (by omega) (by omega) ?_; try dsimp only [Int.reduceToNat]))
      | (show LA _ _ _ _ (⟨_, .load _ _, _, _, _, _⟩ :: _) _; first
          | refine LA_load rfl (fun _ => rfl) rfl ?_)
      | (show LA _ _ _ _ (⟨_, .convert _ _ _, _, _, _, _⟩ :: _) _; first
          | refine LA_convF rfl rfl rfl rfl (by dsimp only [fits]; omega) ?_
          | refine LA_conv rfl rfl rfl rfl ?_)
      | (show LA _ _ _ _ (⟨_, .slice _ _ _ _ _, _, _, _, _⟩ :: _) _; first
          | (refine LA_sliceL rfl _ rfl rfl (by first | exact (HasI.val (by assumption)).c | exact HasI.pred.c | exact HasC.val (by assumption) | exact HasC.pred | exact HasI.own.c | exact HasC.own | exact (HasI.ownV (by assumption)).c | exact HasC.ownV (by assumption)) rfl (by omega) (by omega) (by exact fun _ => rfl) ?_; try dsimp only [Int.reduceToNat, Int.toNat_natCast])
          | (refine LA_sliceH rfl _ rfl rfl (by first | exact (HasI.val (by assumption)).c | exact HasI.pred.c | exact HasC.val (by assumption) | exact HasC.pred | exact HasI.own.c | exact HasC.own | exact (HasI.ownV (by assumption)).c | exact HasC.ownV (by assumption)) rfl (by omega) (by omega) (by exact fun _ => rfl) ?_; try dsimp only [Int.reduceToNat, Int.toNat_natCast])
          | (refine LA_sliceLH rfl _ rfl rfl (by first | exact (HasI.val (by assumption)).c | exact HasI.pred.c | exact HasC.val (by assumption) | exact HasC.pred | exact HasI.own.c | exact HasC.own | exact (HasI.ownV (by assumption)).c | exact HasC.ownV (by assumption)) rfl rfl (by omega) (by omega) (by omega) (by exact fun _ => rfl) ?_; try dsimp only [Int.reduceToNat, Int.toNat_natCast]))
      | (show LA _ _ _ _ (⟨_, .call ⟨.builtin .len, _, _⟩, _, _, _, _⟩ :: _) _; first
          | refine LA_len rfl _ rfl rfl (by first | exact (HasI.val (by assumption)).c | exact HasI.pred.c | exact HasC.val (by assumption) | exact HasC.pred | exact HasI.own.c | exact HasC.own | exact (HasI.ownV (by assumption)).c | exact HasC.ownV (by assumption)) ?_)
      | (refine LA_nil (hK [] _ (LX_nil ?_)); clear hK K)
      | (refine LA_nil (hK _ ?_); clear hK K))
    | (show CX _ _ _ _ _ _; first
      | refine CX_seq ?_
      | refine CX_skip ?_
      | refine CX_block ?_
      | refine CX_exit ?_
      | refine CX_ret ?_
      | refine CX_condT rfl ?_
      | refine CX_condF rfl ?_
      | refine CX_region (by kernel_rfl) (fun K hK => ?_)
      | refine CX_regionA (by kernel_rfl) (by kernel_rfl) (fun K hK => ?_)
      | refine CX_label ?_
      | refine CX_scope ?_)
    | (show PX _ _ _ _ _; first
      | refine PX_then ?_
      | refine PX_thenX ?_
      | refine PX_thenR ?_
      | refine PX_blockN ?_
      | refine PX_blockR ?_
      | refine PX_blockX ?_
      | refine PX_blockO (by decide) ?_
      | refine PX_scopeN ?_
      | refine PX_scopeR ?_
      | refine PX_scopeX ?_)
    | (show LX _ _ _ _ _ _ _; first
      | refine LX_nil ?_))
  obtain ⟨ba, hba, rfl, hba'⟩ := h10
  refine LX_storeAll rfl rfl rfl hba' (fun _ => rfl) rfl (four_one (OwnI.one r0) (OwnI.one r1) (OwnI.one r2) (OwnI.one r3)) (fun u6 e6 => ?_)
  dsimp only [vals]
  obtain ⟨z, hz⟩ : ∃ z, z = u6.setRow ba (Value.agg #[a0, a1, a2, a3]).cells := ⟨_, rfl⟩
  rw [← hz]
  have qz : Ext u4 z := hz ▸ (e5.trans e6).setRow hba _
  have hAr : z.heap[ba]? = some (.cells #[a0, a1, a2, a3] 52 (0, 0)) := hz ▸ setRow_heap u6 ba _ _ _ (0, 0) (e6.block hba')
  have yz : Ext y z := h46.trans qz
  have hWr := yz.block hW
  have xz : Ext w z := xy.trans yz
  obtain ⟨g, hg⟩ : ∃ g : Nat → Value, g = fun j => #[g0, g1, g2, g3].getD j g0 := ⟨_, rfl⟩
  obtain ⟨a, haa⟩ : ∃ a : Nat → Value, a = fun j => #[a0, a1, a2, a3].getD j a0 := ⟨_, rfl⟩
  have hgj : ∀ j, j < 4 → (#[g0, g1, g2, g3] : Array Value)[0 + j * 1]? = some (g j) := fun j hj => by rw [hg]; rcases four_cases hj with rfl | rfl | rfl | rfl <;> rfl
  have haj : ∀ j, j < 4 → (#[a0, a1, a2, a3] : Array Value)[0 + j * 1]? = some (a j) := fun j hj => by rw [haa]; rcases four_cases hj with rfl | rfl | rfl | rfl <;> rfl
  have og : ∀ j, j < 4 → SlI .u64 z (g j) (C j) := fun j hj => by
    rw [hg]
    rcases four_cases hj with rfl | rfl | rfl | rfl
    · exact OwnI.slI (z0.ext yz)
    · exact OwnI.slI (z1.ext yz)
    · exact OwnI.slI (z2.ext yz)
    · exact OwnI.slI (z3.ext yz)
  have oa : ∀ j, j < 4 → SlI .u16 z (a j) (A j) := fun j hj => by
    rw [haa]
    rcases four_cases hj with rfl | rfl | rfl | rfl
    · exact OwnI.slI (r0.ext qz)
    · exact OwnI.slI (r1.ext qz)
    · exact OwnI.slI (r2.ext qz)
    · exact OwnI.slI (r3.ext qz)
  have gC : ∀ j, C j = wordsOf (ca p q j) := fun j => by rw [hC]
  have gA : ∀ j, A j = listS (ca p q j) 65536 := fun j => by rw [hA]
  clear hz e5 e6 hba hba' r0 r1 r2 r3 z0 z1 z2 z3 hg haa hbd h7y h8y h7 h8 hC hA
  repeat' (first
    | (show LA _ _ _ _ _ _; first
      | refine LA_pass rfl ?_
      | (show LA _ _ _ _ (⟨_, .move _, _, _, _, _⟩ :: _) _; first
          | refine LA_moveV rfl rfl ?_
          | refine LA_moveP rfl rfl ?_
          | refine LA_moveT rfl rfl ?_
          | refine LA_moveU rfl rfl ?_)
      | (show LA _ _ _ _ (⟨_, .assign _, _, _, _, _⟩ :: _) _; first
          | refine LA_assignV rfl rfl ?_
          | refine LA_assignP rfl rfl ?_
          | refine LA_assignT rfl rfl ?_)
      | (show LA _ _ _ _ (⟨_, .pick _ _ _, _, _, _, _⟩ :: _) _; first
          | refine LA_pickTV rfl rfl rfl ?_
          | refine LA_pickFV rfl rfl rfl ?_)
      | (show LA _ _ _ _ (⟨_, .unOp .not _ _, _, _, _, _⟩ :: _) _; first
          | refine LA_notT rfl rfl ?_
          | refine LA_notF rfl rfl ?_
          | refine LA_not rfl rfl ?_)
      | (show LA _ _ _ _ (⟨_, .extract _ _, _, _, _, _⟩ :: _) _; first
          | refine LA_ext0 rfl rfl ?_
          | refine LA_ext1 rfl rfl ?_
          | refine LA_ext30 rfl rfl ?_
          | refine LA_ext31 rfl rfl ?_
          | refine LA_ext32 rfl rfl ?_)
      | (show LA _ _ _ _ (⟨_, .binOp .add _ _ _ _, _, _, _, _⟩ :: _) _; first
          | refine LA_addF rfl rfl rfl (by dsimp only [fits]; omega) ?_
          | refine LA_addW rfl rfl rfl ?_)
      | (show LA _ _ _ _ (⟨_, .binOp .sub _ _ _ _, _, _, _, _⟩ :: _) _; first
          | refine LA_subF rfl rfl rfl (by dsimp only [fits]; omega) ?_
          | refine LA_subW rfl rfl rfl ?_)
      | (show LA _ _ _ _ (⟨_, .binOp .mul _ _ _ _, _, _, _, _⟩ :: _) _; first
          | refine LA_mulF rfl rfl rfl (by dsimp only [fits]; omega) ?_
          | refine LA_mulW rfl rfl rfl ?_)
      | (show LA _ _ _ _ (⟨_, .binOp .quo _ _ _ _, _, _, _, _⟩ :: _) _; first
          | refine LA_quo rfl rfl rfl (by omega) (by omega) (by dsimp only [fits]; omega) ?_)
      | (show LA _ _ _ _ (⟨_, .binOp .rem _ _ _ _, _, _, _, _⟩ :: _) _; first
          | refine LA_rem rfl rfl rfl (by omega) (by omega) (by dsimp only [fits]; omega) ?_)
      | (show LA _ _ _ _ (⟨_, .binOp .shr _ _ _ _, _, _, _, _⟩ :: _) _; first
          | (refine LA_shr rfl rfl rfl (by omega) (by dsimp only [IntKind.bits]; omega) ?_; try dsimp only [Int.reduceToNat, Int.reducePow]))
      | (show LA _ _ _ _ (⟨_, .binOp .shl _ _ _ _, _, _, _, _⟩ :: _) _; first
          | (refine LA_shl rfl rfl rfl (by omega) (by dsimp only [IntKind.bits]; omega) ?_; try dsimp only [Int.reduceToNat, Int.reducePow]))
      | (show LA _ _ _ _ (⟨_, .binOp _ _ _ _ _, _, _, _, _⟩ :: _) _; first
          | refine LA_cmpT rfl rfl rfl rfl (by first | (dsimp only [cmpP]; done) | (dsimp only [cmpP]; omega)) ?_
          | refine LA_cmpF rfl rfl rfl rfl (by dsimp only [cmpP]; omega) ?_
          | (refine LA_cmp rfl rfl rfl rfl (fun hc => ?_) (fun hc => ?_) <;> dsimp only [cmpP] at hc)
          | refine LA_boolEqT rfl rfl rfl rfl (by first | rfl | assumption) ?_
          | refine LA_boolEqF rfl rfl rfl rfl (by first | assumption | decide) ?_
          | refine LA_boolEq rfl rfl rfl rfl ?_
          | refine LA_boolNeT rfl rfl rfl rfl (by first | assumption | decide) ?_
          | refine LA_boolNeF rfl rfl rfl rfl (by first | rfl | assumption) ?_
          | refine LA_boolNe rfl rfl rfl rfl ?_)
      | (show LA _ _ _ _ (⟨_, .indexAddr _ _ _, _, _, _, _⟩ :: _) _; first
          | refine LA_indexN rfl _ rfl (fun _ => rfl) rfl (by first | exact HasI.val (by assumption) | exact HasI.pred | exact HasI.own | exact HasI.ownV (by assumption)) rfl (by omega) ?_
          | (refine LA_index rfl _ rfl (fun _ => rfl) rfl (by first | exact HasI.val (by assumption) | exact HasI.pred | exact HasI.own | exact HasI.ownV (by assumption)) rfl (by omega) (by omega) ?_; try dsimp only [Int.reduceToNat]))
      | (show LA _ _ _ _ (⟨_, .load _ _, _, _, _, _⟩ :: _) _; first
          | refine LA_load rfl (fun _ => rfl) rfl ?_)
      | (show LA _ _ _ _ (⟨_, .convert _ _ _, _, _, _, _⟩ :: _) _; first
          | refine LA_convF rfl rfl rfl rfl (by dsimp only [fits]; omega) ?_
          | refine LA_conv rfl rfl rfl rfl ?_)
      | (show LA _ _ _ _ (⟨_, .slice _ _ _ _ _, _, _, _, _⟩ :: _) _; first
          | (refine LA_sliceL rfl _ rfl rfl (by first | exact (HasI.val (by assumption)).c | exact HasI.pred.c | exact HasC.val (by assumption) | exact HasC.pred | exact HasI.own.c | exact HasC.own | exact (HasI.ownV (by assumption)).c | exact HasC.ownV (by assumption)) rfl (by omega) (by omega) (by exact fun _ => rfl) ?_; try dsimp only [Int.reduceToNat, Int.toNat_natCast])
          | (refine LA_sliceH rfl _ rfl rfl (by first | exact (HasI.val (by assumption)).c | exact HasI.pred.c | exact HasC.val (by assumption) | exact HasC.pred | exact HasI.own.c | exact HasC.own | exact (HasI.ownV (by assumption)).c | exact HasC.ownV (by assumption)) rfl (by omega) (by omega) (by exact fun _ => rfl) ?_; try dsimp only [Int.reduceToNat, Int.toNat_natCast])
          | (refine LA_sliceLH rfl _ rfl rfl (by first | exact (HasI.val (by assumption)).c | exact HasI.pred.c | exact HasC.val (by assumption) | exact HasC.pred | exact HasI.own.c | exact HasC.own | exact (HasI.ownV (by assumption)).c | exact HasC.ownV (by assumption)) rfl rfl (by omega) (by omega) (by omega) (by exact fun _ => rfl) ?_; try dsimp only [Int.reduceToNat, Int.toNat_natCast]))
      | (show LA _ _ _ _ (⟨_, .call ⟨.builtin .len, _, _⟩, _, _, _, _⟩ :: _) _; first
          | refine LA_len rfl _ rfl rfl (by first | exact (HasI.val (by assumption)).c | exact HasI.pred.c | exact HasC.val (by assumption) | exact HasC.pred | exact HasI.own.c | exact HasC.own | exact (HasI.ownV (by assumption)).c | exact HasC.ownV (by assumption)) ?_)
      | (refine LA_nil (hK [] _ (LX_nil ?_)); clear hK K)
      | (refine LA_nil (hK _ ?_); clear hK K))
    | (show CX _ _ _ _ _ _; first
      | refine CX_seq ?_
      | refine CX_skip ?_
      | refine CX_block ?_
      | refine CX_exit ?_
      | refine CX_ret ?_
      | refine CX_condT rfl ?_
      | refine CX_condF rfl ?_
      | refine CX_region (by kernel_rfl) (fun K hK => ?_)
      | refine CX_regionA (by kernel_rfl) (by kernel_rfl) (fun K hK => ?_)
      | refine CX_label ?_
      | refine CX_scope ?_)
    | (show PX _ _ _ _ _; first
      | refine PX_then ?_
      | refine PX_thenX ?_
      | refine PX_thenR ?_
      | refine PX_blockN ?_
      | refine PX_blockR ?_
      | refine PX_blockX ?_
      | refine PX_blockO (by decide) ?_
      | refine PX_scopeN ?_
      | refine PX_scopeR ?_
      | refine PX_scopeX ?_)
    | (show LX _ _ _ _ _ _ _; first
      | refine LX_nil ?_))
  refine CX_loop (ι := Nat) (fun i => [(9, .val (.pointer (some ⟨bw, 0, none⟩))), (10, .val (.pointer (some ⟨ba, 0, none⟩))), (55, .val (.int .i64 i))]) (fun i => i ≤ 4) (fun i => 4 - i) 0 (Nat.zero_le _) (by repeat' (first | exact Sub.nil | refine Sub.val rfl (by first | with_reducible rfl | (congr 1; omega)) ?_ | refine Sub.same rfl ?_)) ?_
  intro i hi5
  by_cases hi' : i < 4
  · have hgi := hgj i hi'
    have hai := haj i hi'
    have ogi := og i hi'
    have oai := oa i hi'
    obtain ⟨r, hr⟩ : ∃ r, r = ca p q i := ⟨_, rfl⟩
    rw [gC, ← hr] at ogi
    rw [gA, ← hr] at oai
    obtain ⟨L, hL⟩ : ∃ L, L = cnt r 65536 := ⟨_, rfl⟩
    obtain ⟨U, hU⟩ : ∃ U, U = cnt (startsS r) 65536 := ⟨_, rfl⟩
    have gL : Hid (cnt r 65536 = L) := ⟨hL.symm⟩
    have gU : Hid (cnt (startsS r) 65536 = U) := ⟨hU.symm⟩
    have gl : Hid ((listS r 65536).length = L) := ⟨by rw [listS_len, hL]⟩
    clear hL hU
    repeat' (first
      | (show LA _ _ _ _ _ _; first
        | refine LA_pass rfl ?_
        | refine LA_indexArr (n := 4) (s := 1) rfl rfl (fun _ => rfl) rfl rfl i rfl hi' ?_
        | refine LA_loadB (c := g i) rfl (fun _ => rfl) rfl hWr hgi ?_
        | refine LA_loadB (c := a i) rfl (fun _ => rfl) rfl hAr hai ?_
        | (show LA _ _ _ _ (⟨some 65, _, _, _, _, _⟩ :: _) _; refine LA_call2 (f := 27) rfl rfl rfl rfl (.val (.bool true)) (by intro u1 u2 w e hu1 hu2; obtain rfl : u2 = _ := hu2; exact ret_true (same_c _ _ _ (listS r 65536) (listS r 65536) (OwnI.slI hu1) (SlI.ext oai e)) (decide_eq_true rfl)) ?_)
        | (show LA _ _ _ _ (⟨some 86, _, _, _, _, _⟩ :: _) _; refine LA_len rfl _ rfl rfl (by first | exact (HasI.val (by assumption)).c | exact HasI.pred.c | exact HasC.val (by assumption) | exact HasC.pred | exact HasI.own.c | exact HasC.own | exact (HasI.ownV (by assumption)).c | exact HasC.ownV (by assumption)) ?_; rw [gl.out])
        | (show LA _ _ _ _ (⟨_, .move _, _, _, _, _⟩ :: _) _; first
            | refine LA_moveV rfl rfl ?_
            | refine LA_moveP rfl rfl ?_
            | refine LA_moveT rfl rfl ?_
            | refine LA_moveU rfl rfl ?_)
        | (show LA _ _ _ _ (⟨_, .assign _, _, _, _, _⟩ :: _) _; first
            | refine LA_assignV rfl rfl ?_
            | refine LA_assignP rfl rfl ?_
            | refine LA_assignT rfl rfl ?_)
        | (show LA _ _ _ _ (⟨_, .pick _ _ _, _, _, _, _⟩ :: _) _; first
            | refine LA_pickTV rfl rfl rfl ?_
            | refine LA_pickFV rfl rfl rfl ?_)
        | (show LA _ _ _ _ (⟨_, .unOp .not _ _, _, _, _, _⟩ :: _) _; first
            | refine LA_notT rfl rfl ?_
            | refine LA_notF rfl rfl ?_
            | refine LA_not rfl rfl ?_)
        | (show LA _ _ _ _ (⟨_, .extract _ _, _, _, _, _⟩ :: _) _; first
            | refine LA_ext0 rfl rfl ?_
            | refine LA_ext1 rfl rfl ?_
            | refine LA_ext30 rfl rfl ?_
            | refine LA_ext31 rfl rfl ?_
            | refine LA_ext32 rfl rfl ?_)
        | (show LA _ _ _ _ (⟨_, .binOp .add _ _ _ _, _, _, _, _⟩ :: _) _; first
            | refine LA_addF rfl rfl rfl (by dsimp only [fits]; omega) ?_
            | refine LA_addW rfl rfl rfl ?_)
        | (show LA _ _ _ _ (⟨_, .binOp .sub _ _ _ _, _, _, _, _⟩ :: _) _; first
            | refine LA_subF rfl rfl rfl (by dsimp only [fits]; omega) ?_
            | refine LA_subW rfl rfl rfl ?_)
        | (show LA _ _ _ _ (⟨_, .binOp .mul _ _ _ _, _, _, _, _⟩ :: _) _; first
            | refine LA_mulF rfl rfl rfl (by dsimp only [fits]; omega) ?_
            | refine LA_mulW rfl rfl rfl ?_)
        | (show LA _ _ _ _ (⟨_, .binOp .quo _ _ _ _, _, _, _, _⟩ :: _) _; first
            | refine LA_quo rfl rfl rfl (by omega) (by omega) (by dsimp only [fits]; omega) ?_)
        | (show LA _ _ _ _ (⟨_, .binOp .rem _ _ _ _, _, _, _, _⟩ :: _) _; first
            | refine LA_rem rfl rfl rfl (by omega) (by omega) (by dsimp only [fits]; omega) ?_)
        | (show LA _ _ _ _ (⟨_, .binOp .shr _ _ _ _, _, _, _, _⟩ :: _) _; first
            | (refine LA_shr rfl rfl rfl (by omega) (by dsimp only [IntKind.bits]; omega) ?_; try dsimp only [Int.reduceToNat, Int.reducePow]))
        | (show LA _ _ _ _ (⟨_, .binOp .shl _ _ _ _, _, _, _, _⟩ :: _) _; first
            | (refine LA_shl rfl rfl rfl (by omega) (by dsimp only [IntKind.bits]; omega) ?_; try dsimp only [Int.reduceToNat, Int.reducePow]))
        | (show LA _ _ _ _ (⟨_, .binOp _ _ _ _ _, _, _, _, _⟩ :: _) _; first
            | refine LA_cmpT rfl rfl rfl rfl (by first | (dsimp only [cmpP]; done) | (dsimp only [cmpP]; omega)) ?_
            | refine LA_cmpF rfl rfl rfl rfl (by dsimp only [cmpP]; omega) ?_
            | (refine LA_cmp rfl rfl rfl rfl (fun hc => ?_) (fun hc => ?_) <;> dsimp only [cmpP] at hc)
            | refine LA_boolEqT rfl rfl rfl rfl (by first | rfl | assumption) ?_
            | refine LA_boolEqF rfl rfl rfl rfl (by first | assumption | decide) ?_
            | refine LA_boolEq rfl rfl rfl rfl ?_
            | refine LA_boolNeT rfl rfl rfl rfl (by first | assumption | decide) ?_
            | refine LA_boolNeF rfl rfl rfl rfl (by first | rfl | assumption) ?_
            | refine LA_boolNe rfl rfl rfl rfl ?_)
        | (show LA _ _ _ _ (⟨_, .indexAddr _ _ _, _, _, _, _⟩ :: _) _; first
            | refine LA_indexN rfl _ rfl (fun _ => rfl) rfl (by first | exact HasI.val (by assumption) | exact HasI.pred | exact HasI.own | exact HasI.ownV (by assumption)) rfl (by omega) ?_
            | (refine LA_index rfl _ rfl (fun _ => rfl) rfl (by first | exact HasI.val (by assumption) | exact HasI.pred | exact HasI.own | exact HasI.ownV (by assumption)) rfl (by omega) (by omega) ?_; try dsimp only [Int.reduceToNat]))
        | (show LA _ _ _ _ (⟨_, .load _ _, _, _, _, _⟩ :: _) _; first
            | refine LA_load rfl (fun _ => rfl) rfl ?_)
        | (show LA _ _ _ _ (⟨_, .convert _ _ _, _, _, _, _⟩ :: _) _; first
            | refine LA_convF rfl rfl rfl rfl (by dsimp only [fits]; omega) ?_
            | refine LA_conv rfl rfl rfl rfl ?_)
        | (show LA _ _ _ _ (⟨_, .slice _ _ _ _ _, _, _, _, _⟩ :: _) _; first
            | (refine LA_sliceL rfl _ rfl rfl (by first | exact (HasI.val (by assumption)).c | exact HasI.pred.c | exact HasC.val (by assumption) | exact HasC.pred | exact HasI.own.c | exact HasC.own | exact (HasI.ownV (by assumption)).c | exact HasC.ownV (by assumption)) rfl (by omega) (by omega) (by exact fun _ => rfl) ?_; try dsimp only [Int.reduceToNat, Int.toNat_natCast])
            | (refine LA_sliceH rfl _ rfl rfl (by first | exact (HasI.val (by assumption)).c | exact HasI.pred.c | exact HasC.val (by assumption) | exact HasC.pred | exact HasI.own.c | exact HasC.own | exact (HasI.ownV (by assumption)).c | exact HasC.ownV (by assumption)) rfl (by omega) (by omega) (by exact fun _ => rfl) ?_; try dsimp only [Int.reduceToNat, Int.toNat_natCast])
            | (refine LA_sliceLH rfl _ rfl rfl (by first | exact (HasI.val (by assumption)).c | exact HasI.pred.c | exact HasC.val (by assumption) | exact HasC.pred | exact HasI.own.c | exact HasC.own | exact (HasI.ownV (by assumption)).c | exact HasC.ownV (by assumption)) rfl rfl (by omega) (by omega) (by omega) (by exact fun _ => rfl) ?_; try dsimp only [Int.reduceToNat, Int.toNat_natCast]))
        | (show LA _ _ _ _ (⟨_, .call ⟨.builtin .len, _, _⟩, _, _, _, _⟩ :: _) _; first
            | refine LA_len rfl _ rfl rfl (by first | exact (HasI.val (by assumption)).c | exact HasI.pred.c | exact HasC.val (by assumption) | exact HasC.pred | exact HasI.own.c | exact HasC.own | exact (HasI.ownV (by assumption)).c | exact HasC.ownV (by assumption)) ?_)
        | (show LA _ _ _ _ (⟨_, .call ⟨.value _, _, _⟩, _, _, _, _⟩ :: _) _; first
            | (show LA _ _ _ _ (⟨_, .call ⟨.value (.func 11), _, _⟩, _, _, _, _⟩ :: _) _; refine LA_call1 (f := 11) rfl rfl rfl  (.pred (ownI z.heap.size 30 .u16 (listS r 65536))) (by intro u1 w e hu1; (try obtain rfl : u1 = _ := hu1); exact (wlistP _ _ r (SlI.ext ogi e) (hT.ext (xz.trans e))).mono (ret_base e.size)) ?_)
            | (show LA _ _ _ _ (⟨_, .call ⟨.value (.func 29), _, _⟩, _, _, _, _⟩ :: _) _; refine LA_call1 (f := 29) rfl rfl rfl  (.val (.int .i64 U)) (by intro u1 w e hu1; (try obtain rfl : u1 = _ := hu1); exact ret_eq (by rw [gU.out]) (wrunsP _ _ r (SlI.ext ogi e))) ?_)
            | (show LA _ _ _ _ (⟨_, .call ⟨.value (.func 35), _, _⟩, _, _, _, _⟩ :: _) _; refine LA_call1 (f := 35) rfl rfl rfl  (.val (.int .i64 U)) (by intro u1 w e hu1; (try obtain rfl : u1 = _ := hu1); exact ret_eq (by rw [runsS_listS, gU.out]) (runs_c _ _ (listS r 65536) (SlI.ext oai e))) ?_)
            | (show LA _ _ _ _ (⟨_, .call ⟨.value (.func 14), _, _⟩, _, _, _, _⟩ :: _) _; refine LA_call1 (f := 14) rfl rfl rfl  (.val (.int .i64 L)) (by intro u1 w e hu1; (try obtain rfl : u1 = _ := hu1); exact ret_eq (by rw [gL.out]) (wlenP _ _ r (SlI.ext ogi e))) ?_))
        | (refine LA_nil (hK [] _ (LX_nil ?_)); clear hK K)
        | (refine LA_nil (hK _ ?_); clear hK K))
      | (show CX _ _ _ _ _ _; first
        | refine CX_seq ?_
        | refine CX_skip ?_
        | refine CX_block ?_
        | refine CX_exit ?_
        | refine CX_ret ?_
        | refine CX_condT rfl ?_
        | refine CX_condF rfl ?_
        | refine CX_region (by kernel_rfl) (fun K hK => ?_)
        | refine CX_regionA (by kernel_rfl) (by kernel_rfl) (fun K hK => ?_)
        | refine CX_label ?_
        | refine CX_scope ?_)
      | (show PX _ _ _ _ _; first
        | refine PX_then ?_
        | refine PX_thenX ?_
        | refine PX_thenR ?_
        | refine PX_blockN ?_
        | refine PX_blockR ?_
        | refine PX_blockX ?_
        | refine PX_blockO (by decide) ?_
        | refine PX_scopeN ?_
        | refine PX_scopeR ?_
        | refine PX_scopeX ?_)
      | (show LX _ _ _ _ _ _ _; first
        | refine LX_nil ?_))
    skip
    refine PX_rnd (i + 1) (by omega) (by omega) (by repeat' (first | exact Sub.nil | refine Sub.val rfl (by first | with_reducible rfl | (congr 1; omega)) ?_ | refine Sub.same rfl ?_))
  · obtain rfl : i = 4 := by omega
    repeat' (first
      | (show LA _ _ _ _ _ _; first
        | refine LA_pass rfl ?_
        | (show LA _ _ _ _ (⟨_, .move _, _, _, _, _⟩ :: _) _; first
            | refine LA_moveV rfl rfl ?_
            | refine LA_moveP rfl rfl ?_
            | refine LA_moveT rfl rfl ?_
            | refine LA_moveU rfl rfl ?_)
        | (show LA _ _ _ _ (⟨_, .assign _, _, _, _, _⟩ :: _) _; first
            | refine LA_assignV rfl rfl ?_
            | refine LA_assignP rfl rfl ?_
            | refine LA_assignT rfl rfl ?_)
        | (show LA _ _ _ _ (⟨_, .pick _ _ _, _, _, _, _⟩ :: _) _; first
            | refine LA_pickTV rfl rfl rfl ?_
            | refine LA_pickFV rfl rfl rfl ?_)
        | (show LA _ _ _ _ (⟨_, .unOp .not _ _, _, _, _, _⟩ :: _) _; first
            | refine LA_notT rfl rfl ?_
            | refine LA_notF rfl rfl ?_
            | refine LA_not rfl rfl ?_)
        | (show LA _ _ _ _ (⟨_, .extract _ _, _, _, _, _⟩ :: _) _; first
            | refine LA_ext0 rfl rfl ?_
            | refine LA_ext1 rfl rfl ?_
            | refine LA_ext30 rfl rfl ?_
            | refine LA_ext31 rfl rfl ?_
            | refine LA_ext32 rfl rfl ?_)
        | (show LA _ _ _ _ (⟨_, .binOp .add _ _ _ _, _, _, _, _⟩ :: _) _; first
            | refine LA_addF rfl rfl rfl (by dsimp only [fits]; omega) ?_
            | refine LA_addW rfl rfl rfl ?_)
        | (show LA _ _ _ _ (⟨_, .binOp .sub _ _ _ _, _, _, _, _⟩ :: _) _; first
            | refine LA_subF rfl rfl rfl (by dsimp only [fits]; omega) ?_
            | refine LA_subW rfl rfl rfl ?_)
        | (show LA _ _ _ _ (⟨_, .binOp .mul _ _ _ _, _, _, _, _⟩ :: _) _; first
            | refine LA_mulF rfl rfl rfl (by dsimp only [fits]; omega) ?_
            | refine LA_mulW rfl rfl rfl ?_)
        | (show LA _ _ _ _ (⟨_, .binOp .quo _ _ _ _, _, _, _, _⟩ :: _) _; first
            | refine LA_quo rfl rfl rfl (by omega) (by omega) (by dsimp only [fits]; omega) ?_)
        | (show LA _ _ _ _ (⟨_, .binOp .rem _ _ _ _, _, _, _, _⟩ :: _) _; first
            | refine LA_rem rfl rfl rfl (by omega) (by omega) (by dsimp only [fits]; omega) ?_)
        | (show LA _ _ _ _ (⟨_, .binOp .shr _ _ _ _, _, _, _, _⟩ :: _) _; first
            | (refine LA_shr rfl rfl rfl (by omega) (by dsimp only [IntKind.bits]; omega) ?_; try dsimp only [Int.reduceToNat, Int.reducePow]))
        | (show LA _ _ _ _ (⟨_, .binOp .shl _ _ _ _, _, _, _, _⟩ :: _) _; first
            | (refine LA_shl rfl rfl rfl (by omega) (by dsimp only [IntKind.bits]; omega) ?_; try dsimp only [Int.reduceToNat, Int.reducePow]))
        | (show LA _ _ _ _ (⟨_, .binOp _ _ _ _ _, _, _, _, _⟩ :: _) _; first
            | refine LA_cmpT rfl rfl rfl rfl (by first | (dsimp only [cmpP]; done) | (dsimp only [cmpP]; omega)) ?_
            | refine LA_cmpF rfl rfl rfl rfl (by dsimp only [cmpP]; omega) ?_
            | (refine LA_cmp rfl rfl rfl rfl (fun hc => ?_) (fun hc => ?_) <;> dsimp only [cmpP] at hc)
            | refine LA_boolEqT rfl rfl rfl rfl (by first | rfl | assumption) ?_
            | refine LA_boolEqF rfl rfl rfl rfl (by first | assumption | decide) ?_
            | refine LA_boolEq rfl rfl rfl rfl ?_
            | refine LA_boolNeT rfl rfl rfl rfl (by first | assumption | decide) ?_
            | refine LA_boolNeF rfl rfl rfl rfl (by first | rfl | assumption) ?_
            | refine LA_boolNe rfl rfl rfl rfl ?_)
        | (show LA _ _ _ _ (⟨_, .indexAddr _ _ _, _, _, _, _⟩ :: _) _; first
            | refine LA_indexN rfl _ rfl (fun _ => rfl) rfl (by first | exact HasI.val (by assumption) | exact HasI.pred | exact HasI.own | exact HasI.ownV (by assumption)) rfl (by omega) ?_
            | (refine LA_index rfl _ rfl (fun _ => rfl) rfl (by first | exact HasI.val (by assumption) | exact HasI.pred | exact HasI.own | exact HasI.ownV (by assumption)) rfl (by omega) (by omega) ?_; try dsimp only [Int.reduceToNat]))
        | (show LA _ _ _ _ (⟨_, .load _ _, _, _, _, _⟩ :: _) _; first
            | refine LA_load rfl (fun _ => rfl) rfl ?_)
        | (show LA _ _ _ _ (⟨_, .convert _ _ _, _, _, _, _⟩ :: _) _; first
            | refine LA_convF rfl rfl rfl rfl (by dsimp only [fits]; omega) ?_
            | refine LA_conv rfl rfl rfl rfl ?_)
        | (show LA _ _ _ _ (⟨_, .slice _ _ _ _ _, _, _, _, _⟩ :: _) _; first
            | (refine LA_sliceL rfl _ rfl rfl (by first | exact (HasI.val (by assumption)).c | exact HasI.pred.c | exact HasC.val (by assumption) | exact HasC.pred | exact HasI.own.c | exact HasC.own | exact (HasI.ownV (by assumption)).c | exact HasC.ownV (by assumption)) rfl (by omega) (by omega) (by exact fun _ => rfl) ?_; try dsimp only [Int.reduceToNat, Int.toNat_natCast])
            | (refine LA_sliceH rfl _ rfl rfl (by first | exact (HasI.val (by assumption)).c | exact HasI.pred.c | exact HasC.val (by assumption) | exact HasC.pred | exact HasI.own.c | exact HasC.own | exact (HasI.ownV (by assumption)).c | exact HasC.ownV (by assumption)) rfl (by omega) (by omega) (by exact fun _ => rfl) ?_; try dsimp only [Int.reduceToNat, Int.toNat_natCast])
            | (refine LA_sliceLH rfl _ rfl rfl (by first | exact (HasI.val (by assumption)).c | exact HasI.pred.c | exact HasC.val (by assumption) | exact HasC.pred | exact HasI.own.c | exact HasC.own | exact (HasI.ownV (by assumption)).c | exact HasC.ownV (by assumption)) rfl rfl (by omega) (by omega) (by omega) (by exact fun _ => rfl) ?_; try dsimp only [Int.reduceToNat, Int.toNat_natCast]))
        | (show LA _ _ _ _ (⟨_, .call ⟨.builtin .len, _, _⟩, _, _, _, _⟩ :: _) _; first
            | refine LA_len rfl _ rfl rfl (by first | exact (HasI.val (by assumption)).c | exact HasI.pred.c | exact HasC.val (by assumption) | exact HasC.pred | exact HasI.own.c | exact HasC.own | exact (HasI.ownV (by assumption)).c | exact HasC.ownV (by assumption)) ?_)
        | (show LA _ _ _ _ (⟨_, .call ⟨.value _, _, _⟩, _, _, _, _⟩ :: _) _; first
            | (show LA _ _ _ _ (⟨_, .call ⟨.value (.func 9), _, _⟩, _, _, _, _⟩ :: _) _; refine LA_call0 (f := 9) rfl rfl  (.val (.bool true)) (by intro w e; exact known_c _ (hT.ext (xz.trans e))) ?_))
        | (refine LA_nil (hK [] _ (LX_nil ?_)); clear hK K)
        | (refine LA_nil (hK _ ?_); clear hK K))
      | (show CX _ _ _ _ _ _; first
        | refine CX_seq ?_
        | refine CX_skip ?_
        | refine CX_block ?_
        | refine CX_exit ?_
        | refine CX_ret ?_
        | refine CX_condT rfl ?_
        | refine CX_condF rfl ?_
        | refine CX_region (by kernel_rfl) (fun K hK => ?_)
        | refine CX_regionA (by kernel_rfl) (by kernel_rfl) (fun K hK => ?_)
        | refine CX_label ?_
        | refine CX_scope ?_)
      | (show PX _ _ _ _ _; first
        | refine PX_then ?_
        | refine PX_thenX ?_
        | refine PX_thenR ?_
        | refine PX_blockN ?_
        | refine PX_blockR ?_
        | refine PX_blockX ?_
        | refine PX_blockO (by decide) ?_
        | refine PX_scopeN ?_
        | refine PX_scopeR ?_
        | refine PX_scopeX ?_
        | exact PX_retE rfl rfl xz rfl)
      | (show LX _ _ _ _ _ _ _; first
        | refine LX_nil ?_))
end Go.Proofs.YthcpljmibcacaaaDoor
