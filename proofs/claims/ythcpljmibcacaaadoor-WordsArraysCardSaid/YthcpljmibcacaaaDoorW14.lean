import Derived.Test.YthcpljmibcacaaaDoorW13
set_option linter.unusedSimpArgs false
set_option linter.unusedVariables false
namespace Go.Proofs.YthcpljmibcacaaaDoor
open Go.LA Go.ArrP Go.RowKit
/-- The numbers between two places. -/
theorem cnt_span (p q : Nat → Bool) (a : Nat) : ∀ b, a ≤ b → (∀ i, a ≤ i → i < b → p i = q i) → cnt p b + cnt q a = cnt q b + cnt p a
  | 0, h, _ => by obtain rfl : a = 0 := by omega
                  rfl
  | b + 1, h, he => by
    rcases Nat.lt_or_ge b a with h1 | h1
    · obtain rfl : a = b + 1 := by omega
      omega
    · have ih := cnt_span p q a b h1 (fun i g1 g2 => he i g1 (by omega))
      simp only [cnt, he b h1 (by omega)]; omega
theorem cnt_not (p q : Nat → Bool) (a : Nat) : ∀ b, a ≤ b → (∀ i, a ≤ i → i < b → p i = !q i) → cnt p b + cnt q b + a = b + cnt p a + cnt q a
  | 0, h, _ => by obtain rfl : a = 0 := by omega
                  rfl
  | b + 1, h, he => by
    rcases Nat.lt_or_ge b a with h1 | h1
    · obtain rfl : a = b + 1 := by omega
      omega
    · have ih := cnt_not p q a b h1 (fun i g1 g2 => he i g1 (by omega))
      have h2 := he b h1 (by omega)
      simp only [cnt, h2]; cases q b <;> simp <;> omega
theorem flip_cnt (p : Nat → Bool) (lo hi : Nat) (h : lo ≤ hi) (h2 : hi ≤ 65536) : cnt (flipM p lo hi) lo = cnt p lo ∧ cnt (flipM p lo hi) hi + cnt p hi + lo = hi + cnt p lo + cnt p lo ∧ cnt (flipM p lo hi) 65536 + cnt p hi = cnt p 65536 + cnt (flipM p lo hi) hi ∧ cnt (fun i => p i && flipM p lo hi i) 65536 + cnt p hi = cnt p 65536 + cnt p lo := by
  have out : ∀ i, i < lo ∨ hi ≤ i → flipM p lo hi i = p i := fun i hi' => by
    unfold flipM
    have : (decide ((lo : Int) ≤ i) && decide ((i : Int) < (hi : Int))) = false := by
      rw [Bool.and_eq_false_iff, decide_eq_false_iff_not, decide_eq_false_iff_not]; omega
    rw [this]; cases p i <;> rfl
  have inn : ∀ i, lo ≤ i → i < hi → flipM p lo hi i = !p i := fun i h1 h2 => by
    unfold flipM
    rw [decide_eq_true (by omega), decide_eq_true (by omega)]; cases p i <;> rfl
  have e1 : cnt (flipM p lo hi) lo = cnt p lo := cnt_congr lo fun i hi' => out i (.inl hi')
  have e2 := cnt_not (flipM p lo hi) p lo hi h inn
  have e3 := cnt_span (flipM p lo hi) p hi 65536 h2 (fun i g1 _ => out i (.inr g1))
  refine ⟨e1, by omega, by omega, ?_⟩
  have f1 : cnt (fun i => p i && flipM p lo hi i) lo = cnt p lo := cnt_congr lo fun i hi' => by rw [out i (.inl hi')]; cases p i <;> rfl
  have f2 := cnt_span (fun i => p i && flipM p lo hi i) (fun _ => false) lo hi h (fun i g1 g2 => by rw [inn i g1 g2]; cases p i <;> rfl)
  have f3 := cnt_span (fun i => p i && flipM p lo hi i) p hi 65536 h2 (fun i g1 _ => by rw [out i (.inr g1)]; cases p i <;> rfl)
  have z1 := cnt_zero (p := fun _ => false) lo (fun _ _ => rfl)
  have z2 := cnt_zero (p := fun _ => false) hi (fun _ _ => rfl)
  omega
set_option maxHeartbeats 2000000 in
theorem ranges_c (w : World) (v : Value) (xs : List Int) (lo hi : Int) (h : SlI .u16 w v xs) (hl : Low xs) (hT : Tab w) (hlo : -9223372036854775808 ≤ lo ∧ lo < 9223372036854775808) (hhi : -9223372036854775808 ≤ hi ∧ hi < 9223372036854775808) : Fc Tryd.prog 4 #[v, .int .i64 lo, .int .i64 hi] w (Ret w (.val (.bool true))) := by
  have hlen := h.len
  refine Fc.of (args := [_, _, _]) Tryd.func4 rfl rfl Tryd.ntmps4 (Nat.le_of_ble_eq_true rfl) ?_
  obtain ⟨p, hp⟩ : ∃ p, p = memb xs := ⟨_, rfl⟩
  obtain ⟨A, hA⟩ : ∃ A : Nat, min (max lo 0) 65536 = A := ⟨(min (max lo 0) 65536).toNat, by omega⟩
  obtain ⟨B, hB⟩ : ∃ B : Nat, min (max hi 0) 65536 = B := ⟨(min (max hi 0) 65536).toNat, by omega⟩
  by_cases hAB : (B : Int) < A
  · have q0 : True := trivial

    obtain ⟨c1, c2, c3, c4⟩ := flip_cnt p B A (by omega) (by omega)
    have b1 := cnt_le p B; have b2 := cnt_le p A; have b3 := cnt_le p 65536; have b4 := cnt_le (flipM p B A) A; have b5 := cnt_le (flipM p B A) 65536; have b6 := cnt_le (fun i => p i && flipM p B A i) 65536
    have m1 := cnt_mono p (m := B) A (by omega); have m2 := cnt_mono p (m := A) 65536 (by omega); have m3 := cnt_mono (flipM p B A) (m := B) A (by omega); have m4 := cnt_mono (flipM p B A) (m := A) 65536 (by omega)
    obtain ⟨f, hf⟩ : ∃ f, f = flipM p B A := ⟨_, rfl⟩
    rw [← hf] at c1 c2 c3 b4 b5 m3 m4
    have c4 : cnt (fun i => p i && f i) 65536 + cnt p A = cnt p 65536 + cnt p B := by rw [hf]; exact c4
    have b6 : cnt (fun i => p i && f i) 65536 ≤ 65536 := by rw [hf]; exact b6
    repeat' (first
      | (show LA _ _ _ _ _ _; first
        | refine LA_pass rfl ?_
        | refine LA_max2 rfl rfl rfl ?_
        | (show LA _ _ _ _ (⟨some 16, _, _, _, _, _⟩ :: _) _; refine LA_min2 rfl rfl rfl ?_; rw [hA])
        | (show LA _ _ _ _ (⟨some 19, _, _, _, _, _⟩ :: _) _; refine LA_min2 rfl rfl rfl ?_; rw [hB])
        | (show LA _ _ _ _ (⟨some 33, _, _, _, _, _⟩ :: _) _; show LA _ _ _ _ (⟨_, .call ⟨.value (.func 16), _, _⟩, _, _, _, _⟩ :: _) _; refine LA_call2 (f := 16) rfl rfl rfl rfl  (.val (.int .i64 (cnt p A))) (by intro u1 u2 w e hu1 hu2; (try obtain rfl : u1 = _ := hu1); (try obtain rfl : u2 = _ := hu2); exact ret_eq (by rw [show (min (max (A : Int) 0) 65536).toNat = A by omega]) (wrankP _ _ p (OwnI.slI hu1) A (by omega))) ?_)
        | (show LA _ _ _ _ (⟨some 36, _, _, _, _, _⟩ :: _) _; show LA _ _ _ _ (⟨_, .call ⟨.value (.func 16), _, _⟩, _, _, _, _⟩ :: _) _; refine LA_call2 (f := 16) rfl rfl rfl rfl  (.val (.int .i64 (cnt p B))) (by intro u1 u2 w e hu1 hu2; (try obtain rfl : u1 = _ := hu1); (try obtain rfl : u2 = _ := hu2); exact ret_eq (by rw [show (min (max (B : Int) 0) 65536).toNat = B by omega]) (wrankP _ _ p (OwnI.slI hu1) B (by omega))) ?_)
        | (show LA _ _ _ _ (⟨some 40, _, _, _, _, _⟩ :: _) _; show LA _ _ _ _ (⟨_, .call ⟨.value (.func 16), _, _⟩, _, _, _, _⟩ :: _) _; refine LA_call2 (f := 16) rfl rfl rfl rfl  (.val (.int .i64 (cnt f A))) (by intro u1 u2 w e hu1 hu2; (try obtain rfl : u1 = _ := hu1); (try obtain rfl : u2 = _ := hu2); exact ret_eq (by rw [show (min (max (A : Int) 0) 65536).toNat = A by omega]) (wrankP _ _ f (OwnI.slI hu1) A (by omega))) ?_)
        | (show LA _ _ _ _ (⟨some 43, _, _, _, _, _⟩ :: _) _; show LA _ _ _ _ (⟨_, .call ⟨.value (.func 16), _, _⟩, _, _, _, _⟩ :: _) _; refine LA_call2 (f := 16) rfl rfl rfl rfl  (.val (.int .i64 (cnt f B))) (by intro u1 u2 w e hu1 hu2; (try obtain rfl : u1 = _ := hu1); (try obtain rfl : u2 = _ := hu2); exact ret_eq (by rw [show (min (max (B : Int) 0) 65536).toNat = B by omega]) (wrankP _ _ f (OwnI.slI hu1) B (by omega))) ?_)
        | (show LA _ _ _ _ (⟨some 54, _, _, _, _, _⟩ :: _) _; show LA _ _ _ _ (⟨_, .call ⟨.value (.func 16), _, _⟩, _, _, _, _⟩ :: _) _; refine LA_call2 (f := 16) rfl rfl rfl rfl  (.val (.int .i64 (cnt f B))) (by intro u1 u2 w e hu1 hu2; (try obtain rfl : u1 = _ := hu1); (try obtain rfl : u2 = _ := hu2); exact ret_eq (by rw [show (min (max (B : Int) 0) 65536).toNat = B by omega]) (wrankP _ _ f (OwnI.slI hu1) B (by omega))) ?_)
        | (show LA _ _ _ _ (⟨some 57, _, _, _, _, _⟩ :: _) _; show LA _ _ _ _ (⟨_, .call ⟨.value (.func 16), _, _⟩, _, _, _, _⟩ :: _) _; refine LA_call2 (f := 16) rfl rfl rfl rfl  (.val (.int .i64 (cnt p B))) (by intro u1 u2 w e hu1 hu2; (try obtain rfl : u1 = _ := hu1); (try obtain rfl : u2 = _ := hu2); exact ret_eq (by rw [show (min (max (B : Int) 0) 65536).toNat = B by omega]) (wrankP _ _ p (OwnI.slI hu1) B (by omega))) ?_)
        | (show LA _ _ _ _ (⟨some 65, _, _, _, _, _⟩ :: _) _; show LA _ _ _ _ (⟨_, .call ⟨.value (.func 16), _, _⟩, _, _, _, _⟩ :: _) _; refine LA_call2 (f := 16) rfl rfl rfl rfl  (.val (.int .i64 (cnt f A))) (by intro u1 u2 w e hu1 hu2; (try obtain rfl : u1 = _ := hu1); (try obtain rfl : u2 = _ := hu2); exact ret_eq (by rw [show (min (max (A : Int) 0) 65536).toNat = A by omega]) (wrankP _ _ f (OwnI.slI hu1) A (by omega))) ?_)
        | (show LA _ _ _ _ (⟨some 71, _, _, _, _, _⟩ :: _) _; show LA _ _ _ _ (⟨_, .call ⟨.value (.func 16), _, _⟩, _, _, _, _⟩ :: _) _; refine LA_call2 (f := 16) rfl rfl rfl rfl  (.val (.int .i64 (cnt p A))) (by intro u1 u2 w e hu1 hu2; (try obtain rfl : u1 = _ := hu1); (try obtain rfl : u2 = _ := hu2); exact ret_eq (by rw [show (min (max (A : Int) 0) 65536).toNat = A by omega]) (wrankP _ _ p (OwnI.slI hu1) A (by omega))) ?_)
        | (show LA _ _ _ _ (⟨some 62, _, _, _, _, _⟩ :: _) _; show LA _ _ _ _ (⟨_, .call ⟨.value (.func 14), _, _⟩, _, _, _, _⟩ :: _) _; refine LA_call1 (f := 14) rfl rfl rfl  (.val (.int .i64 (cnt f 65536))) (by intro u1 w e hu1; (try obtain rfl : u1 = _ := hu1); exact wlenP _ _ f (OwnI.slI hu1)) ?_)
        | (show LA _ _ _ _ (⟨some 68, _, _, _, _, _⟩ :: _) _; show LA _ _ _ _ (⟨_, .call ⟨.value (.func 14), _, _⟩, _, _, _, _⟩ :: _) _; refine LA_call1 (f := 14) rfl rfl rfl  (.val (.int .i64 (cnt p 65536))) (by intro u1 w e hu1; (try obtain rfl : u1 = _ := hu1); exact wlenP _ _ p (OwnI.slI hu1)) ?_)
        | (show LA _ _ _ _ (⟨some 81, _, _, _, _, _⟩ :: _) _; show LA _ _ _ _ (⟨_, .call ⟨.value (.func 14), _, _⟩, _, _, _, _⟩ :: _) _; refine LA_call1 (f := 14) rfl rfl rfl  (.val (.int .i64 (cnt p 65536))) (by intro u1 w e hu1; (try obtain rfl : u1 = _ := hu1); exact wlenP _ _ p (OwnI.slI hu1)) ?_)
        | (show LA _ _ _ _ (⟨some 79, _, _, _, _, _⟩ :: _) _; show LA _ _ _ _ (⟨_, .call ⟨.value (.func 14), _, _⟩, _, _, _, _⟩ :: _) _; refine LA_call1 (f := 14) rfl rfl rfl  (.val (.int .i64 (cnt (fun i => p i && f i) 65536))) (by intro u1 w e hu1; (try obtain rfl : u1 = _ := hu1); exact wlenP _ _ (fun i => p i && f i) (OwnI.slI hu1)) ?_)
        | (show LA _ _ _ _ (⟨_, .move _, _, _, _, _⟩ :: _) _; first
            | refine LA_moveV rfl rfl ?_
            | refine LA_moveP rfl rfl ?_
            | refine LA_moveT rfl rfl ?_
            | refine LA_moveU rfl rfl ?_)
        | (show LA _ _ _ _ (⟨_, .assign _, _, _, _, _⟩ :: _) _; first
            | refine LA_assignV rfl rfl ?_
            | refine LA_assignP rfl rfl ?_
            | refine LA_assignT rfl rfl ?_)
        | (show LA _ _ _ _ (⟨_, .pick _ _ _, _, _, _, _⟩ :: _) _; first
            | refine LA_pickTV rfl rfl rfl ?_
            | refine LA_pickFV rfl rfl rfl ?_)
        | (show LA _ _ _ _ (⟨_, .unOp .not _ _, _, _, _, _⟩ :: _) _; first
            | refine LA_notT rfl rfl ?_
            | refine LA_notF rfl rfl ?_
            | refine LA_not rfl rfl ?_)
        | (show LA _ _ _ _ (⟨_, .extract _ _, _, _, _, _⟩ :: _) _; first
            | refine LA_ext0 rfl rfl ?_
            | refine LA_ext1 rfl rfl ?_
            | refine LA_ext30 rfl rfl ?_
            | refine LA_ext31 rfl rfl ?_
            | refine LA_ext32 rfl rfl ?_)
        | (show LA _ _ _ _ (⟨_, .binOp .add _ _ _ _, _, _, _, _⟩ :: _) _; first
            | refine LA_addF rfl rfl rfl (by dsimp only [fits]; omega) ?_
            | refine LA_addW rfl rfl rfl ?_)
        | (show LA _ _ _ _ (⟨_, .binOp .sub _ _ _ _, _, _, _, _⟩ :: _) _; first
            | refine LA_subF rfl rfl rfl (by dsimp only [fits]; omega) ?_
            | refine LA_subW rfl rfl rfl ?_)
        | (show LA _ _ _ _ (⟨_, .binOp .mul _ _ _ _, _, _, _, _⟩ :: _) _; first
            | refine LA_mulF rfl rfl rfl (by dsimp only [fits]; omega) ?_
            | refine LA_mulW rfl rfl rfl ?_)
        | (show LA _ _ _ _ (⟨_, .binOp .quo _ _ _ _, _, _, _, _⟩ :: _) _; first
            | refine LA_quo rfl rfl rfl (by omega) (by omega) (by dsimp only [fits]; omega) ?_)
        | (show LA _ _ _ _ (⟨_, .binOp .rem _ _ _ _, _, _, _, _⟩ :: _) _; first
            | refine LA_rem rfl rfl rfl (by omega) (by omega) (by dsimp only [fits]; omega) ?_)
        | (show LA _ _ _ _ (⟨_, .binOp .shr _ _ _ _, _, _, _, _⟩ :: _) _; first
            | (refine LA_shr rfl rfl rfl (by omega) (by dsimp only [IntKind.bits]; omega) ?_; try dsimp only [Int.reduceToNat, Int.reducePow]))
        | (show LA _ _ _ _ (⟨_, .binOp .shl _ _ _ _, _, _, _, _⟩ :: _) _; first
            | (refine LA_shl rfl rfl rfl (by omega) (by dsimp only [IntKind.bits]; omega) ?_; try dsimp only [Int.reduceToNat, Int.reducePow]))
        | (show LA _ _ _ _ (⟨_, .binOp _ _ _ _ _, _, _, _, _⟩ :: _) _; first
            | refine LA_cmpT rfl rfl rfl rfl (by first | (dsimp only [cmpP]; done) | (dsimp only [cmpP]; omega)) ?_
            | refine LA_cmpF rfl rfl rfl rfl (by dsimp only [cmpP]; omega) ?_
            | (refine LA_cmp rfl rfl rfl rfl (fun hc => ?_) (fun hc => ?_) <;> dsimp only [cmpP] at hc)
            | refine LA_boolEqT rfl rfl rfl rfl (by first | rfl | assumption) ?_
            | refine LA_boolEqF rfl rfl rfl rfl (by first | assumption | decide) ?_
            | refine LA_boolEq rfl rfl rfl rfl ?_
            | refine LA_boolNeT rfl rfl rfl rfl (by first | assumption | decide) ?_
            | refine LA_boolNeF rfl rfl rfl rfl (by first | rfl | assumption) ?_
            | refine LA_boolNe rfl rfl rfl rfl ?_)
        | (show LA _ _ _ _ (⟨_, .indexAddr _ _ _, _, _, _, _⟩ :: _) _; first
            | refine LA_indexN rfl _ rfl (fun _ => rfl) rfl (by first | exact HasI.val (by assumption) | exact HasI.pred | exact HasI.own | exact HasI.ownV (by assumption)) rfl (by omega) ?_
            | (refine LA_index rfl _ rfl (fun _ => rfl) rfl (by first | exact HasI.val (by assumption) | exact HasI.pred | exact HasI.own | exact HasI.ownV (by assumption)) rfl (by omega) (by omega) ?_; try dsimp only [Int.reduceToNat]))
        | (show LA _ _ _ _ (⟨_, .load _ _, _, _, _, _⟩ :: _) _; first
            | refine LA_load rfl (fun _ => rfl) rfl ?_)
        | (show LA _ _ _ _ (⟨_, .convert _ _ _, _, _, _, _⟩ :: _) _; first
            | refine LA_convF rfl rfl rfl rfl (by dsimp only [fits]; omega) ?_
            | refine LA_conv rfl rfl rfl rfl ?_)
        | (show LA _ _ _ _ (⟨_, .slice _ _ _ _ _, _, _, _, _⟩ :: _) _; first
            | (refine LA_sliceL rfl _ rfl rfl (by first | exact (HasI.val (by assumption)).c | exact HasI.pred.c | exact HasC.val (by assumption) | exact HasC.pred | exact HasI.own.c | exact HasC.own | exact (HasI.ownV (by assumption)).c | exact HasC.ownV (by assumption)) rfl (by omega) (by omega) (by exact fun _ => rfl) ?_; try dsimp only [Int.reduceToNat, Int.toNat_natCast])
            | (refine LA_sliceH rfl _ rfl rfl (by first | exact (HasI.val (by assumption)).c | exact HasI.pred.c | exact HasC.val (by assumption) | exact HasC.pred | exact HasI.own.c | exact HasC.own | exact (HasI.ownV (by assumption)).c | exact HasC.ownV (by assumption)) rfl (by omega) (by omega) (by exact fun _ => rfl) ?_; try dsimp only [Int.reduceToNat, Int.toNat_natCast])
            | (refine LA_sliceLH rfl _ rfl rfl (by first | exact (HasI.val (by assumption)).c | exact HasI.pred.c | exact HasC.val (by assumption) | exact HasC.pred | exact HasI.own.c | exact HasC.own | exact (HasI.ownV (by assumption)).c | exact HasC.ownV (by assumption)) rfl rfl (by omega) (by omega) (by omega) (by exact fun _ => rfl) ?_; try dsimp only [Int.reduceToNat, Int.toNat_natCast]))
        | (show LA _ _ _ _ (⟨_, .call ⟨.builtin .len, _, _⟩, _, _, _, _⟩ :: _) _; first
            | refine LA_len rfl _ rfl rfl (by first | exact (HasI.val (by assumption)).c | exact HasI.pred.c | exact HasC.val (by assumption) | exact HasC.pred | exact HasI.own.c | exact HasC.own | exact (HasI.ownV (by assumption)).c | exact HasC.ownV (by assumption)) ?_)
        | (show LA _ _ _ _ (⟨_, .call ⟨.value _, _, _⟩, _, _, _, _⟩ :: _) _; first
            | (show LA _ _ _ _ (⟨_, .call ⟨.value (.func 9), _, _⟩, _, _, _, _⟩ :: _) _; refine LA_call0 (f := 9) rfl rfl  (.val (.bool true)) (by intro w e; exact known_c _ (hT.ext e)) ?_)
            | (show LA _ _ _ _ (⟨_, .call ⟨.value (.func 10), _, _⟩, _, _, _, _⟩ :: _) _; refine LA_call1 (f := 10) rfl rfl rfl  (.pred (ownI w.heap.size 43 .u64 (wordsOf p))) (by intro u1 w e hu1; (try obtain rfl : u1 = _ := hu1); exact hp ▸ (wof_c _ _ xs (h.ext e) hl).mono (ret_base e.size)) ?_)
            | (show LA _ _ _ _ (⟨_, .call ⟨.value (.func 13), _, _⟩, _, _, _, _⟩ :: _) _; refine LA_call3 (f := 13) rfl rfl rfl rfl rfl  (.pred (ownI w.heap.size 43 .u64 (wordsOf f))) (by intro u1 u2 u3 w e hu1 hu2 hu3; (try obtain rfl : u1 = _ := hu1); (try obtain rfl : u2 = _ := hu2); (try obtain rfl : u3 = _ := hu3); exact hf ▸ (wflipP _ _ p (OwnI.slI hu1) B A (by omega) (by omega)).mono (ret_base e.size)) ?_)
            | (show LA _ _ _ _ (⟨_, .call ⟨.value (.func 18), _, _⟩, _, _, _, _⟩ :: _) _; refine LA_call2 (f := 18) rfl rfl rfl rfl  (.pred (ownI w.heap.size 43 .u64 (wordsOf (fun i => p i && f i)))) (by intro u1 u2 w e hu1 hu2; (try obtain rfl : u1 = _ := hu1); (try obtain rfl : u2 = _ := hu2); exact (wandP _ _ _ p f (OwnI.slI hu1) (OwnI.slI hu2)).mono (ret_base e.size)) ?_))
        | (refine LA_nil (hK [] _ (LX_nil ?_)); clear hK K)
        | (refine LA_nil (hK _ ?_); clear hK K))
      | (show CX _ _ _ _ _ _; first
        | refine CX_seq ?_
        | refine CX_skip ?_
        | refine CX_block ?_
        | refine CX_exit ?_
        | refine CX_ret ?_
        | refine CX_condT rfl ?_
        | refine CX_condF rfl ?_
        | refine CX_region (by kernel_rfl) (fun K hK => ?_)
        | refine CX_regionA (by kernel_rfl) (by kernel_rfl) (fun K hK => ?_)
        | refine CX_label ?_
        | refine CX_scope ?_)
      | (show PX _ _ _ _ _; first
        | refine PX_then ?_
        | refine PX_thenX ?_
        | refine PX_thenR ?_
        | refine PX_blockN ?_
        | refine PX_blockR ?_
        | refine PX_blockX ?_
        | refine PX_blockO (by decide) ?_
        | refine PX_scopeN ?_
        | refine PX_scopeR ?_
        | refine PX_scopeX ?_
        | exact PX_retE rfl rfl (Ext.refl _) rfl)
      | (show LX _ _ _ _ _ _ _; first
        | refine LX_nil ?_))

  · have q0 : True := trivial

    obtain ⟨c1, c2, c3, c4⟩ := flip_cnt p A B (by omega) (by omega)
    have b1 := cnt_le p A; have b2 := cnt_le p B; have b3 := cnt_le p 65536; have b4 := cnt_le (flipM p A B) B; have b5 := cnt_le (flipM p A B) 65536; have b6 := cnt_le (fun i => p i && flipM p A B i) 65536
    have m1 := cnt_mono p (m := A) B (by omega); have m2 := cnt_mono p (m := B) 65536 (by omega); have m3 := cnt_mono (flipM p A B) (m := A) B (by omega); have m4 := cnt_mono (flipM p A B) (m := B) 65536 (by omega)
    obtain ⟨f, hf⟩ : ∃ f, f = flipM p A B := ⟨_, rfl⟩
    rw [← hf] at c1 c2 c3 b4 b5 m3 m4
    have c4 : cnt (fun i => p i && f i) 65536 + cnt p B = cnt p 65536 + cnt p A := by rw [hf]; exact c4
    have b6 : cnt (fun i => p i && f i) 65536 ≤ 65536 := by rw [hf]; exact b6
    repeat' (first
      | (show LA _ _ _ _ _ _; first
        | refine LA_pass rfl ?_
        | refine LA_max2 rfl rfl rfl ?_
        | (show LA _ _ _ _ (⟨some 16, _, _, _, _, _⟩ :: _) _; refine LA_min2 rfl rfl rfl ?_; rw [hA])
        | (show LA _ _ _ _ (⟨some 19, _, _, _, _, _⟩ :: _) _; refine LA_min2 rfl rfl rfl ?_; rw [hB])
        | (show LA _ _ _ _ (⟨some 33, _, _, _, _, _⟩ :: _) _; show LA _ _ _ _ (⟨_, .call ⟨.value (.func 16), _, _⟩, _, _, _, _⟩ :: _) _; refine LA_call2 (f := 16) rfl rfl rfl rfl  (.val (.int .i64 (cnt p B))) (by intro u1 u2 w e hu1 hu2; (try obtain rfl : u1 = _ := hu1); (try obtain rfl : u2 = _ := hu2); exact ret_eq (by rw [show (min (max (B : Int) 0) 65536).toNat = B by omega]) (wrankP _ _ p (OwnI.slI hu1) B (by omega))) ?_)
        | (show LA _ _ _ _ (⟨some 36, _, _, _, _, _⟩ :: _) _; show LA _ _ _ _ (⟨_, .call ⟨.value (.func 16), _, _⟩, _, _, _, _⟩ :: _) _; refine LA_call2 (f := 16) rfl rfl rfl rfl  (.val (.int .i64 (cnt p A))) (by intro u1 u2 w e hu1 hu2; (try obtain rfl : u1 = _ := hu1); (try obtain rfl : u2 = _ := hu2); exact ret_eq (by rw [show (min (max (A : Int) 0) 65536).toNat = A by omega]) (wrankP _ _ p (OwnI.slI hu1) A (by omega))) ?_)
        | (show LA _ _ _ _ (⟨some 40, _, _, _, _, _⟩ :: _) _; show LA _ _ _ _ (⟨_, .call ⟨.value (.func 16), _, _⟩, _, _, _, _⟩ :: _) _; refine LA_call2 (f := 16) rfl rfl rfl rfl  (.val (.int .i64 (cnt f B))) (by intro u1 u2 w e hu1 hu2; (try obtain rfl : u1 = _ := hu1); (try obtain rfl : u2 = _ := hu2); exact ret_eq (by rw [show (min (max (B : Int) 0) 65536).toNat = B by omega]) (wrankP _ _ f (OwnI.slI hu1) B (by omega))) ?_)
        | (show LA _ _ _ _ (⟨some 43, _, _, _, _, _⟩ :: _) _; show LA _ _ _ _ (⟨_, .call ⟨.value (.func 16), _, _⟩, _, _, _, _⟩ :: _) _; refine LA_call2 (f := 16) rfl rfl rfl rfl  (.val (.int .i64 (cnt f A))) (by intro u1 u2 w e hu1 hu2; (try obtain rfl : u1 = _ := hu1); (try obtain rfl : u2 = _ := hu2); exact ret_eq (by rw [show (min (max (A : Int) 0) 65536).toNat = A by omega]) (wrankP _ _ f (OwnI.slI hu1) A (by omega))) ?_)
        | (show LA _ _ _ _ (⟨some 54, _, _, _, _, _⟩ :: _) _; show LA _ _ _ _ (⟨_, .call ⟨.value (.func 16), _, _⟩, _, _, _, _⟩ :: _) _; refine LA_call2 (f := 16) rfl rfl rfl rfl  (.val (.int .i64 (cnt f A))) (by intro u1 u2 w e hu1 hu2; (try obtain rfl : u1 = _ := hu1); (try obtain rfl : u2 = _ := hu2); exact ret_eq (by rw [show (min (max (A : Int) 0) 65536).toNat = A by omega]) (wrankP _ _ f (OwnI.slI hu1) A (by omega))) ?_)
        | (show LA _ _ _ _ (⟨some 57, _, _, _, _, _⟩ :: _) _; show LA _ _ _ _ (⟨_, .call ⟨.value (.func 16), _, _⟩, _, _, _, _⟩ :: _) _; refine LA_call2 (f := 16) rfl rfl rfl rfl  (.val (.int .i64 (cnt p A))) (by intro u1 u2 w e hu1 hu2; (try obtain rfl : u1 = _ := hu1); (try obtain rfl : u2 = _ := hu2); exact ret_eq (by rw [show (min (max (A : Int) 0) 65536).toNat = A by omega]) (wrankP _ _ p (OwnI.slI hu1) A (by omega))) ?_)
        | (show LA _ _ _ _ (⟨some 65, _, _, _, _, _⟩ :: _) _; show LA _ _ _ _ (⟨_, .call ⟨.value (.func 16), _, _⟩, _, _, _, _⟩ :: _) _; refine LA_call2 (f := 16) rfl rfl rfl rfl  (.val (.int .i64 (cnt f B))) (by intro u1 u2 w e hu1 hu2; (try obtain rfl : u1 = _ := hu1); (try obtain rfl : u2 = _ := hu2); exact ret_eq (by rw [show (min (max (B : Int) 0) 65536).toNat = B by omega]) (wrankP _ _ f (OwnI.slI hu1) B (by omega))) ?_)
        | (show LA _ _ _ _ (⟨some 71, _, _, _, _, _⟩ :: _) _; show LA _ _ _ _ (⟨_, .call ⟨.value (.func 16), _, _⟩, _, _, _, _⟩ :: _) _; refine LA_call2 (f := 16) rfl rfl rfl rfl  (.val (.int .i64 (cnt p B))) (by intro u1 u2 w e hu1 hu2; (try obtain rfl : u1 = _ := hu1); (try obtain rfl : u2 = _ := hu2); exact ret_eq (by rw [show (min (max (B : Int) 0) 65536).toNat = B by omega]) (wrankP _ _ p (OwnI.slI hu1) B (by omega))) ?_)
        | (show LA _ _ _ _ (⟨some 62, _, _, _, _, _⟩ :: _) _; show LA _ _ _ _ (⟨_, .call ⟨.value (.func 14), _, _⟩, _, _, _, _⟩ :: _) _; refine LA_call1 (f := 14) rfl rfl rfl  (.val (.int .i64 (cnt f 65536))) (by intro u1 w e hu1; (try obtain rfl : u1 = _ := hu1); exact wlenP _ _ f (OwnI.slI hu1)) ?_)
        | (show LA _ _ _ _ (⟨some 68, _, _, _, _, _⟩ :: _) _; show LA _ _ _ _ (⟨_, .call ⟨.value (.func 14), _, _⟩, _, _, _, _⟩ :: _) _; refine LA_call1 (f := 14) rfl rfl rfl  (.val (.int .i64 (cnt p 65536))) (by intro u1 w e hu1; (try obtain rfl : u1 = _ := hu1); exact wlenP _ _ p (OwnI.slI hu1)) ?_)
        | (show LA _ _ _ _ (⟨some 81, _, _, _, _, _⟩ :: _) _; show LA _ _ _ _ (⟨_, .call ⟨.value (.func 14), _, _⟩, _, _, _, _⟩ :: _) _; refine LA_call1 (f := 14) rfl rfl rfl  (.val (.int .i64 (cnt p 65536))) (by intro u1 w e hu1; (try obtain rfl : u1 = _ := hu1); exact wlenP _ _ p (OwnI.slI hu1)) ?_)
        | (show LA _ _ _ _ (⟨some 79, _, _, _, _, _⟩ :: _) _; show LA _ _ _ _ (⟨_, .call ⟨.value (.func 14), _, _⟩, _, _, _, _⟩ :: _) _; refine LA_call1 (f := 14) rfl rfl rfl  (.val (.int .i64 (cnt (fun i => p i && f i) 65536))) (by intro u1 w e hu1; (try obtain rfl : u1 = _ := hu1); exact wlenP _ _ (fun i => p i && f i) (OwnI.slI hu1)) ?_)
        | (show LA _ _ _ _ (⟨_, .move _, _, _, _, _⟩ :: _) _; first
            | refine LA_moveV rfl rfl ?_
            | refine LA_moveP rfl rfl ?_
            | refine LA_moveT rfl rfl ?_
            | refine LA_moveU rfl rfl ?_)
        | (show LA _ _ _ _ (⟨_, .assign _, _, _, _, _⟩ :: _) _; first
            | refine LA_assignV rfl rfl ?_
            | refine LA_assignP rfl rfl ?_
            | refine LA_assignT rfl rfl ?_)
        | (show LA _ _ _ _ (⟨_, .pick _ _ _, _, _, _, _⟩ :: _) _; first
            | refine LA_pickTV rfl rfl rfl ?_
            | refine LA_pickFV rfl rfl rfl ?_)
        | (show LA _ _ _ _ (⟨_, .unOp .not _ _, _, _, _, _⟩ :: _) _; first
            | refine LA_notT rfl rfl ?_
            | refine LA_notF rfl rfl ?_
            | refine LA_not rfl rfl ?_)
        | (show LA _ _ _ _ (⟨_, .extract _ _, _, _, _, _⟩ :: _) _; first
            | refine LA_ext0 rfl rfl ?_
            | refine LA_ext1 rfl rfl ?_
            | refine LA_ext30 rfl rfl ?_
            | refine LA_ext31 rfl rfl ?_
            | refine LA_ext32 rfl rfl ?_)
        | (show LA _ _ _ _ (⟨_, .binOp .add _ _ _ _, _, _, _, _⟩ :: _) _; first
            | refine LA_addF rfl rfl rfl (by dsimp only [fits]; omega) ?_
            | refine LA_addW rfl rfl rfl ?_)
        | (show LA _ _ _ _ (⟨_, .binOp .sub _ _ _ _, _, _, _, _⟩ :: _) _; first
            | refine LA_subF rfl rfl rfl (by dsimp only [fits]; omega) ?_
            | refine LA_subW rfl rfl rfl ?_)
        | (show LA _ _ _ _ (⟨_, .binOp .mul _ _ _ _, _, _, _, _⟩ :: _) _; first
            | refine LA_mulF rfl rfl rfl (by dsimp only [fits]; omega) ?_
            | refine LA_mulW rfl rfl rfl ?_)
        | (show LA _ _ _ _ (⟨_, .binOp .quo _ _ _ _, _, _, _, _⟩ :: _) _; first
            | refine LA_quo rfl rfl rfl (by omega) (by omega) (by dsimp only [fits]; omega) ?_)
        | (show LA _ _ _ _ (⟨_, .binOp .rem _ _ _ _, _, _, _, _⟩ :: _) _; first
            | refine LA_rem rfl rfl rfl (by omega) (by omega) (by dsimp only [fits]; omega) ?_)
        | (show LA _ _ _ _ (⟨_, .binOp .shr _ _ _ _, _, _, _, _⟩ :: _) _; first
            | (refine LA_shr rfl rfl rfl (by omega) (by dsimp only [IntKind.bits]; omega) ?_; try dsimp only [Int.reduceToNat, Int.reducePow]))
        | (show LA _ _ _ _ (⟨_, .binOp .shl _ _ _ _, _, _, _, _⟩ :: _) _; first
            | (refine LA_shl rfl rfl rfl (by omega) (by dsimp only [IntKind.bits]; omega) ?_; try dsimp only [Int.reduceToNat, Int.reducePow]))
        | (show LA _ _ _ _ (⟨_, .binOp _ _ _ _ _, _, _, _, _⟩ :: _) _; first
            | refine LA_cmpT rfl rfl rfl rfl (by first | (dsimp only [cmpP]; done) | (dsimp only [cmpP]; omega)) ?_
            | refine LA_cmpF rfl rfl rfl rfl (by dsimp only [cmpP]; omega) ?_
            | (refine LA_cmp rfl rfl rfl rfl (fun hc => ?_) (fun hc => ?_) <;> dsimp only [cmpP] at hc)
            | refine LA_boolEqT rfl rfl rfl rfl (by first | rfl | assumption) ?_
            | refine LA_boolEqF rfl rfl rfl rfl (by first | assumption | decide) ?_
            | refine LA_boolEq rfl rfl rfl rfl ?_
            | refine LA_boolNeT rfl rfl rfl rfl (by first | assumption | decide) ?_
            | refine LA_boolNeF rfl rfl rfl rfl (by first | rfl | assumption) ?_
            | refine LA_boolNe rfl rfl rfl rfl ?_)
        | (show LA _ _ _ _ (⟨_, .indexAddr _ _ _, _, _, _, _⟩ :: _) _; first
            | refine LA_indexN rfl _ rfl (fun _ => rfl) rfl (by first | exact HasI.val (by assumption) | exact HasI.pred | exact HasI.own | exact HasI.ownV (by assumption)) rfl (by omega) ?_
            | (refine LA_index rfl _ rfl (fun _ => rfl) rfl (by first | exact HasI.val (by assumption) | exact HasI.pred | exact HasI.own | exact HasI.ownV (by assumption)) rfl (by omega) (by omega) ?_; try dsimp only [Int.reduceToNat]))
        | (show LA _ _ _ _ (⟨_, .load _ _, _, _, _, _⟩ :: _) _; first
            | refine LA_load rfl (fun _ => rfl) rfl ?_)
        | (show LA _ _ _ _ (⟨_, .convert _ _ _, _, _, _, _⟩ :: _) _; first
            | refine LA_convF rfl rfl rfl rfl (by dsimp only [fits]; omega) ?_
            | refine LA_conv rfl rfl rfl rfl ?_)
        | (show LA _ _ _ _ (⟨_, .slice _ _ _ _ _, _, _, _, _⟩ :: _) _; first
            | (refine LA_sliceL rfl _ rfl rfl (by first | exact (HasI.val (by assumption)).c | exact HasI.pred.c | exact HasC.val (by assumption) | exact HasC.pred | exact HasI.own.c | exact HasC.own | exact (HasI.ownV (by assumption)).c | exact HasC.ownV (by assumption)) rfl (by omega) (by omega) (by exact fun _ => rfl) ?_; try dsimp only [Int.reduceToNat, Int.toNat_natCast])
            | (refine LA_sliceH rfl _ rfl rfl (by first | exact (HasI.val (by assumption)).c | exact HasI.pred.c | exact HasC.val (by assumption) | exact HasC.pred | exact HasI.own.c | exact HasC.own | exact (HasI.ownV (by assumption)).c | exact HasC.ownV (by assumption)) rfl (by omega) (by omega) (by exact fun _ => rfl) ?_; try dsimp only [Int.reduceToNat, Int.toNat_natCast])
            | (refine LA_sliceLH rfl _ rfl rfl (by first | exact (HasI.val (by assumption)).c | exact HasI.pred.c | exact HasC.val (by assumption) | exact HasC.pred | exact HasI.own.c | exact HasC.own | exact (HasI.ownV (by assumption)).c | exact HasC.ownV (by assumption)) rfl rfl (by omega) (by omega) (by omega) (by exact fun _ => rfl) ?_; try dsimp only [Int.reduceToNat, Int.toNat_natCast]))
        | (show LA _ _ _ _ (⟨_, .call ⟨.builtin .len, _, _⟩, _, _, _, _⟩ :: _) _; first
            | refine LA_len rfl _ rfl rfl (by first | exact (HasI.val (by assumption)).c | exact HasI.pred.c | exact HasC.val (by assumption) | exact HasC.pred | exact HasI.own.c | exact HasC.own | exact (HasI.ownV (by assumption)).c | exact HasC.ownV (by assumption)) ?_)
        | (show LA _ _ _ _ (⟨_, .call ⟨.value _, _, _⟩, _, _, _, _⟩ :: _) _; first
            | (show LA _ _ _ _ (⟨_, .call ⟨.value (.func 9), _, _⟩, _, _, _, _⟩ :: _) _; refine LA_call0 (f := 9) rfl rfl  (.val (.bool true)) (by intro w e; exact known_c _ (hT.ext e)) ?_)
            | (show LA _ _ _ _ (⟨_, .call ⟨.value (.func 10), _, _⟩, _, _, _, _⟩ :: _) _; refine LA_call1 (f := 10) rfl rfl rfl  (.pred (ownI w.heap.size 43 .u64 (wordsOf p))) (by intro u1 w e hu1; (try obtain rfl : u1 = _ := hu1); exact hp ▸ (wof_c _ _ xs (h.ext e) hl).mono (ret_base e.size)) ?_)
            | (show LA _ _ _ _ (⟨_, .call ⟨.value (.func 13), _, _⟩, _, _, _, _⟩ :: _) _; refine LA_call3 (f := 13) rfl rfl rfl rfl rfl  (.pred (ownI w.heap.size 43 .u64 (wordsOf f))) (by intro u1 u2 u3 w e hu1 hu2 hu3; (try obtain rfl : u1 = _ := hu1); (try obtain rfl : u2 = _ := hu2); (try obtain rfl : u3 = _ := hu3); exact hf ▸ (wflipP _ _ p (OwnI.slI hu1) A B (by omega) (by omega)).mono (ret_base e.size)) ?_)
            | (show LA _ _ _ _ (⟨_, .call ⟨.value (.func 18), _, _⟩, _, _, _, _⟩ :: _) _; refine LA_call2 (f := 18) rfl rfl rfl rfl  (.pred (ownI w.heap.size 43 .u64 (wordsOf (fun i => p i && f i)))) (by intro u1 u2 w e hu1 hu2; (try obtain rfl : u1 = _ := hu1); (try obtain rfl : u2 = _ := hu2); exact (wandP _ _ _ p f (OwnI.slI hu1) (OwnI.slI hu2)).mono (ret_base e.size)) ?_))
        | (refine LA_nil (hK [] _ (LX_nil ?_)); clear hK K)
        | (refine LA_nil (hK _ ?_); clear hK K))
      | (show CX _ _ _ _ _ _; first
        | refine CX_seq ?_
        | refine CX_skip ?_
        | refine CX_block ?_
        | refine CX_exit ?_
        | refine CX_ret ?_
        | refine CX_condT rfl ?_
        | refine CX_condF rfl ?_
        | refine CX_region (by kernel_rfl) (fun K hK => ?_)
        | refine CX_regionA (by kernel_rfl) (by kernel_rfl) (fun K hK => ?_)
        | refine CX_label ?_
        | refine CX_scope ?_)
      | (show PX _ _ _ _ _; first
        | refine PX_then ?_
        | refine PX_thenX ?_
        | refine PX_thenR ?_
        | refine PX_blockN ?_
        | refine PX_blockR ?_
        | refine PX_blockX ?_
        | refine PX_blockO (by decide) ?_
        | refine PX_scopeN ?_
        | refine PX_scopeR ?_
        | refine PX_scopeX ?_
        | exact PX_retE rfl rfl (Ext.refl _) rfl)
      | (show LX _ _ _ _ _ _ _; first
        | refine LX_nil ?_))

end Go.Proofs.YthcpljmibcacaaaDoor
