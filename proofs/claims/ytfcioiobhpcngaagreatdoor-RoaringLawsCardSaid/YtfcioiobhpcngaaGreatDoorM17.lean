import Derived.Test.YtfcioiobhpcngaaGreatDoorM14
import Derived.Test.YtfcioiobhpcngaaGreatDoorM16
section
set_option linter.unusedSimpArgs false
set_option linter.unusedVariables false
set_option maxRecDepth 3000
namespace Go.Proofs.YtfcioiobhpcngaaGreatDoor
namespace Srt
open Go.LA Go.ArrP Go.RowKit
set_option maxHeartbeats 16000000 in
theorem pins16_c {w0 w : World} {b cap n : Nat} {D0 : Array Int} (he0 : Ext w0 w) (ho0 : Rw16 w0 w b cap n D0) (hn : n = D0.size) (lo hi : Nat) (h1 : lo < hi) (h2 : hi ≤ D0.size) (hb : D0.size < 4611686018427387904) :
    Fc Tryz.prog 189 #[.slice (some ⟨b, 0, none⟩) n cap, .int .i64 lo, .int .i64 hi] w (fun e w' => e = .returned (.bool (Go.Sort.partialInsertionSort Go.Sort.ltInt D0 lo hi).2) ∧ Ext w0 w' ∧ Rw16 w0 w' b cap n (Go.Sort.partialInsertionSort Go.Sort.ltInt D0 lo hi).1) := by
  unfold Go.Sort.partialInsertionSort
  obtain ⟨R, hR⟩ : ∃ R, R = Go.Sort.partialIns Go.Sort.ltInt lo hi 5 (lo + 1) D0 := ⟨_, rfl⟩
  rw [← hR]
  refine Fc.of (args := [_, _, _]) Tryz.func189 rfl rfl Tryz.ntmps189 (Nat.le_of_ble_eq_true rfl) ?_
  repeat' (first|(refine oLA ?_;first|refine LA_pass rfl ?_|(refine oD 12 ?_; refine LA_addF rfl rfl rfl (by dsimp only [fits]; omega) ?_; rw [show ((lo : Int) + 1) = ((lo + 1 : Nat) : Int) by omega])|refine wOp ?_|(refine wCm ?_ ?_<;>intro hc)|(refine wNl hK ?_;clear hK K))|refine wG ?_|(refine wCR ?_;intro K hK)|fail)
  refine CX_loopV (ι := Nat × Nat × Array Int) (fun i => [(0, .val (.slice (some ⟨b, 0, none⟩) n cap)), (1, .val (.int .i64 lo)), (2, .val (.int .i64 hi)), (6, .val (.bool false)), (7, .val (.int .i64 (i.2.1 : Int))), (8, .val (.int .i64 (5 - (i.1 : Int))))])
    (fun i w' => Ext w0 w' ∧ i.1 ≤ 5 ∧ i.2.2.size = D0.size ∧ Rw16 w0 w' b cap n i.2.2 ∧ lo + 1 ≤ i.2.1 ∧ i.2.1 ≤ hi ∧ Go.Sort.partialIns Go.Sort.ltInt lo hi i.1 i.2.1 i.2.2 = R) (fun i => i.1)
    (fun w2 e2 => ⟨(5, lo + 1, D0), ⟨he0.trans e2, Nat.le_refl _, rfl, ho0.ext e2, Nat.le_refl _, by dsimp only; omega, hR.symm⟩, by dsimp only; exact (by repeat' (first | exact Sub.nil | refine Sub.val rfl (by first | with_reducible rfl | (congr 1; omega)) ?_ | refine Sub.same rfl ?_))⟩) ?_
  rintro ⟨s, ii, D⟩ w1 ⟨he1, hs5, hs1, ho1, c1, c2, c3⟩
  dsimp only at hs5 hs1 ho1 c1 c2 c3 ⊢
  have hl1 := len_toL D
  cases s with
  | zero =>
    rw [Go.Sort.partialIns] at c3
    subst c3
    repeat' (first|(refine oLA ?_;first|refine LA_pass rfl ?_|refine wOp ?_|(refine wCm ?_ ?_<;>intro hc)|(refine wNl hK ?_;clear hK K))|refine wG ?_|(refine wCR ?_;intro K hK)|fail)
    exact PX_ret1 rfl (fun x w5 e5 hx => by obtain rfl : x = _ := hx; exact ⟨rfl, Ext.trans (by assumption) e5, OwnI.ext (by assumption) e5⟩)
  | succ s =>
  obtain ⟨i3, hi3⟩ : ∃ i3, i3 = Go.Sort.scanSorted Go.Sort.ltInt D hi ii := ⟨_, rfl⟩
  have bi3 := Go.Sort.scanSorted_bd (lt := Go.Sort.ltInt) (d := D) (b := hi) _ ii (Nat.le_refl _) c2
  rw [← hi3] at bi3
  repeat' (first|(refine oLA ?_;first|refine wBk ?_|(refine oI ?_; refine LA_ixD rfl rfl (fun _ => rfl) rfl rfl _ rfl (by omega) ?_)|(refine oL ?_; refine LA_ldD ho1 rfl (fun _ => rfl) rfl (by omega) ?_; rw [getA])|(refine oD 46 ?_; refine LA_subF rfl rfl rfl (by dsimp only [fits]; omega) ?_; rw [show ((i3 : Int) - 1) = ((i3 - 1 : Nat) : Int) by omega])|(refine oD 49 ?_; refine LA_subF rfl rfl rfl (by dsimp only [fits]; omega) ?_; rw [show ((i3 : Int) - 1) = ((i3 - 1 : Nat) : Int) by omega])|refine wOp ?_|(refine wCm ?_ ?_<;>intro hc)|(refine wNl hK ?_;clear hK K))|(refine oCX ?_;first|refine CX_seqB 2 [(0, .val (.slice (some ⟨b, 0, none⟩) n cap)), (1, .val (.int .i64 lo)), (2, .val (.int .i64 hi)), (6, .val (.bool false)), (7, .val (.int .i64 (i3 : Nat))), (8, .val (.int .i64 (5 - ((s + 1 : Nat) : Int))))] ?_ ?_|refine CX_phases (id := 11) [15, 17] (by kernel_rfl) (by kernel_rfl) (by kernel_rfl) (Phase_cons ?_))|refine wG ?_|(refine wCR ?_;intro K hK)|refine wPh ?_|fail)
  · refine CX_loop (ι := Nat) (fun i => [(0, .val (.slice (some ⟨b, 0, none⟩) n cap)), (1, .val (.int .i64 lo)), (2, .val (.int .i64 hi)), (6, .val (.bool false)), (7, .val (.int .i64 (i : Nat))), (8, .val (.int .i64 (5 - ((s + 1 : Nat) : Int))))])
      (fun i => ii ≤ i ∧ i ≤ hi ∧ Go.Sort.scanSorted Go.Sort.ltInt D hi i = i3) (fun i => hi - i) ii ⟨Nat.le_refl _, c2, by rw [hi3]⟩ (by repeat' (first | exact Sub.nil | refine Sub.val rfl (by first | with_reducible rfl | (congr 1; omega)) ?_ | refine Sub.same rfl ?_)) ?_
    rintro i ⟨g1, g2, g3⟩
    by_cases hij : i < hi
    · cases hp : Go.Sort.ltInt D[i]! D[i - 1]!
      · rw [Go.Sort.scanSorted_go hij hp] at g3
        repeat' (first|(refine oLA ?_;first|refine LA_pass rfl ?_|(refine oD 27 ?_; refine LA_subF rfl rfl rfl (by dsimp only [fits]; omega) ?_; rw [show ((i : Int) - 1) = ((i - 1 : Nat) : Int) by omega])|(refine oI ?_; refine LA_ixD rfl rfl (fun _ => rfl) rfl rfl _ rfl (by omega) ?_)|(refine oL ?_; refine LA_ldD ho1 rfl (fun _ => rfl) rfl (by omega) ?_; rw [getA])|refine wOp ?_|(refine wCm ?_ ?_<;>intro hc)|(refine oCv ?_;first|(refine oC 177 ?_; refine LA_call2 (f := 177) rfl rfl rfl rfl  (.val (.bool false)) (by intro u1 u2 w e hu1 hu2; (try obtain rfl : u1 = _ := hu1); (try obtain rfl : u2 = _ := hu2); exact ret_eq (by rw [hp]) (less16_c _ _ _)) ?_))|(refine wNl hK ?_;clear hK K))|refine wG ?_|(refine wCR ?_;intro K hK)|fail)
        exact PX_rnd (i + 1) ⟨by omega, by omega, g3⟩ (by omega) (by repeat' (first | exact Sub.nil | refine Sub.val rfl (by first | with_reducible rfl | (congr 1; omega)) ?_ | refine Sub.same rfl ?_))
      · rw [Go.Sort.scanSorted_stop (.inr hp)] at g3
        subst g3
        repeat' (first|(refine oLA ?_;first|refine LA_pass rfl ?_|(refine oD 27 ?_; refine LA_subF rfl rfl rfl (by dsimp only [fits]; omega) ?_; rw [show ((i : Int) - 1) = ((i - 1 : Nat) : Int) by omega])|(refine oI ?_; refine LA_ixD rfl rfl (fun _ => rfl) rfl rfl _ rfl (by omega) ?_)|(refine oL ?_; refine LA_ldD ho1 rfl (fun _ => rfl) rfl (by omega) ?_; rw [getA])|refine wOp ?_|(refine wCm ?_ ?_<;>intro hc)|(refine oCv ?_;first|(refine oC 177 ?_; refine LA_call2 (f := 177) rfl rfl rfl rfl  (.val (.bool true)) (by intro u1 u2 w e hu1 hu2; (try obtain rfl : u1 = _ := hu1); (try obtain rfl : u2 = _ := hu2); exact ret_eq (by rw [hp]) (less16_c _ _ _)) ?_))|(refine wNl hK ?_;clear hK K))|refine wG ?_|(refine wCR ?_;intro K hK)|fail)
        exact PX_cut (by repeat' (first | exact Sub.nil | refine Sub.val rfl (by first | with_reducible rfl | (congr 1; omega)) ?_ | refine Sub.same rfl ?_))
    · rw [Go.Sort.scanSorted_stop (.inl hij)] at g3
      subst g3
      repeat' (first|(refine oLA ?_;first|refine LA_pass rfl ?_|refine wOp ?_|(refine wCm ?_ ?_<;>intro hc)|(refine wNl hK ?_;clear hK K))|refine wG ?_|(refine wCR ?_;intro K hK)|fail)
      exact PX_cut (by repeat' (first | exact Sub.nil | refine Sub.val rfl (by first | with_reducible rfl | (congr 1; omega)) ?_ | refine Sub.same rfl ?_))
  · skip
    rw [Go.Sort.pI_end hi3 (by omega)] at c3
    subst c3
    exact PX_ret1 rfl (fun x w5 e5 hx => by obtain rfl : x = _ := hx; exact ⟨rfl, Ext.trans (by assumption) e5, OwnI.ext (by assumption) e5⟩)
  · skip
    rw [Go.Sort.pI_short hi3 (by omega) (by omega)] at c3
    subst c3
    exact PX_ret1 rfl (fun x w5 e5 hx => by obtain rfl : x = _ := hx; exact ⟨rfl, Ext.trans (by assumption) e5, OwnI.ext (by assumption) e5⟩)
  · skip
    refine MX_setI (j := i3) rfl he1 ho1 rfl rfl (by omega) (fun _ => rfl) (fun wS1 heS1 hoS1 => ?_)
    refine Phase_cons ?_
    repeat' (first|(refine oLA ?_;first|refine wBk ?_|(refine oD 57 ?_; refine LA_ixD rfl rfl (fun _ => rfl) rfl rfl ((i3 - 1)) (by omega) (by omega) ?_)|(refine oD 46 ?_; refine LA_subF rfl rfl rfl (by dsimp only [fits]; omega) ?_; rw [show ((i3 : Int) - 1) = ((i3 - 1 : Nat) : Int) by omega])|refine wOp ?_|(refine wCm ?_ ?_<;>intro hc)|(refine wNl hK ?_;clear hK K))|refine wG ?_|(refine wCR ?_;intro K hK)|refine wPh ?_|fail)
    refine MX_setI (j := (i3 - 1)) rfl heS1 hoS1 rfl rfl (by rw [List.length_set]; omega) (fun _ => rfl) (fun wS heS hoS => ?_)
    rw [swp_list] at hoS
    obtain ⟨D2, e2⟩ : ∃ D2, D2 = Go.Sort.swp D i3 (i3 - 1) := ⟨_, rfl⟩
    obtain ⟨D3, e3⟩ : ∃ D3, D3 = if i3 - lo ≥ 2 then Go.Sort.shiftDown Go.Sort.ltInt (i3 - 1) D2 else D2 := ⟨_, rfl⟩
    obtain ⟨D4, e4⟩ : ∃ D4, D4 = if hi - i3 ≥ 2 then Go.Sort.shiftUp Go.Sort.ltInt hi (i3 + 1) D3 else D3 := ⟨_, rfl⟩
    rw [Go.Sort.pI_go hi3 (by omega) (by omega) e2 e3 e4] at c3
    rw [← e2] at hoS
    have hs2 : D2.size = D0.size := by rw [e2, swp_size]; exact hs1
    have hs3 : D3.size = D0.size := by rw [e3]; split; exact (Go.Sort.shiftDown_size _ _).trans hs2; exact hs2
    have hs4 : D4.size = D0.size := by rw [e4]; split; exact (Go.Sort.shiftUp_size _ _ _ (Nat.le_refl _)).trans hs3; exact hs3
    refine Phase_nil ?_
    repeat' (first|(refine oLA ?_;first|refine wBk ?_|(refine oD 63 ?_; refine LA_subF rfl rfl rfl (by dsimp only [fits]; omega) ?_; rw [show ((i3 : Int) - 1) = ((i3 - 1 : Nat) : Int) by omega])|refine wOp ?_|(refine wCm ?_ ?_<;>intro hc)|(refine wNl hK ?_;clear hK K))|(refine oCX ?_;first|refine CX_seqW (id := 12) (ι := Unit) (fun _ => [(0, .val (.slice (some ⟨b, 0, none⟩) n cap)), (1, .val (.int .i64 lo)), (2, .val (.int .i64 hi)), (6, .val (.bool false)), (7, .val (.int .i64 (i3 : Nat))), (8, .val (.int .i64 (5 - ((s + 1 : Nat) : Int))))]) (fun _ w' => Ext w0 w' ∧ Rw16 w0 w' b cap n D3) ?_ ?_)|refine wG ?_|(refine wCR ?_;intro K hK)|refine wPh ?_|fail)
    · skip
      rw [if_pos (by omega)] at e3
      refine CX_loopV (ι := Nat × Array Int) (fun i => [(0, .val (.slice (some ⟨b, 0, none⟩) n cap)), (1, .val (.int .i64 lo)), (2, .val (.int .i64 hi)), (6, .val (.bool false)), (7, .val (.int .i64 (i3 : Nat))), (8, .val (.int .i64 (5 - ((s + 1 : Nat) : Int)))), (9, .val (.int .i64 (i.1 : Int)))])
        (fun i w' => Ext w0 w' ∧ i.1 ≤ i3 - 1 ∧ i.2.size = D0.size ∧ Rw16 w0 w' b cap n i.2 ∧ Go.Sort.shiftDown Go.Sort.ltInt i.1 i.2 = D3) (fun i => i.1)
        (fun w2 e2 => ⟨(i3 - 1, D2), ⟨heS.trans e2, Nat.le_refl _, hs2, hoS.ext e2, e3.symm⟩, by dsimp only; exact (by repeat' (first | exact Sub.nil | refine Sub.val rfl (by first | with_reducible rfl | (congr 1; omega)) ?_ | refine Sub.same rfl ?_))⟩) ?_
      rintro ⟨j, D5⟩ w5 ⟨he5, hj5, hs5', ho5, hr5⟩
      dsimp only at hj5 hs5' ho5 hr5 ⊢
      have hl5 := len_toL D5
      clear heS hoS heS1 hoS1
      cases j with
      | zero =>
        rw [Go.Sort.shiftDown] at hr5
        subst hr5
        repeat' (first|(refine oLA ?_;first|refine LA_pass rfl ?_|refine wOp ?_|(refine wCm ?_ ?_<;>intro hc)|(refine wNl hK ?_;clear hK K))|refine wG ?_|(refine wCR ?_;intro K hK)|fail)
        exact PX_rndV () (fun w6 e6 => ⟨he5.trans e6, ho5.ext e6⟩) (by omega) (by repeat' (first | exact Sub.nil | refine Sub.val rfl (by first | with_reducible rfl | (congr 1; omega)) ?_ | refine Sub.same rfl ?_))
      | succ j =>
        rw [Go.Sort.shiftDown] at hr5
        cases hp : Go.Sort.ltInt D5[j + 1]! D5[j]!
        · rw [hp, if_pos (by rfl)] at hr5
          subst hr5
          repeat' (first|(refine oLA ?_;first|refine LA_pass rfl ?_|(refine oD 74 ?_; refine LA_subF rfl rfl rfl (by dsimp only [fits]; omega) ?_; rw [show (((j + 1 : Nat) : Int) - 1) = (j : Int) by omega])|(refine oI ?_; refine LA_ixD rfl rfl (fun _ => rfl) rfl rfl _ rfl (by omega) ?_)|(refine oL ?_; refine LA_ldD ho5 rfl (fun _ => rfl) rfl (by omega) ?_; rw [getA])|refine wOp ?_|(refine wCm ?_ ?_<;>intro hc)|(refine oCv ?_;first|(refine oC 177 ?_; refine LA_call2 (f := 177) rfl rfl rfl rfl  (.val (.bool false)) (by intro u1 u2 w e hu1 hu2; (try obtain rfl : u1 = _ := hu1); (try obtain rfl : u2 = _ := hu2); exact ret_eq (by rw [hp]) (less16_c _ _ _)) ?_))|(refine wNl hK ?_;clear hK K))|refine wG ?_|(refine wCR ?_;intro K hK)|fail)
          exact PX_rndV () (fun w6 e6 => ⟨he5.trans e6, ho5.ext e6⟩) (by omega) (by repeat' (first | exact Sub.nil | refine Sub.val rfl (by first | with_reducible rfl | (congr 1; omega)) ?_ | refine Sub.same rfl ?_))
        · rw [hp, if_neg (by simp)] at hr5
          repeat' (first|(refine oLA ?_;first|refine wBk ?_|(refine oD 74 ?_; refine LA_subF rfl rfl rfl (by dsimp only [fits]; omega) ?_; rw [show (((j + 1 : Nat) : Int) - 1) = (j : Int) by omega])|(refine oD 83 ?_; refine LA_subF rfl rfl rfl (by dsimp only [fits]; omega) ?_; rw [show (((j + 1 : Nat) : Int) - 1) = (j : Int) by omega])|(refine oD 86 ?_; refine LA_subF rfl rfl rfl (by dsimp only [fits]; omega) ?_; rw [show (((j + 1 : Nat) : Int) - 1) = (j : Int) by omega])|(refine oI ?_; refine LA_ixD rfl rfl (fun _ => rfl) rfl rfl _ rfl (by omega) ?_)|(refine oL ?_; refine LA_ldD ho5 rfl (fun _ => rfl) rfl (by omega) ?_; rw [getA])|refine wOp ?_|(refine wCm ?_ ?_<;>intro hc)|(refine oCv ?_;first|(refine oC 177 ?_; refine LA_call2 (f := 177) rfl rfl rfl rfl  (.val (.bool true)) (by intro u1 u2 w e hu1 hu2; (try obtain rfl : u1 = _ := hu1); (try obtain rfl : u2 = _ := hu2); exact ret_eq (by rw [hp]) (less16_c _ _ _)) ?_))|(refine wNl hK ?_;clear hK K))|(refine oCX ?_;first|refine CX_phases (id := 17) [15, 17] (by kernel_rfl) (by kernel_rfl) (by kernel_rfl) (Phase_cons ?_))|refine wG ?_|(refine wCR ?_;intro K hK)|refine wPh ?_|fail)
          refine MX_setI (j := (j + 1)) rfl he5 ho5 rfl rfl (by omega) (fun _ => rfl) (fun wS1 heS1 hoS1 => ?_)
          refine Phase_cons ?_
          repeat' (first|(refine oLA ?_;first|refine wBk ?_|(refine oD 94 ?_; refine LA_ixD rfl rfl (fun _ => rfl) rfl rfl (j) (by omega) (by omega) ?_)|(refine oD 83 ?_; refine LA_subF rfl rfl rfl (by dsimp only [fits]; omega) ?_; rw [show (((j + 1 : Nat) : Int) - 1) = (j : Int) by omega])|refine wOp ?_|(refine wCm ?_ ?_<;>intro hc)|(refine wNl hK ?_;clear hK K))|refine wG ?_|(refine wCR ?_;intro K hK)|refine wPh ?_|fail)
          refine MX_setI (j := j) rfl heS1 hoS1 rfl rfl (by rw [List.length_set]; omega) (fun _ => rfl) (fun wS heS hoS => ?_)
          rw [swp_list] at hoS
          refine Phase_nil ?_
          repeat' (first|(refine oLA ?_;first|refine wBk ?_|(refine oD 67 ?_; refine LA_subF rfl rfl rfl (by dsimp only [fits]; omega) ?_; rw [show (((j + 1 : Nat) : Int) - 1) = (j : Int) by omega])|refine wOp ?_|(refine wCm ?_ ?_<;>intro hc)|(refine wNl hK ?_;clear hK K))|refine wG ?_|(refine wCR ?_;intro K hK)|refine wPh ?_|fail)
          exact PX_rndV (j, Go.Sort.swp D5 (j + 1) j) (fun w6 e6 => ⟨heS.trans e6, by dsimp only; omega, by dsimp only; rw [swp_size]; exact hs5', hoS.ext e6, hr5⟩) (by dsimp only; omega) (by dsimp only; exact (by repeat' (first | exact Sub.nil | refine Sub.val rfl (by first | with_reducible rfl | (congr 1; omega)) ?_ | refine Sub.same rfl ?_)))
    · skip
      rw [if_neg (by omega)] at e3
      exact PX_rndV () (fun w6 e6 => ⟨heS.trans e6, by rw [e3]; exact hoS.ext e6⟩) (by omega) (by repeat' (first | exact Sub.nil | refine Sub.val rfl (by first | with_reducible rfl | (congr 1; omega)) ?_ | refine Sub.same rfl ?_))
    · rintro - wX ⟨heX, hoX⟩
      have hl3 := len_toL D3
      repeat' (first|(refine oLA ?_;first|refine LA_pass rfl ?_|(refine oD 100 ?_; refine LA_addF rfl rfl rfl (by dsimp only [fits]; omega) ?_; rw [show ((i3 : Int) + 1) = ((i3 + 1 : Nat) : Int) by omega])|refine wOp ?_|(refine wCm ?_ ?_<;>intro hc)|(refine wNl hK ?_;clear hK K))|refine wG ?_|(refine wCR ?_;intro K hK)|fail)
      · skip
        rw [if_pos (by omega)] at e4
        refine CX_loopV (ι := Nat × Array Int) (fun i => [(0, .val (.slice (some ⟨b, 0, none⟩) n cap)), (1, .val (.int .i64 lo)), (2, .val (.int .i64 hi)), (6, .val (.bool false)), (7, .val (.int .i64 (i3 : Nat))), (8, .val (.int .i64 (5 - ((s + 1 : Nat) : Int)))), (10, .val (.int .i64 (i.1 : Int)))])
          (fun i w' => Ext w0 w' ∧ i3 + 1 ≤ i.1 ∧ i.2.size = D0.size ∧ Rw16 w0 w' b cap n i.2 ∧ Go.Sort.shiftUp Go.Sort.ltInt hi i.1 i.2 = D4) (fun i => hi - i.1)
          (fun w2 e2 => ⟨(i3 + 1, D3), ⟨heX.trans e2, Nat.le_refl _, hs3, hoX.ext e2, e4.symm⟩, by dsimp only; exact (by repeat' (first | exact Sub.nil | refine Sub.val rfl (by first | with_reducible rfl | (congr 1; omega)) ?_ | refine Sub.same rfl ?_))⟩) ?_
        rintro ⟨j, D5⟩ w5 ⟨he5, hj5, hs5', ho5, hr5⟩
        dsimp only at hj5 hs5' ho5 hr5 ⊢
        have hl5 := len_toL D5
        clear heS hoS heS1 hoS1
        by_cases hjb : j < hi
        · cases hp : Go.Sort.ltInt D5[j]! D5[j - 1]!
          · rw [Go.Sort.shiftUp_stop (.inr hp)] at hr5
            subst hr5
            repeat' (first|(refine oLA ?_;first|refine LA_pass rfl ?_|(refine oD 112 ?_; refine LA_subF rfl rfl rfl (by dsimp only [fits]; omega) ?_; rw [show ((j : Int) - 1) = ((j - 1 : Nat) : Int) by omega])|(refine oI ?_; refine LA_ixD rfl rfl (fun _ => rfl) rfl rfl _ rfl (by omega) ?_)|(refine oL ?_; refine LA_ldD ho5 rfl (fun _ => rfl) rfl (by omega) ?_; rw [getA])|refine wOp ?_|(refine wCm ?_ ?_<;>intro hc)|(refine oCv ?_;first|(refine oC 177 ?_; refine LA_call2 (f := 177) rfl rfl rfl rfl  (.val (.bool false)) (by intro u1 u2 w e hu1 hu2; (try obtain rfl : u1 = _ := hu1); (try obtain rfl : u2 = _ := hu2); exact ret_eq (by rw [hp]) (less16_c _ _ _)) ?_))|(refine wNl hK ?_;clear hK K))|refine wG ?_|(refine wCR ?_;intro K hK)|fail)
            exact PX_rndV (s, i3, D5) (fun w6 e6 => ⟨he5.trans e6, by dsimp only; omega, hs4, ho5.ext e6, by dsimp only; omega, by dsimp only; omega, c3⟩) (by dsimp only; omega) (by dsimp only; exact (by repeat' (first | exact Sub.nil | refine Sub.val rfl (by first | with_reducible rfl | (congr 1; omega)) ?_ | refine Sub.same rfl ?_)))
          · rw [Go.Sort.shiftUp_go hjb hp] at hr5
            repeat' (first|(refine oLA ?_;first|refine wBk ?_|(refine oD 112 ?_; refine LA_subF rfl rfl rfl (by dsimp only [fits]; omega) ?_; rw [show ((j : Int) - 1) = ((j - 1 : Nat) : Int) by omega])|(refine oD 121 ?_; refine LA_subF rfl rfl rfl (by dsimp only [fits]; omega) ?_; rw [show ((j : Int) - 1) = ((j - 1 : Nat) : Int) by omega])|(refine oD 124 ?_; refine LA_subF rfl rfl rfl (by dsimp only [fits]; omega) ?_; rw [show ((j : Int) - 1) = ((j - 1 : Nat) : Int) by omega])|(refine oI ?_; refine LA_ixD rfl rfl (fun _ => rfl) rfl rfl _ rfl (by omega) ?_)|(refine oL ?_; refine LA_ldD ho5 rfl (fun _ => rfl) rfl (by omega) ?_; rw [getA])|refine wOp ?_|(refine wCm ?_ ?_<;>intro hc)|(refine oCv ?_;first|(refine oC 177 ?_; refine LA_call2 (f := 177) rfl rfl rfl rfl  (.val (.bool true)) (by intro u1 u2 w e hu1 hu2; (try obtain rfl : u1 = _ := hu1); (try obtain rfl : u2 = _ := hu2); exact ret_eq (by rw [hp]) (less16_c _ _ _)) ?_))|(refine wNl hK ?_;clear hK K))|(refine oCX ?_;first|refine CX_phases (id := 23) [15, 17] (by kernel_rfl) (by kernel_rfl) (by kernel_rfl) (Phase_cons ?_))|refine wG ?_|(refine wCR ?_;intro K hK)|refine wPh ?_|fail)
            refine MX_setI (j := j) rfl he5 ho5 rfl rfl (by omega) (fun _ => rfl) (fun wS1 heS1 hoS1 => ?_)
            refine Phase_cons ?_
            repeat' (first|(refine oLA ?_;first|refine wBk ?_|(refine oD 132 ?_; refine LA_ixD rfl rfl (fun _ => rfl) rfl rfl ((j - 1)) (by omega) (by omega) ?_)|(refine oD 121 ?_; refine LA_subF rfl rfl rfl (by dsimp only [fits]; omega) ?_; rw [show ((j : Int) - 1) = ((j - 1 : Nat) : Int) by omega])|refine wOp ?_|(refine wCm ?_ ?_<;>intro hc)|(refine wNl hK ?_;clear hK K))|refine wG ?_|(refine wCR ?_;intro K hK)|refine wPh ?_|fail)
            refine MX_setI (j := (j - 1)) rfl heS1 hoS1 rfl rfl (by rw [List.length_set]; omega) (fun _ => rfl) (fun wS heS hoS => ?_)
            rw [swp_list] at hoS
            refine Phase_nil ?_
            repeat' (first|(refine oLA ?_;first|refine wBk ?_|refine wOp ?_|(refine wCm ?_ ?_<;>intro hc)|(refine wNl hK ?_;clear hK K))|refine wG ?_|(refine wCR ?_;intro K hK)|refine wPh ?_|fail)
            exact PX_rndV (j + 1, Go.Sort.swp D5 j (j - 1)) (fun w6 e6 => ⟨heS.trans e6, by dsimp only; omega, by dsimp only; rw [swp_size]; exact hs5', hoS.ext e6, hr5⟩) (by dsimp only; omega) (by dsimp only; exact (by repeat' (first | exact Sub.nil | refine Sub.val rfl (by first | with_reducible rfl | (congr 1; omega)) ?_ | refine Sub.same rfl ?_)))
        · rw [Go.Sort.shiftUp_stop (.inl hjb)] at hr5
          subst hr5
          repeat' (first|(refine oLA ?_;first|refine LA_pass rfl ?_|refine wOp ?_|(refine wCm ?_ ?_<;>intro hc)|(refine wNl hK ?_;clear hK K))|refine wG ?_|(refine wCR ?_;intro K hK)|fail)
          exact PX_rndV (s, i3, D5) (fun w6 e6 => ⟨he5.trans e6, by dsimp only; omega, hs4, ho5.ext e6, by dsimp only; omega, by dsimp only; omega, c3⟩) (by dsimp only; omega) (by dsimp only; exact (by repeat' (first | exact Sub.nil | refine Sub.val rfl (by first | with_reducible rfl | (congr 1; omega)) ?_ | refine Sub.same rfl ?_)))
      · skip
        rw [if_neg (by omega)] at e4
        rw [e4] at c3
        exact PX_rndV (s, i3, D3) (fun w6 e6 => ⟨heX.trans e6, by dsimp only; omega, hs3, hoX.ext e6, by dsimp only; omega, by dsimp only; omega, c3⟩) (by dsimp only; omega) (by dsimp only; exact (by repeat' (first | exact Sub.nil | refine Sub.val rfl (by first | with_reducible rfl | (congr 1; omega)) ?_ | refine Sub.same rfl ?_)))
end Srt
end Go.Proofs.YtfcioiobhpcngaaGreatDoor
end
section
set_option linter.unusedSimpArgs false
set_option linter.unusedVariables false
set_option maxRecDepth 3000
namespace Go.Proofs.YtfcioiobhpcngaaGreatDoor
namespace Srt
open Go.LA Go.ArrP Go.RowKit
set_option maxHeartbeats 4000000 in
theorem len64_c {w : World} (n : Nat) (hn : n < 18446744073709551616) : Fc Tryz.prog 165 #[.int .u64 n] w (Ret w (.val (.int .i64 (Go.Sort.bitsLen n : Nat)))) := by
  have D32 : ∀ m : Nat, 4294967296 ≤ m → Go.Sort.bitsLen m = 32 + Go.Sort.bitsLen (m / 4294967296) := fun m h => Go.Sort.bitsLen_div (k := 32) h
  have D16 : ∀ m : Nat, 65536 ≤ m → Go.Sort.bitsLen m = 16 + Go.Sort.bitsLen (m / 65536) := fun m h => Go.Sort.bitsLen_div (k := 16) h
  have D8 : ∀ m : Nat, 256 ≤ m → Go.Sort.bitsLen m = 8 + Go.Sort.bitsLen (m / 256) := fun m h => Go.Sort.bitsLen_div (k := 8) h
  refine Fc.of (args := [_]) Tryz.func165 rfl rfl Tryz.ntmps165 (Nat.le_of_ble_eq_true rfl) ?_
  repeat' (first|(refine oLA ?_;first|refine LA_pass rfl ?_|(refine oD 22 ?_; refine LA_tab rfl rfl rfl rfl (by omega) (by omega) (by decide +kernel) (fun vT hT hT8 => ?_))|refine wOp ?_|(refine wCm ?_ ?_<;>intro hc)|(refine wNl hK ?_;clear hK K))|refine wG ?_|(refine wCR ?_;intro K hK)|fail)
  all_goals (refine PX_retE rfl rfl (Ext.refl _) ?_; congr 1)
  · have z : ((n : Int) / 4294967296 / 65536 / 256).toNat = n / 4294967296 / 65536 / 256 := by omega
    rw [z] at hT
    have z2 : Go.Sort.bitsLen n = 56 + Go.Sort.bitsLen (n / 4294967296 / 65536 / 256) := by (rw [D32 _ (by omega), D16 _ (by omega), D8 _ (by omega)]) <;> omega
    omega
  · have z : ((n : Int) / 4294967296 / 65536).toNat = n / 4294967296 / 65536 := by omega
    rw [z] at hT
    have z2 : Go.Sort.bitsLen n = 48 + Go.Sort.bitsLen (n / 4294967296 / 65536) := by (rw [D32 _ (by omega), D16 _ (by omega)]) <;> omega
    omega
  · have z : ((n : Int) / 4294967296 / 256).toNat = n / 4294967296 / 256 := by omega
    rw [z] at hT
    have z2 : Go.Sort.bitsLen n = 40 + Go.Sort.bitsLen (n / 4294967296 / 256) := by (rw [D32 _ (by omega), D8 _ (by omega)]) <;> omega
    omega
  · have z : ((n : Int) / 4294967296).toNat = n / 4294967296 := by omega
    rw [z] at hT
    have z2 : Go.Sort.bitsLen n = 32 + Go.Sort.bitsLen (n / 4294967296) := by (rw [D32 _ (by omega)]) <;> omega
    omega
  · have z : ((n : Int) / 65536 / 256).toNat = n / 65536 / 256 := by omega
    rw [z] at hT
    have z2 : Go.Sort.bitsLen n = 24 + Go.Sort.bitsLen (n / 65536 / 256) := by (rw [D16 _ (by omega), D8 _ (by omega)]) <;> omega
    omega
  · have z : ((n : Int) / 65536).toNat = n / 65536 := by omega
    rw [z] at hT
    have z2 : Go.Sort.bitsLen n = 16 + Go.Sort.bitsLen (n / 65536) := by (rw [D16 _ (by omega)]) <;> omega
    omega
  · have z : ((n : Int) / 256).toNat = n / 256 := by omega
    rw [z] at hT
    have z2 : Go.Sort.bitsLen n = 8 + Go.Sort.bitsLen (n / 256) := by (rw [D8 _ (by omega)]) <;> omega
    omega
  · have z : ((n : Int)).toNat = n := by omega
    rw [z] at hT
    have z2 : Go.Sort.bitsLen n = 0 + Go.Sort.bitsLen (n) := by omega
    omega
theorem len_c {w : World} (n : Nat) (hn : n < 18446744073709551616) : Fc Tryz.prog 113 #[.int .u64 n] w (Ret w (.val (.int .i64 (Go.Sort.bitsLen n : Nat)))) := by
  refine Fc.of (args := [_]) Tryz.func113 rfl rfl Tryz.ntmps113 (Nat.le_of_ble_eq_true rfl) ?_
  repeat' (first|(refine oLA ?_;first|refine LA_pass rfl ?_|refine wOp ?_|(refine wCm ?_ ?_<;>intro hc)|(refine oCv ?_;first|(refine oC 165 ?_; refine LA_call1 (f := 165) rfl rfl rfl  (.val (.int .i64 (Go.Sort.bitsLen n : Nat))) (by intro u1 w e hu1; (try obtain rfl : u1 = _ := hu1); exact len64_c n hn) ?_))|(refine wNl hK ?_;clear hK K))|refine wG ?_|(refine wCR ?_;intro K hK)|fail)
  exact PX_retE rfl rfl (Ext.refl _) rfl
theorem npow_c {w : World} (n : Nat) (hn : n < 4611686018427387904) : Fc Tryz.prog 194 #[.int .i64 n] w (Ret w (.val (.int .u64 ((2 ^ Go.Sort.bitsLen n : Nat) : Int)))) := by
  have hb := (Go.Sort.bitsLen_le_iff n 62).2 (by omega)
  refine Fc.of (args := [_]) Tryz.func194 rfl rfl Tryz.ntmps194 (Nat.le_of_ble_eq_true rfl) ?_
  repeat' (first|(refine oLA ?_;first|refine LA_pass rfl ?_|refine wOp ?_|(refine wCm ?_ ?_<;>intro hc)|(refine oCv ?_;first|(refine oC 113 ?_; refine LA_call1 (f := 113) rfl rfl rfl  (.val (.int .i64 (Go.Sort.bitsLen n : Nat))) (by intro u1 w e hu1; (try obtain rfl : u1 = _ := hu1); exact len_c n (by omega)) ?_))|(refine wNl hK ?_;clear hK K))|refine wG ?_|(refine wCR ?_;intro K hK)|fail)
  refine PX_retE rfl rfl (Ext.refl _) ?_
  congr 1
  rw [IntKind.wrap_u64, Int.toNat_natCast, Int.one_mul]
  have := Nat.pow_le_pow_right (n := 2) (by omega) hb
  rw [show ((2 : Int) ^ Go.Sort.bitsLen n) = ((2 ^ Go.Sort.bitsLen n : Nat) : Int) by push_cast; rfl]
  generalize 2 ^ Go.Sort.bitsLen n = p at *
  omega
end Srt
end Go.Proofs.YtfcioiobhpcngaaGreatDoor
end
section
set_option linter.unusedSimpArgs false
set_option linter.unusedVariables false
set_option maxRecDepth 3000
namespace Go.Proofs.YtfcioiobhpcngaaGreatDoor
namespace Srt
open Go.LA Go.ArrP Go.RowKit
set_option maxHeartbeats 4000000 in
theorem xnext_c {w0 w : World} {rb e2 : Nat} {kd2 : IntKind} {v2 : Value} {ys : List Int} {r : Int} (he : Ext w0 w) (hr : OwnI w0.heap.size 191 .u64 w (.slice (some ⟨rb, 0, none⟩) 1 1) [r]) (h0 : 0 ≤ r ∧ r < 18446744073709551616) (ho : OwnI w0.heap.size e2 kd2 w v2 ys) (hne : e2 ≠ 191) :
    Fc Tryz.prog 195 #[.pointer (some ⟨rb, 0, none⟩)] w (fun e w' => ∃ c : Nat, e = .returned (.int .u64 c) ∧ c < 18446744073709551616 ∧ Ext w0 w' ∧ OwnI w0.heap.size 191 .u64 w' (.slice (some ⟨rb, 0, none⟩) 1 1) [(c : Int)] ∧ OwnI w0.heap.size e2 kd2 w' v2 ys) := by
  refine Fc.of (args := [_]) Tryz.func195 rfl rfl Tryz.ntmps195 (Nat.le_of_ble_eq_true rfl) ?_
  repeat' (first|(refine oLA ?_;first|refine wBk ?_|(refine LA_nilCheck rfl rfl ?_)|(refine oL ?_; refine LA_ldD hr rfl (fun _ => rfl) rfl (by exact Nat.zero_lt_one) ?_; rw [show [r].getD 0 0 = r from rfl])|(refine oD 10 ?_; refine LA_xorN rfl rfl rfl (fun c1 hc1 => ?_) (by omega) (by rw [IntKind.wrap_u64]; omega))|refine wOp ?_|(refine wCm ?_ ?_<;>intro hc)|(refine wNl hK ?_;clear hK K))|(refine oCX ?_;first|refine CX_phases (id := 1) [9] (by kernel_rfl) (by kernel_rfl) (by kernel_rfl) (Phase_cons ?_))|refine wG ?_|(refine wCR ?_;intro K hK)|refine wPh ?_|fail)
  refine MX_setJ (j := 0) rfl he hr ho hne rfl rfl (by exact Nat.zero_lt_one) (fun _ => rfl) (fun w1 he1 hr1 ho1 => ?_)
  replace hr1 : OwnI w0.heap.size 191 .u64 w1 (.slice (some ⟨rb, 0, none⟩) 1 1) [(c1 : Int)] := hr1
  refine Phase_nil ?_
  repeat' (first|(refine oLA ?_;first|refine wBk ?_|(refine LA_nilCheck rfl rfl ?_)|(refine oL ?_; refine LA_ldD hr1 rfl (fun _ => rfl) rfl (by exact Nat.zero_lt_one) ?_; rw [show [(c1 : Int)].getD 0 0 = (c1 : Int) from rfl])|(refine oD 19 ?_; refine LA_xorN rfl rfl rfl (fun c2 hc2 => ?_) (by omega) (by omega))|refine wOp ?_|(refine wCm ?_ ?_<;>intro hc)|(refine wNl hK ?_;clear hK K))|(refine oCX ?_;first|refine CX_phases (id := 2) [9] (by kernel_rfl) (by kernel_rfl) (by kernel_rfl) (Phase_cons ?_))|refine wG ?_|(refine wCR ?_;intro K hK)|refine wPh ?_|fail)
  refine MX_setJ (j := 0) rfl he1 hr1 ho1 hne rfl rfl (by exact Nat.zero_lt_one) (fun _ => rfl) (fun w2 he2 hr2 ho2 => ?_)
  replace hr2 : OwnI w0.heap.size 191 .u64 w2 (.slice (some ⟨rb, 0, none⟩) 1 1) [(c2 : Int)] := hr2
  refine Phase_nil ?_
  repeat' (first|(refine oLA ?_;first|refine wBk ?_|(refine LA_nilCheck rfl rfl ?_)|(refine oL ?_; refine LA_ldD hr2 rfl (fun _ => rfl) rfl (by exact Nat.zero_lt_one) ?_; rw [show [(c2 : Int)].getD 0 0 = (c2 : Int) from rfl])|(refine oD 28 ?_; refine LA_xorN rfl rfl rfl (fun c3 hc3 => ?_) (by omega) (by rw [IntKind.wrap_u64]; omega))|refine wOp ?_|(refine wCm ?_ ?_<;>intro hc)|(refine wNl hK ?_;clear hK K))|(refine oCX ?_;first|refine CX_phases (id := 3) [9] (by kernel_rfl) (by kernel_rfl) (by kernel_rfl) (Phase_cons ?_))|refine wG ?_|(refine wCR ?_;intro K hK)|refine wPh ?_|fail)
  refine MX_setJ (j := 0) rfl he2 hr2 ho2 hne rfl rfl (by exact Nat.zero_lt_one) (fun _ => rfl) (fun w3 he3 hr3 ho3 => ?_)
  replace hr3 : OwnI w0.heap.size 191 .u64 w3 (.slice (some ⟨rb, 0, none⟩) 1 1) [(c3 : Int)] := hr3
  refine Phase_nil ?_
  repeat' (first|(refine oLA ?_;first|refine wBk ?_|(refine LA_nilCheck rfl rfl ?_)|(refine oL ?_; refine LA_ldD hr3 rfl (fun _ => rfl) rfl (by exact Nat.zero_lt_one) ?_; rw [show [(c3 : Int)].getD 0 0 = (c3 : Int) from rfl])|refine wOp ?_|(refine wCm ?_ ?_<;>intro hc)|(refine wNl hK ?_;clear hK K))|refine wG ?_|(refine wCR ?_;intro K hK)|refine wPh ?_|fail)
  exact PX_ret1 rfl (fun x w5 e5 hx => by obtain rfl : x = _ := hx; exact ⟨c3, rfl, hc3, he3.trans e5, hr3.ext e5, ho3.ext e5⟩)
end Srt
end Go.Proofs.YtfcioiobhpcngaaGreatDoor
end
section
set_option linter.unusedSimpArgs false
set_option linter.unusedVariables false
set_option maxRecDepth 3000
namespace Go.Proofs.YtfcioiobhpcngaaGreatDoor
namespace Srt
open Go.LA Go.ArrP Go.RowKit
set_option maxHeartbeats 16000000 in
theorem brk16_c {w0 w : World} {b cap n : Nat} {D0 : Array Int} (he0 : Ext w0 w) (ho0 : Rw16 w0 w b cap n D0) (hn : n = D0.size) (lo hi : Nat) (h1 : lo ≤ hi) (h2 : hi ≤ D0.size) (hb : D0.size < 4611686018427387904) :
    Fc Tryz.prog 186 #[.slice (some ⟨b, 0, none⟩) n cap, .int .i64 lo, .int .i64 hi] w (fun e w' => e = .returned (.tuple #[]) ∧ Ext w0 w' ∧ ∃ D', Go.Sort.PermIn lo hi D0 D' ∧ Rw16 w0 w' b cap n D') := by
  obtain ⟨L, hL⟩ : ∃ L, L = hi - lo := ⟨_, rfl⟩
  have hl0 := len_toL D0
  by_cases h8 : 8 ≤ L
  · obtain ⟨M, hM⟩ : ∃ M, M = 2 ^ Go.Sort.bitsLen L := ⟨_, rfl⟩
    have hM1 : 0 < M := by rw [hM]; exact Nat.two_pow_pos _
    have hM2 : M ≤ 2 * L := by rw [hM]; exact Go.Sort.two_pow_bitsLen_le (by omega)
    have hnp := fun w => npow_c (w := w) L (by omega)
    rw [← hM] at hnp
    refine Fc.of (args := [_, _, _]) Tryz.func186 rfl rfl Tryz.ntmps186 (Nat.le_of_ble_eq_true rfl) ?_
    repeat' (first|(refine oLA ?_;first|refine LA_pass rfl ?_|(refine oD 13 ?_; refine LA_subF rfl rfl rfl (by dsimp only [fits]; omega) ?_; rw [show ((hi : Int) - lo) = (L : Int) by omega])|(refine oD 7 ?_; refine LA_stop (hK _ _ (LX_var rfl rfl (by decide) (fun _ => rfl) (fun _ => rfl) (fun _ => rfl) rfl (by intro u hu; simp [Value.cells] at hu; subst hu; rfl) (fun rb wx ex hbx hbc => ?_))); clear hK K)|refine wOp ?_|(refine wCm ?_ ?_<;>intro hc)|(refine oCv ?_;first|(refine oC 194 ?_; refine LA_call1 (f := 194) rfl rfl rfl  (.val (.int .u64 (M : Int))) (by intro u1 w e hu1; (try obtain rfl : u1 = _ := hu1); exact hnp _) ?_))|(refine wNl hK ?_;clear hK K))|refine wG ?_|(refine wCR ?_;intro K hK)|fail)
    have heX : Ext w0 wx := he0.trans ex
    have hr : OwnI w0.heap.size 191 .u64 wx (.slice (some ⟨rb, 0, none⟩) 1 1) [(L : Int)] := ⟨rfl, .inr ⟨rb, 1, _, rfl, Nat.le_trans he0.size hbx, hbc, Nat.le_refl _, by decide, rfl, rfl⟩⟩
    have hoX : Rw16 w0 wx b cap n D0 := ho0.ext ex
    refine CX_loopV (ι := Nat × Array Int × Nat) (fun i => [(0, .val (.slice (some ⟨b, 0, none⟩) n cap)), (1, .val (.int .i64 lo)), (6, .val (.int .i64 (L : Int))), (7, .val (.pointer (some ⟨rb, 0, none⟩))), (8, .val (.int .u64 (M : Int))), (9, .val (.int .i64 ((lo + L / 4 * 2 - 1 + i.1 : Nat) : Int)))])
      (fun i w' => Ext w0 w' ∧ i.1 ≤ 3 ∧ Go.Sort.PermIn lo hi D0 i.2.1 ∧ Rw16 w0 w' b cap n i.2.1 ∧ i.2.2 < 18446744073709551616 ∧ OwnI w0.heap.size 191 .u64 w' (.slice (some ⟨rb, 0, none⟩) 1 1) [(i.2.2 : Int)]) (fun i => 3 - i.1)
      (fun w2 e2 => ⟨(0, D0, L), ⟨heX.trans e2, Nat.zero_le _, Go.Sort.permIn_refl _ _ _, hoX.ext e2, by dsimp only; omega, hr.ext e2⟩, by dsimp only; exact (by repeat' (first | exact Sub.nil | refine Sub.val rfl (by first | with_reducible rfl | (congr 1; omega)) ?_ | refine Sub.same rfl ?_))⟩) ?_
    rintro ⟨t, D, r⟩ w1 ⟨he1, ht3, hp1, ho1, hr1, hw1⟩
    dsimp only at ht3 hp1 ho1 hr1 hw1 ⊢
    have hs1 : D.size = D0.size := hp1.1
    have hl1 := len_toL D
    clear heX hr hoX
    by_cases ht : t < 3
    · have q0 : True := trivial
      repeat' (first|(refine oLA ?_;first|refine LA_pass rfl ?_|(refine oD 36 ?_; refine LA_stop (hK _ _ (LX_call1 (f := 195) rfl (by decide) rfl rfl (fun v w' => ∃ c : Nat, v = .int .u64 (c : Int) ∧ c < 18446744073709551616 ∧ Ext w0 w' ∧ OwnI w0.heap.size 191 .u64 w' (.slice (some ⟨rb, 0, none⟩) 1 1) [(c : Int)] ∧ Rw16 w0 w' b cap n D) (fun w' e => (xnext_c (he1.trans e) (hw1.ext e) (by omega) (ho1.ext e) (by decide)).mono (by rintro e5 w5 ⟨c, h1, h2⟩; exact ⟨_, h1, c, rfl, h2⟩)) (fun v w2 hv => ?_))); clear hK K; obtain ⟨c, rfl, hcB, he2, hr2, ho2⟩ := hv)|(refine oD 38 ?_; refine LA_subF rfl rfl rfl (by dsimp only [fits]; omega) ?_; rw [show ((M : Int) - 1) = ((M - 1 : Nat) : Int) by omega])|(refine oD 39 ?_; refine LA_andN rfl rfl rfl (fun q hq => ?_) (by omega) (by omega))|(refine oD 46 ?_; refine LA_subF rfl rfl rfl (by dsimp only [fits]; omega) ?_; rw [show ((q : Int) - L) = ((q - L : Nat) : Int) by omega])|refine wOp ?_|(refine wCm ?_ ?_<;>intro hc)|(refine wNl hK ?_;clear hK K))|(refine oCX ?_;first|refine CX_seqW (id := 8) (ι := Nat) (fun o => [(0, .val (.slice (some ⟨b, 0, none⟩) n cap)), (1, .val (.int .i64 lo)), (6, .val (.int .i64 (L : Int))), (7, .val (.pointer (some ⟨rb, 0, none⟩))), (8, .val (.int .u64 (M : Int))), (9, .val (.int .i64 ((lo + L / 4 * 2 - 1 + t : Nat) : Int))), (10, .val (.int .i64 (o : Int)))]) (fun o w' => Ext w0 w' ∧ o < L ∧ (∃ c3 : Nat, c3 < 18446744073709551616 ∧ OwnI w0.heap.size 191 .u64 w' (.slice (some ⟨rb, 0, none⟩) 1 1) [(c3 : Int)]) ∧ Rw16 w0 w' b cap n D) ?_ ?_)|refine wG ?_|(refine wCR ?_;intro K hK)|(refine oLX ?_;first|(refine LX_la rfl ?_; intro K hK))|fail)
      · exact PX_rndV (q - L) (fun w6 e6 => ⟨he2.trans e6, by omega, ⟨c, hcB, hr2.ext e6⟩, ho2.ext e6⟩) (by omega) (by repeat' (first | exact Sub.nil | refine Sub.val rfl (by first | with_reducible rfl | (congr 1; omega)) ?_ | refine Sub.same rfl ?_))
      · exact PX_rndV q (fun w6 e6 => ⟨he2.trans e6, by omega, ⟨c, hcB, hr2.ext e6⟩, ho2.ext e6⟩) (by omega) (by repeat' (first | exact Sub.nil | refine Sub.val rfl (by first | with_reducible rfl | (congr 1; omega)) ?_ | refine Sub.same rfl ?_))
      · rintro o w3 ⟨he3, ho, ⟨c3, hc3, hr3⟩, ho3⟩
        repeat' (first|(refine oLA ?_;first|refine wBk ?_|(refine oI ?_; refine LA_ixD rfl rfl (fun _ => rfl) rfl rfl _ rfl (by omega) ?_)|(refine oL ?_; refine LA_ldD ho3 rfl (fun _ => rfl) rfl (by omega) ?_; rw [getA])|(refine oD 52 ?_; refine LA_addF rfl rfl rfl (by dsimp only [fits]; omega) ?_; rw [show ((lo : Int) + o) = ((lo + o : Nat) : Int) by omega])|(refine oD 56 ?_; refine LA_addF rfl rfl rfl (by dsimp only [fits]; omega) ?_; rw [show ((lo : Int) + o) = ((lo + o : Nat) : Int) by omega])|refine wOp ?_|(refine wCm ?_ ?_<;>intro hc)|(refine wNl hK ?_;clear hK K))|(refine oCX ?_;first|refine CX_phases (id := 10) [17, 19] (by kernel_rfl) (by kernel_rfl) (by kernel_rfl) (Phase_cons ?_))|refine wG ?_|(refine wCR ?_;intro K hK)|refine wPh ?_|fail)
        refine MX_setJ (j := lo + L / 4 * 2 - 1 + t) rfl he3 ho3 hr3 (by decide) rfl rfl (by omega) (fun _ => rfl) (fun wS1 heS1 hoS1 hrS1 => ?_)
        refine Phase_cons ?_
        repeat' (first|(refine oLA ?_;first|refine wBk ?_|(refine oD 64 ?_; refine LA_ixD rfl rfl (fun _ => rfl) rfl rfl (lo + o) (by omega) (by omega) ?_)|(refine oD 52 ?_; refine LA_addF rfl rfl rfl (by dsimp only [fits]; omega) ?_; rw [show ((lo : Int) + o) = ((lo + o : Nat) : Int) by omega])|refine wOp ?_|(refine wCm ?_ ?_<;>intro hc)|(refine wNl hK ?_;clear hK K))|refine wG ?_|(refine wCR ?_;intro K hK)|refine wPh ?_|fail)
        refine MX_setJ (j := lo + o) rfl heS1 hoS1 hrS1 (by decide) rfl rfl (by rw [List.length_set]; omega) (fun _ => rfl) (fun wS heS hoS hrS => ?_)
        rw [swp_list] at hoS
        refine Phase_nil ?_
        repeat' (first|(refine oLA ?_;first|refine wBk ?_|refine wOp ?_|(refine wCm ?_ ?_<;>intro hc)|(refine wNl hK ?_;clear hK K))|refine wG ?_|(refine wCR ?_;intro K hK)|refine wPh ?_|fail)
        exact PX_rndV (t + 1, Go.Sort.swp D (lo + L / 4 * 2 - 1 + t) (lo + o), c3) (fun w6 e6 => ⟨heS.trans e6, by dsimp only; omega, Go.Sort.permIn_trans _ _ _ _ _ hp1 (Go.Sort.swp_permIn _ _ _ _ _ (by omega) (by omega) (by omega) (by omega) (by omega)), hoS.ext e6, hc3, hrS.ext e6⟩) (by dsimp only; omega) (by dsimp only; exact (by repeat' (first | exact Sub.nil | refine Sub.val rfl (by first | with_reducible rfl | (congr 1; omega)) ?_ | refine Sub.same rfl ?_)))
    · have q0 : True := trivial
      repeat' (first|(refine oLA ?_;first|refine LA_pass rfl ?_|refine wOp ?_|(refine wCm ?_ ?_<;>intro hc)|(refine wNl hK ?_;clear hK K))|refine wG ?_|(refine wCR ?_;intro K hK)|fail)
      exact PX_end0 rfl (fun w5 e5 => ⟨rfl, he1.trans e5, D, hp1, ho1.ext e5⟩) (.inl rfl)
  · have q0 : True := trivial
    refine Fc.of (args := [_, _, _]) Tryz.func186 rfl rfl Tryz.ntmps186 (Nat.le_of_ble_eq_true rfl) ?_
    repeat' (first|(refine oLA ?_;first|refine LA_pass rfl ?_|refine wOp ?_|(refine wCm ?_ ?_<;>intro hc)|(refine wNl hK ?_;clear hK K))|refine wG ?_|(refine wCR ?_;intro K hK)|fail)
    exact PX_end0 rfl (fun w5 e5 => ⟨rfl, he0.trans e5, D0, Go.Sort.permIn_refl _ _ _, ho0.ext e5⟩) (.inl rfl)
end Srt
end Go.Proofs.YtfcioiobhpcngaaGreatDoor
end
section
set_option linter.unusedSimpArgs false
set_option linter.unusedVariables false
set_option maxRecDepth 3000
namespace Go.Proofs.YtfcioiobhpcngaaGreatDoor
namespace Srt
open Go.LA Go.ArrP Go.RowKit
def Sw (w0 w : World) (sb : Nat) : Prop := ∃ s, OwnI w0.heap.size 3 .i64 w (.slice (some ⟨sb, 0, none⟩) 1 1) [s]
theorem Sw.ext {w0 w w' : World} {sb : Nat} (h : Sw w0 w sb) (e : Ext w w') : Sw w0 w' sb := by obtain ⟨s, h⟩ := h; exact ⟨s, h.ext e⟩
set_option maxHeartbeats 4000000 in
theorem ord216_c {w0 w : World} {b cap n sb : Nat} {D : Array Int} (he0 : Ext w0 w) (ho0 : Rw16 w0 w b cap n D) (hs0 : Sw w0 w sb) (hn : n = D.size) (hb : D.size < 4611686018427387904) (lo hi : Nat) (h2 : hi ≤ D.size) (x y : Nat) (hx : lo ≤ x ∧ x < hi) (hy : lo ≤ y ∧ y < hi) :
    Fc Tryz.prog 206 #[(.slice (some ⟨b, 0, none⟩) n cap), .int .i64 x, .int .i64 y, (.pointer (some ⟨sb, 0, none⟩))] w (fun e w' => ∃ p q : Nat, e = .returned (.tuple #[.int .i64 p, .int .i64 q]) ∧ (lo ≤ p ∧ p < hi) ∧ (lo ≤ q ∧ q < hi) ∧ Ext w0 w' ∧ Rw16 w0 w' b cap n D ∧ Sw w0 w' sb) := by
  have hl := len_toL D
  obtain ⟨s, hs⟩ := hs0
  cases hp : Go.Sort.ltInt D[y]! D[x]!
  · have q0 : True := trivial
    refine Fc.of (args := [_, _, _, _]) Tryz.func206 rfl rfl Tryz.ntmps206 (Nat.le_of_ble_eq_true rfl) ?_
    repeat' (first|(refine oLA ?_;first|refine LA_pass rfl ?_|(refine oI ?_; refine LA_ixD rfl rfl (fun _ => rfl) rfl rfl _ rfl (by omega) ?_)|(refine oL ?_; refine LA_ldD ho0 rfl (fun _ => rfl) rfl (by omega) ?_; rw [getA])|refine wOp ?_|(refine wCm ?_ ?_<;>intro hc)|(refine oCv ?_;first|(refine oC 177 ?_; refine LA_call2 (f := 177) rfl rfl rfl rfl  (.val (.bool false)) (by intro u1 u2 w e hu1 hu2; (try obtain rfl : u1 = _ := hu1); (try obtain rfl : u2 = _ := hu2); exact ret_eq (by rw [hp]) (less16_c _ _ _)) ?_))|(refine wNl hK ?_;clear hK K))|refine wG ?_|(refine wCR ?_;intro K hK)|fail)
    exact PX_ret2 rfl (fun u v w5 e5 hu hv => by obtain rfl : u = _ := hu; obtain rfl : v = _ := hv; exact ⟨x, y, rfl, hx, hy, he0.trans e5, ho0.ext e5, s, hs.ext e5⟩)
  · have q0 : True := trivial
    refine Fc.of (args := [_, _, _, _]) Tryz.func206 rfl rfl Tryz.ntmps206 (Nat.le_of_ble_eq_true rfl) ?_
    repeat' (first|(refine oLA ?_;first|refine LA_pass rfl ?_|(refine oD 21 ?_; refine LA_ldD hs rfl (fun _ => rfl) rfl (by exact Nat.zero_lt_one) ?_; rw [show [s].getD 0 0 = s from rfl])|(refine oD 22 ?_; refine LA_addW rfl rfl rfl ?_)|(refine LA_nilCheck rfl rfl ?_)|(refine oSt ?_; refine LA_stop (hK _ _ (LX_setJ (j := 0) rfl he0 hs ho0 (by decide) rfl rfl (by exact Nat.zero_lt_one) (fun _ => rfl) (fun w1 he1 hs1 ho1 => ?_))); clear hK K)|(refine oI ?_; refine LA_ixD rfl rfl (fun _ => rfl) rfl rfl _ rfl (by omega) ?_)|(refine oL ?_; refine LA_ldD ho0 rfl (fun _ => rfl) rfl (by omega) ?_; rw [getA])|refine wOp ?_|(refine wCm ?_ ?_<;>intro hc)|(refine oCv ?_;first|(refine oC 177 ?_; refine LA_call2 (f := 177) rfl rfl rfl rfl  (.val (.bool true)) (by intro u1 u2 w e hu1 hu2; (try obtain rfl : u1 = _ := hu1); (try obtain rfl : u2 = _ := hu2); exact ret_eq (by rw [hp]) (less16_c _ _ _)) ?_))|(refine wNl hK ?_;clear hK K))|refine wG ?_|(refine wCR ?_;intro K hK)|fail)
    exact PX_ret2 rfl (fun u v w5 e5 hu hv => by obtain rfl : u = _ := hu; obtain rfl : v = _ := hv; exact ⟨y, x, rfl, hy, hx, he1.trans e5, ho1.ext e5, _, OwnI.ext hs1 e5⟩)
set_option maxHeartbeats 4000000 in
theorem med16_c {w0 w : World} {b cap n sb : Nat} {D : Array Int} (he0 : Ext w0 w) (ho0 : Rw16 w0 w b cap n D) (hs0 : Sw w0 w sb) (hn : n = D.size) (hb : D.size < 4611686018427387904) (lo hi : Nat) (h2 : hi ≤ D.size) (x y z : Nat) (hx : lo ≤ x ∧ x < hi) (hy : lo ≤ y ∧ y < hi) (hz : lo ≤ z ∧ z < hi) :
    Fc Tryz.prog 204 #[(.slice (some ⟨b, 0, none⟩) n cap), .int .i64 x, .int .i64 y, .int .i64 z, (.pointer (some ⟨sb, 0, none⟩))] w (fun e w' => ∃ p : Nat, e = .returned (.int .i64 p) ∧ (lo ≤ p ∧ p < hi) ∧ Ext w0 w' ∧ Rw16 w0 w' b cap n D ∧ Sw w0 w' sb) := by
  refine Fc.of (args := [_, _, _, _, _]) Tryz.func204 rfl rfl Tryz.ntmps204 (Nat.le_of_ble_eq_true rfl) ?_
  repeat' (first|(refine oLA ?_;first|refine LA_pass rfl ?_|(refine oD 16 ?_; refine LA_stop (hK _ _ (LX_call4 (f := 206) rfl (by decide) rfl rfl rfl rfl rfl (fun v w' => ∃ p q : Nat, v = .tuple #[.int .i64 p, .int .i64 q] ∧ (lo ≤ p ∧ p < hi) ∧ (lo ≤ q ∧ q < hi) ∧ Ext w0 w' ∧ Rw16 w0 w' b cap n D ∧ Sw w0 w' sb) (fun w' e => (ord216_c (he0.trans e) (ho0.ext e) (hs0.ext e) hn hb lo hi h2 x y (by omega) (by omega)).mono (by rintro e5 w5 ⟨p, q, h1, h2⟩; exact ⟨_, h1, p, q, rfl, h2⟩)) (fun v w1 hv => ?_))); clear hK K; obtain ⟨p1, q1, rfl, bp1, bq1, he1, ho1, hs1⟩ := hv)|(refine oD 24 ?_; refine LA_stop (hK _ _ (LX_call4 (f := 206) rfl (by decide) rfl rfl rfl rfl rfl (fun v w' => ∃ p q : Nat, v = .tuple #[.int .i64 p, .int .i64 q] ∧ (lo ≤ p ∧ p < hi) ∧ (lo ≤ q ∧ q < hi) ∧ Ext w0 w' ∧ Rw16 w0 w' b cap n D ∧ Sw w0 w' sb) (fun w' e => (ord216_c (he1.trans e) (ho1.ext e) (hs1.ext e) hn hb lo hi h2 q1 z (by omega) (by omega)).mono (by rintro e5 w5 ⟨p, q, h1, h2⟩; exact ⟨_, h1, p, q, rfl, h2⟩)) (fun v w2 hv => ?_))); clear hK K; obtain ⟨p2, q2, rfl, bp2, bq2, he2, ho2, hs2⟩ := hv)|(refine oD 32 ?_; refine LA_stop (hK _ _ (LX_call4 (f := 206) rfl (by decide) rfl rfl rfl rfl rfl (fun v w' => ∃ p q : Nat, v = .tuple #[.int .i64 p, .int .i64 q] ∧ (lo ≤ p ∧ p < hi) ∧ (lo ≤ q ∧ q < hi) ∧ Ext w0 w' ∧ Rw16 w0 w' b cap n D ∧ Sw w0 w' sb) (fun w' e => (ord216_c (he2.trans e) (ho2.ext e) (hs2.ext e) hn hb lo hi h2 p1 p2 (by omega) (by omega)).mono (by rintro e5 w5 ⟨p, q, h1, h2⟩; exact ⟨_, h1, p, q, rfl, h2⟩)) (fun v w3 hv => ?_))); clear hK K; obtain ⟨p3, q3, rfl, bp3, bq3, he3, ho3, hs3⟩ := hv)|(refine LA_extV0 rfl rfl ?_)|(refine LA_extV1 rfl rfl ?_)|refine wOp ?_|(refine wCm ?_ ?_<;>intro hc)|(refine wNl hK ?_;clear hK K))|refine wG ?_|(refine wCR ?_;intro K hK)|(refine oLX ?_;first|(refine LX_la rfl ?_; intro K hK))|fail)
  exact PX_ret1 rfl (fun u w5 e5 hu => by obtain rfl : u = _ := hu; exact ⟨q3, rfl, bq3, he3.trans e5, ho3.ext e5, hs3.ext e5⟩)
theorem meda16_c {w0 w : World} {b cap n sb : Nat} {D : Array Int} (he0 : Ext w0 w) (ho0 : Rw16 w0 w b cap n D) (hs0 : Sw w0 w sb) (hn : n = D.size) (hb : D.size < 4611686018427387904) (lo hi : Nat) (h2 : hi ≤ D.size) (x : Nat) (hx : lo + 1 ≤ x ∧ x + 1 < hi) :
    Fc Tryz.prog 203 #[(.slice (some ⟨b, 0, none⟩) n cap), .int .i64 x, (.pointer (some ⟨sb, 0, none⟩))] w (fun e w' => ∃ p : Nat, e = .returned (.int .i64 p) ∧ (lo ≤ p ∧ p < hi) ∧ Ext w0 w' ∧ Rw16 w0 w' b cap n D ∧ Sw w0 w' sb) := by
  refine Fc.of (args := [_, _, _]) Tryz.func203 rfl rfl Tryz.ntmps203 (Nat.le_of_ble_eq_true rfl) ?_
  repeat' (first|(refine oLA ?_;first|refine LA_pass rfl ?_|(refine oD 9 ?_; refine LA_subF rfl rfl rfl (by dsimp only [fits]; omega) ?_; rw [show ((x : Int) - 1) = ((x - 1 : Nat) : Int) by omega])|(refine oD 12 ?_; refine LA_addF rfl rfl rfl (by dsimp only [fits]; omega) ?_; rw [show ((x : Int) + 1) = ((x + 1 : Nat) : Int) by omega])|(refine oD 14 ?_; refine LA_stop (hK _ _ (LX_call5 (f := 204) rfl (by decide) rfl rfl rfl rfl rfl rfl (fun v w' => ∃ p : Nat, v = .int .i64 p ∧ (lo ≤ p ∧ p < hi) ∧ Ext w0 w' ∧ Rw16 w0 w' b cap n D ∧ Sw w0 w' sb) (fun w' e => (med16_c (he0.trans e) (ho0.ext e) (hs0.ext e) hn hb lo hi h2 (x - 1) x (x + 1) (by omega) (by omega) (by omega)).mono (by rintro e5 w5 ⟨p, h1, h2⟩; exact ⟨_, h1, p, rfl, h2⟩)) (fun v w1 hv => ?_))); clear hK K; obtain ⟨p, rfl, bp, he1, ho1, hs1⟩ := hv)|(refine LA_extV0 rfl rfl ?_)|(refine LA_extV1 rfl rfl ?_)|refine wOp ?_|(refine wCm ?_ ?_<;>intro hc)|(refine wNl hK ?_;clear hK K))|refine wG ?_|(refine wCR ?_;intro K hK)|(refine oLX ?_;first|(refine LX_la rfl ?_; intro K hK))|fail)
  exact PX_ret1 rfl (fun u w5 e5 hu => by obtain rfl : u = _ := hu; exact ⟨p, rfl, bp, he1.trans e5, ho1.ext e5, hs1.ext e5⟩)
end Srt
end Go.Proofs.YtfcioiobhpcngaaGreatDoor
end
section
set_option linter.unusedSimpArgs false
set_option linter.unusedVariables false
set_option maxRecDepth 3000
namespace Go.Proofs.YtfcioiobhpcngaaGreatDoor
namespace Srt
open Go.LA Go.ArrP Go.RowKit
set_option maxHeartbeats 8000000 in
theorem chp16_c {w0 w : World} {b cap n : Nat} {D : Array Int} (he0 : Ext w0 w) (ho0 : Rw16 w0 w b cap n D) (hn : n = D.size) (hb : D.size < 4611686018427387904) (lo hi : Nat) (h1 : lo < hi) (h2 : hi ≤ D.size) :
    Fc Tryz.prog 187 #[(.slice (some ⟨b, 0, none⟩) n cap), .int .i64 lo, .int .i64 hi] w (fun e w' => ∃ (p : Nat) (h : Int), e = .returned (.tuple #[.int .i64 p, .int .i64 h]) ∧ (lo ≤ p ∧ p < hi) ∧ Ext w0 w' ∧ Rw16 w0 w' b cap n D) := by
  obtain ⟨L, hL⟩ : ∃ L, L = hi - lo := ⟨_, rfl⟩
  refine Fc.of (args := [_, _, _]) Tryz.func187 rfl rfl Tryz.ntmps187 (Nat.le_of_ble_eq_true rfl) ?_
  repeat' (first|(refine oLA ?_;first|refine LA_pass rfl ?_|(refine oD 15 ?_; refine LA_subF rfl rfl rfl (by dsimp only [fits]; omega) ?_; rw [show ((hi : Int) - lo) = (L : Int) by omega])|(refine oD 9 ?_; refine LA_stop (hK _ _ (LX_al rfl (by decide) (fun _ => rfl) (fun sb wx ex hbx hbc => ?_))); clear hK K; have heX : Ext w0 wx := he0.trans ex; have hsX : Sw w0 wx sb := ⟨0, rfl, .inr ⟨sb, 1, _, rfl, Nat.le_trans he0.size hbx, hbc, Nat.le_refl _, by decide, rfl, rfl⟩⟩; have hoX : Rw16 w0 wx b cap n D := ho0.ext ex)|(refine oD 20 ?_; refine LA_addF rfl rfl rfl (by dsimp only [fits]; omega) ?_; rw [show ((lo : Int) + (L : Int) / 4 * 1) = ((lo + L / 4 * 1 : Nat) : Int) by omega])|(refine oD 25 ?_; refine LA_addF rfl rfl rfl (by dsimp only [fits]; omega) ?_; rw [show ((lo : Int) + (L : Int) / 4 * 2) = ((lo + L / 4 * 2 : Nat) : Int) by omega])|(refine oD 30 ?_; refine LA_addF rfl rfl rfl (by dsimp only [fits]; omega) ?_; rw [show ((lo : Int) + (L : Int) / 4 * 3) = ((lo + L / 4 * 3 : Nat) : Int) by omega])|(refine oD 37 ?_; refine LA_stop (hK _ _ (LX_call3 (f := 203) rfl (by decide) rfl rfl rfl rfl (fun v w' => ∃ p : Nat, v = .int .i64 p ∧ (lo ≤ p ∧ p < hi) ∧ Ext w0 w' ∧ Rw16 w0 w' b cap n D ∧ Sw w0 w' sb) (fun w' e => (meda16_c (heX.trans e) (hoX.ext e) (hsX.ext e) hn hb lo hi h2 (lo + L / 4 * 1) (by omega)).mono (by rintro e5 w5 ⟨p, h1, h2⟩; exact ⟨_, h1, p, rfl, h2⟩)) (fun v w1 hv => ?_))); clear hK K; obtain ⟨p1, rfl, bp1, he1, ho1, hs1⟩ := hv)|(refine oD 40 ?_; refine LA_stop (hK _ _ (LX_call3 (f := 203) rfl (by decide) rfl rfl rfl rfl (fun v w' => ∃ p : Nat, v = .int .i64 p ∧ (lo ≤ p ∧ p < hi) ∧ Ext w0 w' ∧ Rw16 w0 w' b cap n D ∧ Sw w0 w' sb) (fun w' e => (meda16_c (he1.trans e) (ho1.ext e) (hs1.ext e) hn hb lo hi h2 (lo + L / 4 * 2) (by omega)).mono (by rintro e5 w5 ⟨p, h1, h2⟩; exact ⟨_, h1, p, rfl, h2⟩)) (fun v w2 hv => ?_))); clear hK K; obtain ⟨p2, rfl, bp2, he2, ho2, hs2⟩ := hv)|(refine oD 43 ?_; refine LA_stop (hK _ _ (LX_call3 (f := 203) rfl (by decide) rfl rfl rfl rfl (fun v w' => ∃ p : Nat, v = .int .i64 p ∧ (lo ≤ p ∧ p < hi) ∧ Ext w0 w' ∧ Rw16 w0 w' b cap n D ∧ Sw w0 w' sb) (fun w' e => (meda16_c (he2.trans e) (ho2.ext e) (hs2.ext e) hn hb lo hi h2 (lo + L / 4 * 3) (by omega)).mono (by rintro e5 w5 ⟨p, h1, h2⟩; exact ⟨_, h1, p, rfl, h2⟩)) (fun v w3 hv => ?_))); clear hK K; obtain ⟨p3, rfl, bp3, he3, ho3, hs3⟩ := hv)|(refine LA_extV0 rfl rfl ?_)|(refine LA_extV1 rfl rfl ?_)|refine wOp ?_|(refine wCm ?_ ?_<;>intro hc)|(refine wNl hK ?_;clear hK K))|(refine oCX ?_;first|refine CX_seqW (id := 6) (ι := Nat) (fun j => [(9, .val (.pointer (some ⟨sb, 0, none⟩))), (11, .val (.int .i64 (j : Int)))]) (fun p w' => (lo ≤ p ∧ p < hi) ∧ Ext w0 w' ∧ Rw16 w0 w' b cap n D ∧ Sw w0 w' sb) ?_ ?_|refine CX_seqW (id := 7) (ι := Nat × Nat × Nat) (fun i => [(0, .val (.slice (some ⟨b, 0, none⟩) n cap)), (1, .val (.int .i64 lo)), (9, .val (.pointer (some ⟨sb, 0, none⟩))), (10, .val (.int .i64 ((i.1 : Nat) : Int))), (11, .val (.int .i64 ((i.2.1 : Nat) : Int))), (12, .val (.int .i64 ((i.2.2 : Nat) : Int)))]) (fun i w' => (lo ≤ i.1 ∧ i.1 < hi) ∧ (lo ≤ i.2.1 ∧ i.2.1 < hi) ∧ (lo ≤ i.2.2 ∧ i.2.2 < hi) ∧ Ext w0 w' ∧ Rw16 w0 w' b cap n D ∧ Sw w0 w' sb) ?_ ?_)|refine wG ?_|(refine wCR ?_;intro K hK)|(refine oLX ?_;first|(refine LX_la rfl ?_; intro K hK))|fail)
  · exact PX_rndV (p1, p2, p3) (fun w6 e6 => ⟨bp1, bp2, bp3, he3.trans e6, ho3.ext e6, hs3.ext e6⟩) (by omega) (by dsimp only; exact (by repeat' (first | exact Sub.nil | refine Sub.val rfl (by first | with_reducible rfl | (congr 1; omega)) ?_ | refine Sub.same rfl ?_)))
  · exact PX_rndV (lo + L / 4 * 1, lo + L / 4 * 2, lo + L / 4 * 3) (fun w6 e6 => ⟨by dsimp only; omega, by dsimp only; omega, by dsimp only; omega, heX.trans e6, hoX.ext e6, hsX.ext e6⟩) (by omega) (by dsimp only; exact (by repeat' (first | exact Sub.nil | refine Sub.val rfl (by first | with_reducible rfl | (congr 1; omega)) ?_ | refine Sub.same rfl ?_)))
  · rintro ⟨i, j, k⟩ w3 ⟨bi, bj, bk, he3, ho3, hs3⟩
    dsimp only at bi bj bk ⊢
    repeat' (first|(refine oLA ?_;first|refine LA_pass rfl ?_|(refine oD 48 ?_; refine LA_stop (hK _ _ (LX_call5 (f := 204) rfl (by decide) rfl rfl rfl rfl rfl rfl (fun v w' => ∃ p : Nat, v = .int .i64 p ∧ (lo ≤ p ∧ p < hi) ∧ Ext w0 w' ∧ Rw16 w0 w' b cap n D ∧ Sw w0 w' sb) (fun w' e => (med16_c (he3.trans e) (ho3.ext e) (hs3.ext e) hn hb lo hi h2 i j k bi bj bk).mono (by rintro e5 w5 ⟨p, h1, h2⟩; exact ⟨_, h1, p, rfl, h2⟩)) (fun v w1 hv => ?_))); clear hK K; obtain ⟨p, rfl, bp, he1, ho1, hs1⟩ := hv)|(refine LA_extV0 rfl rfl ?_)|(refine LA_extV1 rfl rfl ?_)|refine wOp ?_|(refine wCm ?_ ?_<;>intro hc)|(refine wNl hK ?_;clear hK K))|refine wG ?_|(refine wCR ?_;intro K hK)|(refine oLX ?_;first|(refine LX_la rfl ?_; intro K hK))|fail)
    exact PX_rndV p (fun w6 e6 => ⟨bp, he1.trans e6, ho1.ext e6, hs1.ext e6⟩) (by omega) (by repeat' (first | exact Sub.nil | refine Sub.val rfl (by first | with_reducible rfl | (congr 1; omega)) ?_ | refine Sub.same rfl ?_))
  · exact PX_rndV (lo + L / 4 * 2) (fun w6 e6 => ⟨by omega, heX.trans e6, hoX.ext e6, hsX.ext e6⟩) (by omega) (by repeat' (first | exact Sub.nil | refine Sub.val rfl (by first | with_reducible rfl | (congr 1; omega)) ?_ | refine Sub.same rfl ?_))
  · rintro j w3 ⟨bj, he3, ho3, s, hs3⟩
    repeat' (first|(refine oLA ?_;first|refine LA_pass rfl ?_|(refine oD 49 ?_; refine LA_ldD hs3 rfl (fun _ => rfl) rfl (by exact Nat.zero_lt_one) ?_; rw [show [s].getD 0 0 = s from rfl])|refine wOp ?_|(refine wCm ?_ ?_<;>intro hc)|(refine wNl hK ?_;clear hK K))|refine wG ?_|(refine wCR ?_;intro K hK)|fail)
    all_goals exact PX_ret2 rfl (fun u v w5 e5 hu hv => by obtain rfl : u = _ := hu; obtain rfl : v = _ := hv; exact ⟨j, _, rfl, bj, he3.trans e5, ho3.ext e5⟩)
end Srt
end Go.Proofs.YtfcioiobhpcngaaGreatDoor
end
