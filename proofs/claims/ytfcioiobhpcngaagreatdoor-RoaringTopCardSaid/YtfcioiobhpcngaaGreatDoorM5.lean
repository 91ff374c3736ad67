import Derived.Test.YtfcioiobhpcngaaGreatDoorProg
import Derived.WalkKit
import Derived.KernelRfl
import Derived.Laws.AppendOwnNone
import Derived.Scope
import Derived.Lib.Overlaps
import Derived.Laws.Externs
import Derived.Laws.OwnMore
import Init
import Derived.Laws.Tables
import Derived.Lib.TrailingZeros
import Derived.Laws.Bits64b
import Derived.ChangeSame
import Derived.ChangeSlices
import Derived.Laws.StructEq
import Derived.Maps.AppendAt
import Derived.Sort.AssemblyPlain
import Derived.Laws.Bits64
import Derived.Test.YtfcioiobhpcngaaGreatDoorM4
section
set_option linter.unusedSimpArgs false
set_option linter.unusedVariables false
set_option maxRecDepth 3000
namespace Go.Proofs.YtfcioiobhpcngaaGreatDoor
namespace Srt
open Go.LA Go.ArrP Go.RowKit
theorem ukA (w : World) (a : Int) : Fc Tryz.prog 198 #[.int .u32 a] w (Ret w (.val (.bool false))) := by
  refine Fc.of (args := [_]) Tryz.func198 rfl rfl Tryz.ntmps198 (Nat.le_of_ble_eq_true rfl) ?_
  repeat' (first|(refine oLA ?_;first|refine a0A rfl ?_|refine wOp ?_|(refine wCm ?_ ?_<;>intro hc)|(refine wNl hK ?_;clear hK K))|refine wG ?_|(refine wCR ?_;intro K hK)|fail)
  exact abA rfl rfl (Ext.refl _) rfl
theorem auA (w : World) (a b : Int) : Fc Tryz.prog 161 #[.int .u32 a, .int .u32 b] w (Ret w (.val (.bool (Go.Sort.ltInt a b)))) := by
  refine Fc.of (args := [_, _]) Tryz.func161 rfl rfl Tryz.ntmps161 (Nat.le_of_ble_eq_true rfl) ?_
  repeat' (first|(refine oLA ?_;first|refine a0A rfl ?_|refine wOp ?_|(refine wCm ?_ ?_<;>intro hc)|(refine oCv ?_;first|(refine oC 198 ?_; refine a1A (f := 198) rfl rfl rfl  (.val (.bool false)) (by intro u1 w e hu1; (try obtain rfl : u1 = _ := hu1); exact ukA _ _) ?_))|(refine wNl hK ?_;clear hK K))|refine wG ?_|(refine wCR ?_;intro K hK)|fail)
  all_goals (refine abA rfl rfl (Ext.refl _) ?_; unfold Go.Sort.ltInt; simp [hc])
abbrev coA (w0 w : World) (b cap n : Nat) (D : Array Int) : Prop := OwnI w0.heap.size 39 .u32 w (.slice (some ⟨b, 0, none⟩) n cap) D.toList
def s0A (w0 : World) (b cap n : Nat) (D : Array Int) : Ending → World → Prop := fun e w' => e = .returned (.tuple #[]) ∧ Ext w0 w' ∧ coA w0 w' b cap n D
set_option maxHeartbeats 4000000 in
theorem uzA {w0 w : World} {b cap n : Nat} {D : Array Int} (he0 : Ext w0 w) (ho0 : coA w0 w b cap n D) (hn : n = D.size) (lo hi : Nat) (h1 : lo ≤ hi) (h2 : hi ≤ D.size) (hb : D.size < 4611686018427387904) :
    Fc Tryz.prog 155 #[.slice (some ⟨b, 0, none⟩) n cap, .int .i64 lo, .int .i64 hi] w (s0A w0 b cap n (Go.Sort.insertionSort Go.Sort.ltInt D lo hi)) := by
  refine Fc.of (args := [_, _, _]) Tryz.func155 rfl rfl Tryz.ntmps155 (Nat.le_of_ble_eq_true rfl) ?_
  repeat' (first|(refine oLA ?_;first|refine a0A rfl ?_|refine wOp ?_|(refine wCm ?_ ?_<;>intro hc)|(refine wNl hK ?_;clear hK K))|refine wG ?_|(refine wCR ?_;intro K hK)|fail)
  refine ahA (ι := Nat × Array Int) (fun i => [(0, .val (.slice (some ⟨b, 0, none⟩) n cap)), (1, .val (.int .i64 lo)), (2, .val (.int .i64 hi)), (6, .val (.int .i64 (i.1 : Int)))])
    (fun i w' => Ext w0 w' ∧ lo + 1 ≤ i.1 ∧ i.1 ≤ hi + 1 ∧ i.2.size = D.size ∧ coA w0 w' b cap n i.2 ∧ Go.Sort.insOuter Go.Sort.ltInt lo hi i.1 i.2 = Go.Sort.insertionSort Go.Sort.ltInt D lo hi) (fun i => hi + 1 - i.1)
    (fun w2 e2 => ⟨(lo + 1, D), ⟨he0.trans e2, Nat.le_refl _, by dsimp only; omega, rfl, ho0.ext e2, rfl⟩, (by repeat' (first | exact Sub.nil | refine Sub.val rfl (by first | with_reducible rfl | (congr 1; omega)) ?_ | refine Sub.same rfl ?_))⟩) ?_
  rintro ⟨i, D1⟩ w1 ⟨he1, hi1, hi2, hs1, ho1, hr1⟩
  dsimp only at hi1 hi2 hs1 ho1 hr1 ⊢
  by_cases hlt : i < hi
  · rw [Go.Sort.insOuter, if_pos hlt] at hr1
    repeat' (first|(refine oLA ?_;first|refine a0A rfl ?_|refine wOp ?_|(refine wCm ?_ ?_<;>intro hc)|(refine wNl hK ?_;clear hK K))|refine wG ?_|(refine wCR ?_;intro K hK)|fail)
    refine ahA (ι := Nat × Array Int) (fun j => [(0, .val (.slice (some ⟨b, 0, none⟩) n cap)), (1, .val (.int .i64 lo)), (2, .val (.int .i64 hi)), (6, .val (.int .i64 (i : Int))), (7, .val (.int .i64 (j.1 : Int)))])
      (fun j w' => Ext w0 w' ∧ j.1 ≤ i ∧ j.2.size = D.size ∧ coA w0 w' b cap n j.2 ∧ Go.Sort.insOuter Go.Sort.ltInt lo hi (i + 1) (Go.Sort.insInner Go.Sort.ltInt lo j.1 j.2) = Go.Sort.insertionSort Go.Sort.ltInt D lo hi) (fun j => j.1)
      (fun w2 e2 => ⟨(i, D1), ⟨he1.trans e2, Nat.le_refl _, hs1, ho1.ext e2, hr1⟩, (by repeat' (first | exact Sub.nil | refine Sub.val rfl (by first | with_reducible rfl | (congr 1; omega)) ?_ | refine Sub.same rfl ?_))⟩) ?_
    rintro ⟨j, D2⟩ w2 ⟨he2, hj1, hs2, ho2, hr2⟩
    dsimp only at hj1 hs2 ho2 hr2 ⊢
    have hl2 := apA D2
    cases j with
    | zero =>
      repeat' (first|(refine oLA ?_;first|refine a0A rfl ?_|refine wOp ?_|(refine wCm ?_ ?_<;>intro hc)|(refine wNl hK ?_;clear hK K))|refine wG ?_|(refine wCR ?_;intro K hK)|fail)
      exact a7A (i + 1, D2) (fun w5 e5 => ⟨he2.trans e5, by dsimp only; omega, by dsimp only; omega, hs2, ho2.ext e5, hr2⟩) (by dsimp only; omega) (by repeat' (first | exact Sub.nil | refine Sub.val rfl (by first | with_reducible rfl | (congr 1; omega)) ?_ | refine Sub.same rfl ?_))
    | succ j =>
      by_cases hjl : lo < j + 1
      · cases hl : Go.Sort.ltInt D2[j + 1]! D2[j]!
        · have hr3 : Go.Sort.insInner Go.Sort.ltInt lo (j + 1) D2 = D2 := by rw [Go.Sort.insInner, hl]; simp
          rw [hr3] at hr2
          repeat' (first|(refine oLA ?_;first|refine a0A rfl ?_|(refine oI ?_; refine a6A rfl rfl (fun _ => rfl) rfl rfl _ rfl (by omega) ?_)|(refine oL ?_; refine aeA ho2 rfl (fun _ => rfl) rfl (by omega) ?_; rw [cbA])|(refine oD 27 ?_; refine a6A rfl rfl (fun _ => rfl) rfl rfl j (by omega) (by omega) ?_)|refine wOp ?_|(refine wCm ?_ ?_<;>intro hc)|(refine oCv ?_;first|(refine oC 161 ?_; refine a3A (f := 161) rfl rfl rfl rfl  (.val (.bool false)) (by intro u1 u2 w e hu1 hu2; (try obtain rfl : u1 = _ := hu1); (try obtain rfl : u2 = _ := hu2); exact agA (by rw [hl]) (auA _ _ _)) ?_))|(refine wNl hK ?_;clear hK K))|refine wG ?_|(refine wCR ?_;intro K hK)|fail)
          exact a7A (i + 1, D2) (fun w5 e5 => ⟨he2.trans e5, by dsimp only; omega, by dsimp only; omega, hs2, ho2.ext e5, hr2⟩) (by dsimp only; omega) (by repeat' (first | exact Sub.nil | refine Sub.val rfl (by first | with_reducible rfl | (congr 1; omega)) ?_ | refine Sub.same rfl ?_))
        · have hr3 : Go.Sort.insInner Go.Sort.ltInt lo (j + 1) D2 = Go.Sort.insInner Go.Sort.ltInt lo j (Go.Sort.swp D2 (j + 1) j) := by rw [Go.Sort.insInner, hl]; simp [hjl]
          rw [hr3] at hr2
          repeat' (first|(refine oLA ?_;first|refine wBk ?_|(refine oI ?_; refine a6A rfl rfl (fun _ => rfl) rfl rfl _ rfl (by omega) ?_)|(refine oL ?_; refine aeA ho2 rfl (fun _ => rfl) rfl (by omega) ?_; rw [cbA])|(refine oD 27 ?_; refine a6A rfl rfl (fun _ => rfl) rfl rfl j (by omega) (by omega) ?_)|(refine oD 41 ?_; refine a6A rfl rfl (fun _ => rfl) rfl rfl j (by omega) (by omega) ?_)|refine wOp ?_|(refine wCm ?_ ?_<;>intro hc)|(refine oCv ?_;first|(refine oC 161 ?_; refine a3A (f := 161) rfl rfl rfl rfl  (.val (.bool true)) (by intro u1 u2 w e hu1 hu2; (try obtain rfl : u1 = _ := hu1); (try obtain rfl : u2 = _ := hu2); exact agA (by rw [hl]) (auA _ _ _)) ?_))|(refine wNl hK ?_;clear hK K))|(refine oCX ?_;first|refine ajA (id := 6) [15, 17] (by kernel_rfl) (by kernel_rfl) (by kernel_rfl) (a5A ?_))|refine wG ?_|(refine wCR ?_;intro K hK)|refine wPh ?_|fail)
          refine afA (j := j + 1) rfl he2 ho2 rfl rfl (by omega) (fun _ => rfl) (fun wS1 heS1 hoS1 => ?_)
          refine a5A ?_
          repeat' (first|(refine oLA ?_;first|refine wBk ?_|(refine oD 48 ?_; refine a6A rfl rfl (fun _ => rfl) rfl rfl (j) (by omega) (by omega) ?_)|refine wOp ?_|(refine wCm ?_ ?_<;>intro hc)|(refine wNl hK ?_;clear hK K))|refine wG ?_|(refine wCR ?_;intro K hK)|refine wPh ?_|fail)
          refine afA (j := j) rfl heS1 hoS1 rfl rfl (by rw [List.length_set]; omega) (fun _ => rfl) (fun wS heS hoS => ?_)
          rw [atA] at hoS
          refine aiA ?_
          repeat' (first|(refine oLA ?_;first|refine wBk ?_|refine wOp ?_|(refine wCm ?_ ?_<;>intro hc)|(refine wNl hK ?_;clear hK K))|refine wG ?_|(refine wCR ?_;intro K hK)|refine wPh ?_|fail)
          exact a7A (j, Go.Sort.swp D2 (j + 1) j) (fun w5 e5 => ⟨heS.trans e5, by dsimp only; omega, by dsimp only; rw [swp_size]; exact hs2, hoS.ext e5, hr2⟩) (by dsimp only; omega) (by repeat' (first | exact Sub.nil | refine Sub.val rfl (by first | with_reducible rfl | (congr 1; omega)) ?_ | refine Sub.same rfl ?_))
      · have hr3 : Go.Sort.insInner Go.Sort.ltInt lo (j + 1) D2 = D2 := by rw [Go.Sort.insInner]; simp [hjl]
        rw [hr3] at hr2
        repeat' (first|(refine oLA ?_;first|refine a0A rfl ?_|refine wOp ?_|(refine wCm ?_ ?_<;>intro hc)|(refine wNl hK ?_;clear hK K))|refine wG ?_|(refine wCR ?_;intro K hK)|fail)
        exact a7A (i + 1, D2) (fun w5 e5 => ⟨he2.trans e5, by dsimp only; omega, by dsimp only; omega, hs2, ho2.ext e5, hr2⟩) (by dsimp only; omega) (by repeat' (first | exact Sub.nil | refine Sub.val rfl (by first | with_reducible rfl | (congr 1; omega)) ?_ | refine Sub.same rfl ?_))
  · rw [Go.Sort.insOuter, if_neg hlt] at hr1
    repeat' (first|(refine oLA ?_;first|refine a0A rfl ?_|refine wOp ?_|(refine wCm ?_ ?_<;>intro hc)|(refine wNl hK ?_;clear hK K))|refine wG ?_|(refine wCR ?_;intro K hK)|fail)
    refine b2A rfl (fun w5 e5 => ⟨rfl, he1.trans e5, hr1 ▸ ho1.ext e5⟩) (.inl rfl)
set_option maxHeartbeats 8000000 in
theorem l8A {w0 w : World} {b cap n : Nat} {D : Array Int} (he0 : Ext w0 w) (ho0 : coA w0 w b cap n D) (hn : n = D.size) (lo hi first : Nat) (h1 : lo ≤ hi) (h2 : first + hi ≤ D.size) (hb : D.size < 4611686018427387904) :
    Fc Tryz.prog 193 #[.slice (some ⟨b, 0, none⟩) n cap, .int .i64 lo, .int .i64 hi, .int .i64 first] w (s0A w0 b cap n (Go.Sort.siftDown Go.Sort.ltInt hi first lo D)) := by
  refine Fc.of (args := [_, _, _, _]) Tryz.func193 rfl rfl Tryz.ntmps193 (Nat.le_of_ble_eq_true rfl) ?_
  repeat' (first|(refine oLA ?_;first|refine a0A rfl ?_|refine wOp ?_|(refine wCm ?_ ?_<;>intro hc)|(refine wNl hK ?_;clear hK K))|refine wG ?_|(refine wCR ?_;intro K hK)|fail)
  refine ahA (ι := Nat × Array Int) (fun i => [(0, .val (.slice (some ⟨b, 0, none⟩) n cap)), (2, .val (.int .i64 hi)), (3, .val (.int .i64 first)), (8, .val (.int .i64 (i.1 : Int)))])
    (fun i w' => Ext w0 w' ∧ i.1 ≤ hi ∧ i.2.size = D.size ∧ coA w0 w' b cap n i.2 ∧ Go.Sort.siftDown Go.Sort.ltInt hi first i.1 i.2 = Go.Sort.siftDown Go.Sort.ltInt hi first lo D) (fun i => hi - i.1)
    (fun w2 e2 => ⟨(lo, D), ⟨he0.trans e2, h1, rfl, ho0.ext e2, rfl⟩, (by repeat' (first | exact Sub.nil | refine Sub.val rfl (by first | with_reducible rfl | (congr 1; omega)) ?_ | refine Sub.same rfl ?_))⟩) ?_
  rintro ⟨r, D1⟩ w1 ⟨he1, hr0, hs1, ho1, hr1⟩
  dsimp only at hr0 hs1 ho1 hr1 ⊢
  have hl1 := apA D1
  by_cases hlt : 2 * r + 1 ≥ hi
  · have hst : Go.Sort.siftDown Go.Sort.ltInt hi first r D1 = D1 := by rw [Go.Sort.siftDown, dif_pos hlt]
    rw [hst] at hr1
    repeat' (first|(refine oLA ?_;first|refine a0A rfl ?_|refine wOp ?_|(refine wCm ?_ ?_<;>intro hc)|(refine wNl hK ?_;clear hK K))|refine wG ?_|(refine wCR ?_;intro K hK)|fail)
    exact b2A rfl (fun w5 e5 => ⟨rfl, he1.trans e5, hr1 ▸ ho1.ext e5⟩) (.inl rfl)
  · by_cases h22 : 2 * r + 1 + 1 < hi
    · cases hll : Go.Sort.ltInt D1[first + (2 * r + 1)]! D1[first + (2 * r + 1) + 1]!
      · have q0 : True := trivial
        have hgo := sift_go (lt := Go.Sort.ltInt) (hi := hi) (first := first) (d := D1) (r := r) (c := 2 * r + 1) (by omega) (by rw [hll]; simp)
        cases hl : Go.Sort.ltInt D1[first + r]! D1[first + (2 * r + 1)]!
        · rw [hl] at hgo
          simp only [Bool.false_eq_true, if_false] at hgo
          rw [hgo] at hr1
          repeat' (first|(refine oLA ?_;first|refine a0A rfl ?_|(refine oD 35 ?_; refine oC 161 ?_; refine a3A (f := 161) rfl rfl rfl rfl  (.val (.bool false)) (by intro u1 u2 w e hu1 hu2; (try obtain rfl : u1 = _ := hu1); (try obtain rfl : u2 = _ := hu2); exact agA (by rw [hll]) (auA _ _ _)) ?_)|(refine oD 26 ?_; refine a6A rfl rfl (fun _ => rfl) rfl rfl (first + (2 * r + 1)) (by omega) (by omega) ?_)|(refine oD 33 ?_; refine a6A rfl rfl (fun _ => rfl) rfl rfl (first + (2 * r + 1) + 1) (by omega) (by omega) ?_)|(refine oD 43 ?_; refine a6A rfl rfl (fun _ => rfl) rfl rfl (first + r) (by omega) (by omega) ?_)|(refine oD 49 ?_; refine a6A rfl rfl (fun _ => rfl) rfl rfl (first + (2 * r + 1)) (by omega) (by omega) ?_)|(refine oL ?_; refine aeA ho1 rfl (fun _ => rfl) rfl (by omega) ?_; rw [cbA])|(refine oD 51 ?_; refine oC 161 ?_; refine a3A (f := 161) rfl rfl rfl rfl  (.val (.bool false)) (by intro u1 u2 w e hu1 hu2; (try obtain rfl : u1 = _ := hu1); (try obtain rfl : u2 = _ := hu2); exact agA (by rw [hl]) (auA _ _ _)) ?_)|refine wOp ?_|(refine wCm ?_ ?_<;>intro hc)|(refine wNl hK ?_;clear hK K))|refine wG ?_|(refine wCR ?_;intro K hK)|fail)
          exact b2A rfl (fun w5 e5 => ⟨rfl, he1.trans e5, hr1 ▸ ho1.ext e5⟩) (.inr rfl)
        · rw [hl] at hgo
          simp only [if_true] at hgo
          rw [hgo] at hr1
          repeat' (first|(refine oLA ?_;first|refine wBk ?_|(refine oD 35 ?_; refine oC 161 ?_; refine a3A (f := 161) rfl rfl rfl rfl  (.val (.bool false)) (by intro u1 u2 w e hu1 hu2; (try obtain rfl : u1 = _ := hu1); (try obtain rfl : u2 = _ := hu2); exact agA (by rw [hll]) (auA _ _ _)) ?_)|(refine oD 26 ?_; refine a6A rfl rfl (fun _ => rfl) rfl rfl (first + (2 * r + 1)) (by omega) (by omega) ?_)|(refine oD 33 ?_; refine a6A rfl rfl (fun _ => rfl) rfl rfl (first + (2 * r + 1) + 1) (by omega) (by omega) ?_)|(refine oD 43 ?_; refine a6A rfl rfl (fun _ => rfl) rfl rfl (first + r) (by omega) (by omega) ?_)|(refine oD 49 ?_; refine a6A rfl rfl (fun _ => rfl) rfl rfl (first + (2 * r + 1)) (by omega) (by omega) ?_)|(refine oD 65 ?_; refine a6A rfl rfl (fun _ => rfl) rfl rfl (first + (2 * r + 1)) (by omega) (by omega) ?_)|(refine oD 71 ?_; refine a6A rfl rfl (fun _ => rfl) rfl rfl (first + r) (by omega) (by omega) ?_)|(refine oD 73 ?_; refine a6A rfl rfl (fun _ => rfl) rfl rfl (first + r) (by omega) (by omega) ?_)|(refine oL ?_; refine aeA ho1 rfl (fun _ => rfl) rfl (by omega) ?_; rw [cbA])|(refine oD 51 ?_; refine oC 161 ?_; refine a3A (f := 161) rfl rfl rfl rfl  (.val (.bool true)) (by intro u1 u2 w e hu1 hu2; (try obtain rfl : u1 = _ := hu1); (try obtain rfl : u2 = _ := hu2); exact agA (by rw [hl]) (auA _ _ _)) ?_)|refine wOp ?_|(refine wCm ?_ ?_<;>intro hc)|(refine wNl hK ?_;clear hK K))|(refine oCX ?_;first|refine ajA (id := 6) [21, 23] (by kernel_rfl) (by kernel_rfl) (by kernel_rfl) (a5A ?_))|refine wG ?_|(refine wCR ?_;intro K hK)|refine wPh ?_|fail)
          refine afA (j := first + r) rfl he1 ho1 rfl rfl (by omega) (fun _ => rfl) (fun wS1 heS1 hoS1 => ?_)
          refine a5A ?_
          repeat' (first|(refine oLA ?_;first|refine wBk ?_|(refine oD 74 ?_; refine a6A rfl rfl (fun _ => rfl) rfl rfl (first + (2 * r + 1)) (by omega) (by omega) ?_)|refine wOp ?_|(refine wCm ?_ ?_<;>intro hc)|(refine wNl hK ?_;clear hK K))|refine wG ?_|(refine wCR ?_;intro K hK)|refine wPh ?_|fail)
          refine afA (j := first + (2 * r + 1)) rfl heS1 hoS1 rfl rfl (by rw [List.length_set]; omega) (fun _ => rfl) (fun wS heS hoS => ?_)
          rw [atA] at hoS
          refine aiA ?_
          repeat' (first|(refine oLA ?_;first|refine wBk ?_|refine wOp ?_|(refine wCm ?_ ?_<;>intro hc)|(refine wNl hK ?_;clear hK K))|refine wG ?_|(refine wCR ?_;intro K hK)|refine wPh ?_|fail)
          exact a7A (2 * r + 1, Go.Sort.swp D1 (first + r) (first + (2 * r + 1))) (fun w5 e5 => ⟨heS.trans e5, by dsimp only; omega, by dsimp only; rw [swp_size]; exact hs1, hoS.ext e5, hr1⟩) (by dsimp only; omega) (by repeat' (first | exact Sub.nil | refine Sub.val rfl (by first | with_reducible rfl | (congr 1; omega)) ?_ | refine Sub.same rfl ?_))
      · have q0 : True := trivial
        have hgo := sift_go (lt := Go.Sort.ltInt) (hi := hi) (first := first) (d := D1) (r := r) (c := 2 * r + 2) (by omega) (by rw [hll]; simp [h22])
        cases hl : Go.Sort.ltInt D1[first + r]! D1[first + (2 * r + 2)]!
        · rw [hl] at hgo
          simp only [Bool.false_eq_true, if_false] at hgo
          rw [hgo] at hr1
          repeat' (first|(refine oLA ?_;first|refine a0A rfl ?_|(refine oD 35 ?_; refine oC 161 ?_; refine a3A (f := 161) rfl rfl rfl rfl  (.val (.bool true)) (by intro u1 u2 w e hu1 hu2; (try obtain rfl : u1 = _ := hu1); (try obtain rfl : u2 = _ := hu2); exact agA (by rw [hll]) (auA _ _ _)) ?_)|(refine oD 26 ?_; refine a6A rfl rfl (fun _ => rfl) rfl rfl (first + (2 * r + 1)) (by omega) (by omega) ?_)|(refine oD 33 ?_; refine a6A rfl rfl (fun _ => rfl) rfl rfl (first + (2 * r + 1) + 1) (by omega) (by omega) ?_)|(refine oD 43 ?_; refine a6A rfl rfl (fun _ => rfl) rfl rfl (first + r) (by omega) (by omega) ?_)|(refine oD 49 ?_; refine a6A rfl rfl (fun _ => rfl) rfl rfl (first + (2 * r + 2)) (by omega) (by omega) ?_)|(refine oL ?_; refine aeA ho1 rfl (fun _ => rfl) rfl (by omega) ?_; rw [cbA])|(refine oD 51 ?_; refine oC 161 ?_; refine a3A (f := 161) rfl rfl rfl rfl  (.val (.bool false)) (by intro u1 u2 w e hu1 hu2; (try obtain rfl : u1 = _ := hu1); (try obtain rfl : u2 = _ := hu2); exact agA (by rw [hl]) (auA _ _ _)) ?_)|refine wOp ?_|(refine wCm ?_ ?_<;>intro hc)|(refine wNl hK ?_;clear hK K))|refine wG ?_|(refine wCR ?_;intro K hK)|fail)
          exact b2A rfl (fun w5 e5 => ⟨rfl, he1.trans e5, hr1 ▸ ho1.ext e5⟩) (.inr rfl)
        · rw [hl] at hgo
          simp only [if_true] at hgo
          rw [hgo] at hr1
          repeat' (first|(refine oLA ?_;first|refine wBk ?_|(refine oD 35 ?_; refine oC 161 ?_; refine a3A (f := 161) rfl rfl rfl rfl  (.val (.bool true)) (by intro u1 u2 w e hu1 hu2; (try obtain rfl : u1 = _ := hu1); (try obtain rfl : u2 = _ := hu2); exact agA (by rw [hll]) (auA _ _ _)) ?_)|(refine oD 26 ?_; refine a6A rfl rfl (fun _ => rfl) rfl rfl (first + (2 * r + 1)) (by omega) (by omega) ?_)|(refine oD 33 ?_; refine a6A rfl rfl (fun _ => rfl) rfl rfl (first + (2 * r + 1) + 1) (by omega) (by omega) ?_)|(refine oD 43 ?_; refine a6A rfl rfl (fun _ => rfl) rfl rfl (first + r) (by omega) (by omega) ?_)|(refine oD 49 ?_; refine a6A rfl rfl (fun _ => rfl) rfl rfl (first + (2 * r + 2)) (by omega) (by omega) ?_)|(refine oD 65 ?_; refine a6A rfl rfl (fun _ => rfl) rfl rfl (first + (2 * r + 2)) (by omega) (by omega) ?_)|(refine oD 71 ?_; refine a6A rfl rfl (fun _ => rfl) rfl rfl (first + r) (by omega) (by omega) ?_)|(refine oD 73 ?_; refine a6A rfl rfl (fun _ => rfl) rfl rfl (first + r) (by omega) (by omega) ?_)|(refine oL ?_; refine aeA ho1 rfl (fun _ => rfl) rfl (by omega) ?_; rw [cbA])|(refine oD 51 ?_; refine oC 161 ?_; refine a3A (f := 161) rfl rfl rfl rfl  (.val (.bool true)) (by intro u1 u2 w e hu1 hu2; (try obtain rfl : u1 = _ := hu1); (try obtain rfl : u2 = _ := hu2); exact agA (by rw [hl]) (auA _ _ _)) ?_)|refine wOp ?_|(refine wCm ?_ ?_<;>intro hc)|(refine wNl hK ?_;clear hK K))|(refine oCX ?_;first|refine ajA (id := 6) [21, 23] (by kernel_rfl) (by kernel_rfl) (by kernel_rfl) (a5A ?_))|refine wG ?_|(refine wCR ?_;intro K hK)|refine wPh ?_|fail)
          refine afA (j := first + r) rfl he1 ho1 rfl rfl (by omega) (fun _ => rfl) (fun wS1 heS1 hoS1 => ?_)
          refine a5A ?_
          repeat' (first|(refine oLA ?_;first|refine wBk ?_|(refine oD 74 ?_; refine a6A rfl rfl (fun _ => rfl) rfl rfl (first + (2 * r + 2)) (by omega) (by omega) ?_)|refine wOp ?_|(refine wCm ?_ ?_<;>intro hc)|(refine wNl hK ?_;clear hK K))|refine wG ?_|(refine wCR ?_;intro K hK)|refine wPh ?_|fail)
          refine afA (j := first + (2 * r + 2)) rfl heS1 hoS1 rfl rfl (by rw [List.length_set]; omega) (fun _ => rfl) (fun wS heS hoS => ?_)
          rw [atA] at hoS
          refine aiA ?_
          repeat' (first|(refine oLA ?_;first|refine wBk ?_|refine wOp ?_|(refine wCm ?_ ?_<;>intro hc)|(refine wNl hK ?_;clear hK K))|refine wG ?_|(refine wCR ?_;intro K hK)|refine wPh ?_|fail)
          exact a7A (2 * r + 2, Go.Sort.swp D1 (first + r) (first + (2 * r + 2))) (fun w5 e5 => ⟨heS.trans e5, by dsimp only; omega, by dsimp only; rw [swp_size]; exact hs1, hoS.ext e5, hr1⟩) (by dsimp only; omega) (by repeat' (first | exact Sub.nil | refine Sub.val rfl (by first | with_reducible rfl | (congr 1; omega)) ?_ | refine Sub.same rfl ?_))
    · have q0 : True := trivial
      have hgo := sift_go (lt := Go.Sort.ltInt) (hi := hi) (first := first) (d := D1) (r := r) (c := 2 * r + 1) (by omega) (by simp [h22])
      cases hl : Go.Sort.ltInt D1[first + r]! D1[first + (2 * r + 1)]!
      · rw [hl] at hgo
        simp only [Bool.false_eq_true, if_false] at hgo
        rw [hgo] at hr1
        repeat' (first|(refine oLA ?_;first|refine a0A rfl ?_|(refine oD 26 ?_; refine a6A rfl rfl (fun _ => rfl) rfl rfl (first + (2 * r + 1)) (by omega) (by omega) ?_)|(refine oD 33 ?_; refine a6A rfl rfl (fun _ => rfl) rfl rfl (first + (2 * r + 1) + 1) (by omega) (by omega) ?_)|(refine oD 43 ?_; refine a6A rfl rfl (fun _ => rfl) rfl rfl (first + r) (by omega) (by omega) ?_)|(refine oD 49 ?_; refine a6A rfl rfl (fun _ => rfl) rfl rfl (first + (2 * r + 1)) (by omega) (by omega) ?_)|(refine oL ?_; refine aeA ho1 rfl (fun _ => rfl) rfl (by omega) ?_; rw [cbA])|(refine oD 51 ?_; refine oC 161 ?_; refine a3A (f := 161) rfl rfl rfl rfl  (.val (.bool false)) (by intro u1 u2 w e hu1 hu2; (try obtain rfl : u1 = _ := hu1); (try obtain rfl : u2 = _ := hu2); exact agA (by rw [hl]) (auA _ _ _)) ?_)|refine wOp ?_|(refine wCm ?_ ?_<;>intro hc)|(refine wNl hK ?_;clear hK K))|refine wG ?_|(refine wCR ?_;intro K hK)|fail)
        exact b2A rfl (fun w5 e5 => ⟨rfl, he1.trans e5, hr1 ▸ ho1.ext e5⟩) (.inr rfl)
      · rw [hl] at hgo
        simp only [if_true] at hgo
        rw [hgo] at hr1
        repeat' (first|(refine oLA ?_;first|refine wBk ?_|(refine oD 26 ?_; refine a6A rfl rfl (fun _ => rfl) rfl rfl (first + (2 * r + 1)) (by omega) (by omega) ?_)|(refine oD 33 ?_; refine a6A rfl rfl (fun _ => rfl) rfl rfl (first + (2 * r + 1) + 1) (by omega) (by omega) ?_)|(refine oD 43 ?_; refine a6A rfl rfl (fun _ => rfl) rfl rfl (first + r) (by omega) (by omega) ?_)|(refine oD 49 ?_; refine a6A rfl rfl (fun _ => rfl) rfl rfl (first + (2 * r + 1)) (by omega) (by omega) ?_)|(refine oD 65 ?_; refine a6A rfl rfl (fun _ => rfl) rfl rfl (first + (2 * r + 1)) (by omega) (by omega) ?_)|(refine oD 71 ?_; refine a6A rfl rfl (fun _ => rfl) rfl rfl (first + r) (by omega) (by omega) ?_)|(refine oD 73 ?_; refine a6A rfl rfl (fun _ => rfl) rfl rfl (first + r) (by omega) (by omega) ?_)|(refine oL ?_; refine aeA ho1 rfl (fun _ => rfl) rfl (by omega) ?_; rw [cbA])|(refine oD 51 ?_; refine oC 161 ?_; refine a3A (f := 161) rfl rfl rfl rfl  (.val (.bool true)) (by intro u1 u2 w e hu1 hu2; (try obtain rfl : u1 = _ := hu1); (try obtain rfl : u2 = _ := hu2); exact agA (by rw [hl]) (auA _ _ _)) ?_)|refine wOp ?_|(refine wCm ?_ ?_<;>intro hc)|(refine wNl hK ?_;clear hK K))|(refine oCX ?_;first|refine ajA (id := 6) [21, 23] (by kernel_rfl) (by kernel_rfl) (by kernel_rfl) (a5A ?_))|refine wG ?_|(refine wCR ?_;intro K hK)|refine wPh ?_|fail)
        refine afA (j := first + r) rfl he1 ho1 rfl rfl (by omega) (fun _ => rfl) (fun wS1 heS1 hoS1 => ?_)
        refine a5A ?_
        repeat' (first|(refine oLA ?_;first|refine wBk ?_|(refine oD 74 ?_; refine a6A rfl rfl (fun _ => rfl) rfl rfl (first + (2 * r + 1)) (by omega) (by omega) ?_)|refine wOp ?_|(refine wCm ?_ ?_<;>intro hc)|(refine wNl hK ?_;clear hK K))|refine wG ?_|(refine wCR ?_;intro K hK)|refine wPh ?_|fail)
        refine afA (j := first + (2 * r + 1)) rfl heS1 hoS1 rfl rfl (by rw [List.length_set]; omega) (fun _ => rfl) (fun wS heS hoS => ?_)
        rw [atA] at hoS
        refine aiA ?_
        repeat' (first|(refine oLA ?_;first|refine wBk ?_|refine wOp ?_|(refine wCm ?_ ?_<;>intro hc)|(refine wNl hK ?_;clear hK K))|refine wG ?_|(refine wCR ?_;intro K hK)|refine wPh ?_|fail)
        exact a7A (2 * r + 1, Go.Sort.swp D1 (first + r) (first + (2 * r + 1))) (fun w5 e5 => ⟨heS.trans e5, by dsimp only; omega, by dsimp only; rw [swp_size]; exact hs1, hoS.ext e5, hr1⟩) (by dsimp only; omega) (by repeat' (first | exact Sub.nil | refine Sub.val rfl (by first | with_reducible rfl | (congr 1; omega)) ?_ | refine Sub.same rfl ?_))
set_option maxHeartbeats 8000000 in
theorem r7A {w0 w : World} {b cap n : Nat} {D : Array Int} (he0 : Ext w0 w) (ho0 : coA w0 w b cap n D) (hn : n = D.size) (lo hi : Nat) (h1 : lo ≤ hi) (h2 : hi ≤ D.size) (hb : D.size < 4611686018427387904) :
    Fc Tryz.prog 156 #[.slice (some ⟨b, 0, none⟩) n cap, .int .i64 lo, .int .i64 hi] w (s0A w0 b cap n (Go.Sort.heapSort Go.Sort.ltInt D lo hi)) := by
  obtain ⟨m, hm⟩ : ∃ m : Nat, m = hi - lo := ⟨_, rfl⟩
  have hmi : (hi : Int) - (lo : Int) = (m : Int) := by omega
  have hhalf := lxA m (by omega)
  unfold Go.Sort.heapSort
  rw [← hm]
  refine Fc.of (args := [_, _, _]) Tryz.func156 rfl rfl Tryz.ntmps156 (Nat.le_of_ble_eq_true rfl) ?_
  repeat' (first|(refine oLA ?_;first|refine a0A rfl ?_|(refine oD 14 ?_; refine a9A rfl rfl rfl (by rw [hmi]; dsimp only [fits]; omega) ?_; rw [hmi])|(refine oD 17 ?_; refine plA rfl rfl rfl (by decide) ?_; rw [hhalf])|refine wOp ?_|(refine wCm ?_ ?_<;>intro hc)|(refine wNl hK ?_;clear hK K))|refine wG ?_|(refine wCR ?_;intro K hK)|fail)
  refine ahA (ι := Nat × Array Int) (fun i => [(0, .val (.slice (some ⟨b, 0, none⟩) n cap)), (6, .val (.int .i64 lo)), (7, .val (.int .i64 0)), (8, .val (.int .i64 m)), (9, .val (.int .i64 ((i.1 : Int) - 1)))])
    (fun i w' => Ext w0 w' ∧ i.1 ≤ (m - 1) / 2 + 1 ∧ i.2.size = D.size ∧ coA w0 w' b cap n i.2 ∧ Go.Sort.heapBuild Go.Sort.ltInt m lo i.1 i.2 = Go.Sort.heapBuild Go.Sort.ltInt m lo ((m - 1) / 2 + 1) D) (fun i => i.1)
    (fun w2 e2 => ⟨((m - 1) / 2 + 1, D), ⟨he0.trans e2, Nat.le_refl _, rfl, ho0.ext e2, rfl⟩, (by repeat' (first | exact Sub.nil | refine Sub.val rfl (by first | with_reducible rfl | (congr 1; omega)) ?_ | refine Sub.same rfl ?_))⟩) ?_
  rintro ⟨i, D1⟩ w1 ⟨he1, hi0, hs1, ho1, hr1⟩
  dsimp only at hi0 hs1 ho1 hr1 ⊢
  cases i with
  | succ i =>
    rw [Go.Sort.heapBuild] at hr1
    repeat' (first|(refine oLA ?_;first|refine a0A rfl ?_|(refine oD 26 ?_; refine a4A (hK _ _ (eiA (f := 193) (fun w' => Ext w0 w' ∧ coA w0 w' b cap n (Go.Sort.siftDown Go.Sort.ltInt m lo i D1)) (fun w' e => by rw [show (((i + 1 : Nat) : Int) - 1) = (i : Int) by omega]; exact l8A (he1.trans e) (ho1.ext e) (hn.trans hs1.symm) i m lo (by omega) (by omega) (by omega)) rfl (by decide) rfl rfl rfl rfl rfl (fun w2 hw2 => ?_))); clear hK K; obtain ⟨he2, ho2⟩ := hw2)|refine wOp ?_|(refine wCm ?_ ?_<;>intro hc)|(refine wNl hK ?_;clear hK K))|refine wG ?_|(refine wCR ?_;intro K hK)|fail)
    exact a7A (i, Go.Sort.siftDown Go.Sort.ltInt m lo i D1) (fun w5 e5 => ⟨he2.trans e5, by dsimp only; omega, (sift_size _ _ _ (Nat.le_refl _)).trans hs1, ho2.ext e5, hr1⟩) (by dsimp only; omega) (by repeat' (first | exact Sub.nil | refine Sub.val rfl (by first | with_reducible rfl | (congr 1; omega)) ?_ | refine Sub.same rfl ?_))
  | zero =>
    rw [Go.Sort.heapBuild] at hr1
    rw [← hr1]
    repeat' (first|(refine oLA ?_;first|refine a0A rfl ?_|refine wOp ?_|(refine wCm ?_ ?_<;>intro hc)|(refine wNl hK ?_;clear hK K))|refine wG ?_|(refine wCR ?_;intro K hK)|fail)
    refine ahA (ι := Nat × Array Int) (fun i => [(0, .val (.slice (some ⟨b, 0, none⟩) n cap)), (6, .val (.int .i64 lo)), (7, .val (.int .i64 0)), (10, .val (.int .i64 ((i.1 : Int) - 1)))])
      (fun i w' => Ext w0 w' ∧ i.1 ≤ m ∧ i.2.size = D.size ∧ coA w0 w' b cap n i.2 ∧ Go.Sort.heapPop Go.Sort.ltInt lo i.1 i.2 = Go.Sort.heapPop Go.Sort.ltInt lo m D1) (fun i => i.1)
      (fun w2 e2 => ⟨(m, D1), ⟨he1.trans e2, Nat.le_refl _, hs1, ho1.ext e2, rfl⟩, (by repeat' (first | exact Sub.nil | refine Sub.val rfl (by first | with_reducible rfl | (congr 1; omega)) ?_ | refine Sub.same rfl ?_))⟩) ?_
    rintro ⟨i, D2⟩ w2 ⟨he2, hi2, hs2, ho2, hr2⟩
    dsimp only at hi2 hs2 ho2 hr2 ⊢
    have hl2 := apA D2
    cases i with
    | succ i =>
      rw [Go.Sort.heapPop] at hr2
      repeat' (first|(refine oLA ?_;first|refine wBk ?_|(refine oD 43 ?_; refine a6A rfl rfl (fun _ => rfl) rfl rfl (lo + i) (by omega) (by omega) ?_)|(refine oD 47 ?_; refine a6A rfl rfl (fun _ => rfl) rfl rfl lo rfl (by omega) ?_)|(refine oD 49 ?_; refine a6A rfl rfl (fun _ => rfl) rfl rfl lo rfl (by omega) ?_)|(refine oL ?_; refine aeA ho2 rfl (fun _ => rfl) rfl (by omega) ?_; rw [cbA])|refine wOp ?_|(refine wCm ?_ ?_<;>intro hc)|(refine wNl hK ?_;clear hK K))|(refine oCX ?_;first|refine ajA (id := 10) [17, 19] (by kernel_rfl) (by kernel_rfl) (by kernel_rfl) (a5A ?_))|refine wG ?_|(refine wCR ?_;intro K hK)|refine wPh ?_|fail)
      refine afA (j := lo) rfl he2 ho2 rfl rfl (by omega) (fun _ => rfl) (fun wS1 heS1 hoS1 => ?_)
      refine a5A ?_
      repeat' (first|(refine oLA ?_;first|refine wBk ?_|(refine oD 50 ?_; refine a6A rfl rfl (fun _ => rfl) rfl rfl (lo + i) (by omega) (by omega) ?_)|refine wOp ?_|(refine wCm ?_ ?_<;>intro hc)|(refine wNl hK ?_;clear hK K))|refine wG ?_|(refine wCR ?_;intro K hK)|refine wPh ?_|fail)
      refine afA (j := lo + i) rfl heS1 hoS1 rfl rfl (by rw [List.length_set]; omega) (fun _ => rfl) (fun wS heS hoS => ?_)
      rw [atA] at hoS
      refine aiA ?_
      repeat' (first|(refine oLA ?_;first|refine wBk ?_|refine wOp ?_|(refine wCm ?_ ?_<;>intro hc)|(refine wNl hK ?_;clear hK K))|refine wG ?_|(refine wCR ?_;intro K hK)|refine wPh ?_|fail)
      repeat' (first|(refine oLA ?_;first|refine a0A rfl ?_|(refine oD 55 ?_; refine a4A (hK _ _ (eiA (f := 193) (fun w' => Ext w0 w' ∧ coA w0 w' b cap n (Go.Sort.siftDown Go.Sort.ltInt i lo 0 (Go.Sort.swp D2 lo (lo + i)))) (fun w' e => by rw [show (((i + 1 : Nat) : Int) - 1) = (i : Int) by omega]; exact l8A (heS.trans e) (hoS.ext e) (by rw [swp_size]; omega) 0 i lo (by omega) (by rw [swp_size]; omega) (by rw [swp_size]; omega)) rfl (by decide) rfl rfl rfl rfl rfl (fun w3 hw3 => ?_))); clear hK K; obtain ⟨he3, ho3⟩ := hw3)|refine wOp ?_|(refine wCm ?_ ?_<;>intro hc)|(refine wNl hK ?_;clear hK K))|refine wG ?_|(refine wCR ?_;intro K hK)|fail)
      exact a7A (i, Go.Sort.siftDown Go.Sort.ltInt i lo 0 (Go.Sort.swp D2 lo (lo + i))) (fun w5 e5 => ⟨he3.trans e5, by dsimp only; omega, (sift_size _ _ _ (Nat.le_refl _)).trans ((swp_size _ _ _).trans hs2), ho3.ext e5, hr2⟩) (by dsimp only; omega) (by repeat' (first | exact Sub.nil | refine Sub.val rfl (by first | with_reducible rfl | (congr 1; omega)) ?_ | refine Sub.same rfl ?_))
    | zero =>
      rw [Go.Sort.heapPop] at hr2
      repeat' (first|(refine oLA ?_;first|refine a0A rfl ?_|refine wOp ?_|(refine wCm ?_ ?_<;>intro hc)|(refine wNl hK ?_;clear hK K))|refine wG ?_|(refine wCR ?_;intro K hK)|fail)
      exact b2A rfl (fun w5 e5 => ⟨rfl, he2.trans e5, hr2 ▸ ho2.ext e5⟩) (.inl rfl)
set_option maxHeartbeats 4000000 in
theorem u9A {w0 w : World} {b cap n : Nat} {D : Array Int} (he0 : Ext w0 w) (ho0 : coA w0 w b cap n D) (hn : n = D.size) (lo hi : Nat) (h1 : lo < hi) (h2 : hi ≤ D.size) (hb : D.size < 4611686018427387904) :
    Fc Tryz.prog 159 #[.slice (some ⟨b, 0, none⟩) n cap, .int .i64 lo, .int .i64 hi] w (s0A w0 b cap n (Go.Sort.reverseRange D lo hi)) := by
  unfold Go.Sort.reverseRange
  refine Fc.of (args := [_, _, _]) Tryz.func159 rfl rfl Tryz.ntmps159 (Nat.le_of_ble_eq_true rfl) ?_
  repeat' (first|(refine oLA ?_;first|refine a0A rfl ?_|refine wOp ?_|(refine wCm ?_ ?_<;>intro hc)|(refine wNl hK ?_;clear hK K))|refine wG ?_|(refine wCR ?_;intro K hK)|fail)
  rw [show ((hi : Int) - 1) = ((hi - 1 : Nat) : Int) by omega]
  refine ahA (ι := Nat × Nat × Array Int) (fun i => [(0, .val (.slice (some ⟨b, 0, none⟩) n cap)), (6, .val (.int .i64 (i.1 : Int))), (7, .val (.int .i64 (i.2.1 : Int)))])
    (fun i w' => Ext w0 w' ∧ i.1 ≤ hi ∧ i.2.1 < hi ∧ i.2.2.size = D.size ∧ coA w0 w' b cap n i.2.2 ∧ Go.Sort.reverseLoop i.1 i.2.1 i.2.2 = Go.Sort.reverseLoop lo (hi - 1) D) (fun i => i.2.1 - i.1)
    (fun w2 e2 => ⟨(lo, hi - 1, D), ⟨he0.trans e2, by dsimp only; omega, by dsimp only; omega, rfl, ho0.ext e2, rfl⟩, (by repeat' (first | exact Sub.nil | refine Sub.val rfl (by first | with_reducible rfl | (congr 1; omega)) ?_ | refine Sub.same rfl ?_))⟩) ?_
  rintro ⟨i, j, D1⟩ w1 ⟨he1, hi0, hj0, hs1, ho1, hr1⟩
  dsimp only at hi0 hj0 hs1 ho1 hr1 ⊢
  have hl1 := apA D1
  by_cases hlt : i < j
  · rw [Go.Sort.reverseLoop, if_pos hlt] at hr1
    repeat' (first|(refine oLA ?_;first|refine wBk ?_|(refine oI ?_; refine a6A rfl rfl (fun _ => rfl) rfl rfl _ rfl (by omega) ?_)|(refine oL ?_; refine aeA ho1 rfl (fun _ => rfl) rfl (by omega) ?_; rw [cbA])|refine wOp ?_|(refine wCm ?_ ?_<;>intro hc)|(refine wNl hK ?_;clear hK K))|(refine oCX ?_;first|refine ajA (id := 3) [13, 15] (by kernel_rfl) (by kernel_rfl) (by kernel_rfl) (a5A ?_))|refine wG ?_|(refine wCR ?_;intro K hK)|refine wPh ?_|fail)
    refine afA (j := i) rfl he1 ho1 rfl rfl (by omega) (fun _ => rfl) (fun wS1 heS1 hoS1 => ?_)
    refine a5A ?_
    repeat' (first|(refine oLA ?_;first|refine wBk ?_|(refine oD 27 ?_; refine a6A rfl rfl (fun _ => rfl) rfl rfl (j) (by omega) (by omega) ?_)|refine wOp ?_|(refine wCm ?_ ?_<;>intro hc)|(refine wNl hK ?_;clear hK K))|refine wG ?_|(refine wCR ?_;intro K hK)|refine wPh ?_|fail)
    refine afA (j := j) rfl heS1 hoS1 rfl rfl (by rw [List.length_set]; omega) (fun _ => rfl) (fun wS heS hoS => ?_)
    rw [atA] at hoS
    refine aiA ?_
    repeat' (first|(refine oLA ?_;first|refine wBk ?_|refine wOp ?_|(refine wCm ?_ ?_<;>intro hc)|(refine wNl hK ?_;clear hK K))|refine wG ?_|(refine wCR ?_;intro K hK)|refine wPh ?_|fail)
    exact a7A (i + 1, j - 1, Go.Sort.swp D1 i j) (fun w5 e5 => ⟨heS.trans e5, by dsimp only; omega, by dsimp only; omega, by dsimp only; rw [swp_size]; exact hs1, hoS.ext e5, hr1⟩) (by dsimp only; omega) (by dsimp only; exact (by repeat' (first | exact Sub.nil | refine Sub.val rfl (by first | with_reducible rfl | (congr 1; omega)) ?_ | refine Sub.same rfl ?_)))
  · rw [Go.Sort.reverseLoop, if_neg hlt] at hr1
    repeat' (first|(refine oLA ?_;first|refine a0A rfl ?_|refine wOp ?_|(refine wCm ?_ ?_<;>intro hc)|(refine wNl hK ?_;clear hK K))|refine wG ?_|(refine wCR ?_;intro K hK)|fail)
    exact b2A rfl (fun w5 e5 => ⟨rfl, he1.trans e5, hr1 ▸ ho1.ext e5⟩) (.inl rfl)
set_option maxHeartbeats 8000000 in
theorem qrA {w0 w : World} {b cap n : Nat} {D0 : Array Int} (he0 : Ext w0 w) (ho0 : coA w0 w b cap n D0) (hn : n = D0.size) (lo hi pv : Nat) (h1 : lo ≤ pv) (h2 : pv < hi) (h3 : hi ≤ D0.size) (hb : D0.size < 4611686018427387904) :
    Fc Tryz.prog 163 #[.slice (some ⟨b, 0, none⟩) n cap, .int .i64 lo, .int .i64 hi, .int .i64 pv] w (fun e w' => e = .returned (.tuple #[.int .i64 ((Go.Sort.partition Go.Sort.ltInt D0 lo hi pv).1 : Int), .bool (Go.Sort.partition Go.Sort.ltInt D0 lo hi pv).2.1]) ∧ Ext w0 w' ∧ coA w0 w' b cap n (Go.Sort.partition Go.Sort.ltInt D0 lo hi pv).2.2) := by
  have hl0 := apA D0
  refine Fc.of (args := [_, _, _, _]) Tryz.func163 rfl rfl Tryz.ntmps163 (Nat.le_of_ble_eq_true rfl) ?_
  repeat' (first|(refine oLA ?_;first|refine wBk ?_|(refine oI ?_; refine a6A rfl rfl (fun _ => rfl) rfl rfl _ rfl (by omega) ?_)|(refine oL ?_; refine aeA ho0 rfl (fun _ => rfl) rfl (by omega) ?_; rw [cbA])|refine wOp ?_|(refine wCm ?_ ?_<;>intro hc)|(refine wNl hK ?_;clear hK K))|(refine oCX ?_;first|refine ajA (id := 1) [13, 15] (by kernel_rfl) (by kernel_rfl) (by kernel_rfl) (a5A ?_))|refine wG ?_|(refine wCR ?_;intro K hK)|refine wPh ?_|fail)
  refine afA (j := lo) rfl he0 ho0 rfl rfl (by omega) (fun _ => rfl) (fun wS1 heS1 hoS1 => ?_)
  refine a5A ?_
  repeat' (first|(refine oLA ?_;first|refine wBk ?_|(refine oD 25 ?_; refine a6A rfl rfl (fun _ => rfl) rfl rfl (pv) (by omega) (by omega) ?_)|refine wOp ?_|(refine wCm ?_ ?_<;>intro hc)|(refine wNl hK ?_;clear hK K))|refine wG ?_|(refine wCR ?_;intro K hK)|refine wPh ?_|fail)
  refine afA (j := pv) rfl heS1 hoS1 rfl rfl (by rw [List.length_set]; omega) (fun _ => rfl) (fun wS heS hoS => ?_)
  rw [atA] at hoS
  obtain ⟨D, hD⟩ : ∃ D, D = Go.Sort.swp D0 lo pv := ⟨_, rfl⟩
  rw [← hD] at hoS
  have hs : D.size = D0.size := by rw [hD, swp_size]
  have hl := apA D
  obtain ⟨i2, hi2⟩ : ∃ i2, i2 = Go.Sort.scanUp (fun x => Go.Sort.ltInt x D[lo]!) D (hi - 1) (lo + 1) := ⟨_, rfl⟩
  obtain ⟨j2, hj2⟩ : ∃ j2, j2 = Go.Sort.scanDown (fun x => !Go.Sort.ltInt x D[lo]!) D i2 (hi - 1) := ⟨_, rfl⟩
  have bi2 := d0A (fun x => Go.Sort.ltInt x D[lo]!) D (hi - 1) _ (lo + 1) (Nat.le_refl _)
  have bj2 := caA (fun x => !Go.Sort.ltInt x D[lo]!) D i2 (hi - 1)
  rw [← hi2] at bi2; rw [← hj2] at bj2
  have hpe := nuA (lt := Go.Sort.ltInt) hD hi2 hj2
  refine aiA ?_
  repeat' (first|(refine oLA ?_;first|refine wBk ?_|(refine oD 27 ?_; refine ayA rfl rfl rfl (by dsimp only [fits]; omega) ?_; rw [show ((lo : Int) + 1) = ((lo + 1 : Nat) : Int) by omega])|(refine oD 29 ?_; refine a9A rfl rfl rfl (by dsimp only [fits]; omega) ?_; rw [show ((hi : Int) - 1) = ((hi - 1 : Nat) : Int) by omega])|(refine oI ?_; refine a6A rfl rfl (fun _ => rfl) rfl rfl _ rfl (by omega) ?_)|(refine oL ?_; refine aeA hoS rfl (fun _ => rfl) rfl (by omega) ?_; rw [cbA])|refine wOp ?_|(refine wCm ?_ ?_<;>intro hc)|(refine wNl hK ?_;clear hK K))|(refine oCX ?_;first|refine d8A 0 [(0, .val (.slice (some ⟨b, 0, none⟩) n cap)), (1, .val (.int .i64 lo)), (2, .val (.int .i64 hi)), (10, .val (.int .i64 ((i2 : Nat) : Int))), (11, .val (.int .i64 ((hi - 1 : Nat) : Int)))] ?_ ?_|refine d8A 2 [(0, .val (.slice (some ⟨b, 0, none⟩) n cap)), (1, .val (.int .i64 lo)), (2, .val (.int .i64 hi)), (10, .val (.int .i64 ((i2 : Nat) : Int))), (11, .val (.int .i64 ((j2 : Nat) : Int)))] ?_ ?_|refine ajA (id := 8) [13, 15] (by kernel_rfl) (by kernel_rfl) (by kernel_rfl) (a5A ?_)|refine ajA (id := 10) [13, 15] (by kernel_rfl) (by kernel_rfl) (by kernel_rfl) (a5A ?_))|refine wG ?_|(refine wCR ?_;intro K hK)|refine wPh ?_|fail)
  · have q0 : True := trivial
    refine b8A (ι := Nat) (fun i => [(0, .val (.slice (some ⟨b, 0, none⟩) n cap)), (1, .val (.int .i64 lo)), (2, .val (.int .i64 hi)), (10, .val (.int .i64 (i : Int))), (11, .val (.int .i64 ((hi - 1 : Nat) : Int)))])
      (fun i => lo + 1 ≤ i ∧ i ≤ max (lo + 1) (hi - 1 + 1) ∧ Go.Sort.scanUp (fun x => Go.Sort.ltInt x D[lo]!) D (hi - 1) i = i2) (fun i => hi - 1 + 1 - i) (lo + 1) ⟨Nat.le_refl _, by omega, by rw [hi2]⟩ (by repeat' (first | exact Sub.nil | refine Sub.val rfl (by first | with_reducible rfl | (congr 1; omega)) ?_ | refine Sub.same rfl ?_)) ?_
    rintro i ⟨g1, g2, g3⟩
    have hl5 := apA D
    by_cases hij : i ≤ hi - 1
    · cases hp : Go.Sort.ltInt D[i]! D[lo]!
      · rw [bbA (p := fun x => Go.Sort.ltInt x D[lo]!) (d := D) (.inr hp)] at g3
        repeat' (first|(refine oLA ?_;first|refine a0A rfl ?_|(refine oI ?_; refine a6A rfl rfl (fun _ => rfl) rfl rfl _ rfl (by omega) ?_)|(refine oL ?_; refine aeA hoS rfl (fun _ => rfl) rfl (by omega) ?_; rw [cbA])|refine wOp ?_|(refine wCm ?_ ?_<;>intro hc)|(refine oCv ?_;first|(refine oC 161 ?_; refine a3A (f := 161) rfl rfl rfl rfl  (.val (.bool false)) (by intro u1 u2 w e hu1 hu2; (try obtain rfl : u1 = _ := hu1); (try obtain rfl : u2 = _ := hu2); exact agA (by rw [hp]) (auA _ _ _)) ?_))|(refine wNl hK ?_;clear hK K))|refine wG ?_|(refine wCR ?_;intro K hK)|fail)
        (subst g3; exact boA (by repeat' (first | exact Sub.nil | refine Sub.val rfl (by first | with_reducible rfl | (congr 1; omega)) ?_ | refine Sub.same rfl ?_)))
      · rw [scanUp_go (p := fun x => Go.Sort.ltInt x D[lo]!) (d := D) hij hp] at g3
        repeat' (first|(refine oLA ?_;first|refine a0A rfl ?_|(refine oI ?_; refine a6A rfl rfl (fun _ => rfl) rfl rfl _ rfl (by omega) ?_)|(refine oL ?_; refine aeA hoS rfl (fun _ => rfl) rfl (by omega) ?_; rw [cbA])|refine wOp ?_|(refine wCm ?_ ?_<;>intro hc)|(refine oCv ?_;first|(refine oC 161 ?_; refine a3A (f := 161) rfl rfl rfl rfl  (.val (.bool true)) (by intro u1 u2 w e hu1 hu2; (try obtain rfl : u1 = _ := hu1); (try obtain rfl : u2 = _ := hu2); exact agA (by rw [hp]) (auA _ _ _)) ?_))|(refine wNl hK ?_;clear hK K))|refine wG ?_|(refine wCR ?_;intro K hK)|fail)
        exact bpA (i + 1) ⟨by omega, by omega, g3⟩ (by omega) (by repeat' (first | exact Sub.nil | refine Sub.val rfl (by first | with_reducible rfl | (congr 1; omega)) ?_ | refine Sub.same rfl ?_))
    · rw [bbA (p := fun x => Go.Sort.ltInt x D[lo]!) (d := D) (.inl hij)] at g3
      subst g3
      repeat' (first|(refine oLA ?_;first|refine a0A rfl ?_|refine wOp ?_|(refine wCm ?_ ?_<;>intro hc)|(refine wNl hK ?_;clear hK K))|refine wG ?_|(refine wCR ?_;intro K hK)|fail)
      exact boA (by repeat' (first | exact Sub.nil | refine Sub.val rfl (by first | with_reducible rfl | (congr 1; omega)) ?_ | refine Sub.same rfl ?_))
  · have q0 : True := trivial
    refine b8A (ι := Nat) (fun j => [(0, .val (.slice (some ⟨b, 0, none⟩) n cap)), (1, .val (.int .i64 lo)), (2, .val (.int .i64 hi)), (10, .val (.int .i64 ((i2 : Nat) : Int))), (11, .val (.int .i64 (j : Int)))])
      (fun j => (i2 ≤ j + 1 ∨ j = hi - 1) ∧ j ≤ hi - 1 ∧ Go.Sort.scanDown (fun x => !Go.Sort.ltInt x D[lo]!) D (i2) j = j2) (fun j => j) (hi - 1) ⟨.inr rfl, Nat.le_refl _, by rw [hj2]⟩ (by repeat' (first | exact Sub.nil | refine Sub.val rfl (by first | with_reducible rfl | (congr 1; omega)) ?_ | refine Sub.same rfl ?_)) ?_
    rintro j ⟨g1, g2, g3⟩
    have hl5 := apA D
    by_cases hij : i2 ≤ j
    · obtain ⟨j, rfl⟩ : ∃ k, j = k + 1 := ⟨j - 1, by omega⟩
      cases hp : Go.Sort.ltInt D[j + 1]! D[lo]!
      · rw [scanDown_go (p := fun x => !Go.Sort.ltInt x D[lo]!) (d := D) hij (by show (!_) = true; rw [hp]; rfl)] at g3
        repeat' (first|(refine oLA ?_;first|refine a0A rfl ?_|(refine oI ?_; refine a6A rfl rfl (fun _ => rfl) rfl rfl _ rfl (by omega) ?_)|(refine oL ?_; refine aeA hoS rfl (fun _ => rfl) rfl (by omega) ?_; rw [cbA])|refine wOp ?_|(refine wCm ?_ ?_<;>intro hc)|(refine oCv ?_;first|(refine oC 161 ?_; refine a3A (f := 161) rfl rfl rfl rfl  (.val (.bool false)) (by intro u1 u2 w e hu1 hu2; (try obtain rfl : u1 = _ := hu1); (try obtain rfl : u2 = _ := hu2); exact agA (by rw [hp]) (auA _ _ _)) ?_))|(refine wNl hK ?_;clear hK K))|refine wG ?_|(refine wCR ?_;intro K hK)|fail)
        exact bpA j ⟨by omega, by omega, g3⟩ (by omega) (by repeat' (first | exact Sub.nil | refine Sub.val rfl (by first | with_reducible rfl | (congr 1; omega)) ?_ | refine Sub.same rfl ?_))
      · rw [b1A (p := fun x => !Go.Sort.ltInt x D[lo]!) (d := D) (.inr (by show (!_) = false; rw [hp]; rfl))] at g3
        repeat' (first|(refine oLA ?_;first|refine a0A rfl ?_|(refine oI ?_; refine a6A rfl rfl (fun _ => rfl) rfl rfl _ rfl (by omega) ?_)|(refine oL ?_; refine aeA hoS rfl (fun _ => rfl) rfl (by omega) ?_; rw [cbA])|refine wOp ?_|(refine wCm ?_ ?_<;>intro hc)|(refine oCv ?_;first|(refine oC 161 ?_; refine a3A (f := 161) rfl rfl rfl rfl  (.val (.bool true)) (by intro u1 u2 w e hu1 hu2; (try obtain rfl : u1 = _ := hu1); (try obtain rfl : u2 = _ := hu2); exact agA (by rw [hp]) (auA _ _ _)) ?_))|(refine wNl hK ?_;clear hK K))|refine wG ?_|(refine wCR ?_;intro K hK)|fail)
        (subst g3; exact boA (by repeat' (first | exact Sub.nil | refine Sub.val rfl (by first | with_reducible rfl | (congr 1; omega)) ?_ | refine Sub.same rfl ?_)))
    · rw [b1A (p := fun x => !Go.Sort.ltInt x D[lo]!) (d := D) (.inl hij)] at g3
      subst g3
      repeat' (first|(refine oLA ?_;first|refine a0A rfl ?_|refine wOp ?_|(refine wCm ?_ ?_<;>intro hc)|(refine wNl hK ?_;clear hK K))|refine wG ?_|(refine wCR ?_;intro K hK)|fail)
      exact boA (by repeat' (first | exact Sub.nil | refine Sub.val rfl (by first | with_reducible rfl | (congr 1; omega)) ?_ | refine Sub.same rfl ?_))
  · rw [if_pos (show i2 > j2 by omega)] at hpe
    rw [hpe]
    refine afA (j := j2) rfl heS hoS rfl rfl (by omega) (fun _ => rfl) (fun wS1 heS1 hoS1 => ?_)
    refine a5A ?_
    repeat' (first|(refine oLA ?_;first|refine wBk ?_|(refine oD 79 ?_; refine a6A rfl rfl (fun _ => rfl) rfl rfl (lo) (by omega) (by omega) ?_)|refine wOp ?_|(refine wCm ?_ ?_<;>intro hc)|(refine wNl hK ?_;clear hK K))|refine wG ?_|(refine wCR ?_;intro K hK)|refine wPh ?_|fail)
    refine afA (j := lo) rfl heS1 hoS1 rfl rfl (by rw [List.length_set]; omega) (fun _ => rfl) (fun wS heS hoS => ?_)
    rw [atA] at hoS
    refine aiA ?_
    repeat' (first|(refine oLA ?_;first|refine wBk ?_|refine wOp ?_|(refine wCm ?_ ?_<;>intro hc)|(refine wNl hK ?_;clear hK K))|refine wG ?_|(refine wCR ?_;intro K hK)|refine wPh ?_|fail)
    exact dqA rfl (fun x y w5 e5 hx hy => by obtain rfl : x = _ := hx; obtain rfl : y = _ := hy; exact ⟨rfl, Ext.trans (by assumption) e5, OwnI.ext (by assumption) e5⟩)
  · rw [if_neg (show ¬ i2 > j2 by omega)] at hpe
    rw [hpe]
    refine afA (j := i2) rfl heS hoS rfl rfl (by omega) (fun _ => rfl) (fun wS1 heS1 hoS1 => ?_)
    refine a5A ?_
    repeat' (first|(refine oLA ?_;first|refine wBk ?_|(refine oD 94 ?_; refine a6A rfl rfl (fun _ => rfl) rfl rfl (j2) (by omega) (by omega) ?_)|refine wOp ?_|(refine wCm ?_ ?_<;>intro hc)|(refine wNl hK ?_;clear hK K))|refine wG ?_|(refine wCR ?_;intro K hK)|refine wPh ?_|fail)
    refine afA (j := j2) rfl heS1 hoS1 rfl rfl (by rw [List.length_set]; omega) (fun _ => rfl) (fun wS heS hoS => ?_)
    rw [atA] at hoS
    obtain ⟨R, hR⟩ : ∃ R, R = Go.Sort.partLoop Go.Sort.ltInt lo (i2 + 1) (j2 - 1) (Go.Sort.swp D i2 j2) := ⟨_, rfl⟩
    rw [← hR]
    refine aiA ?_
    repeat' (first|(refine oLA ?_;first|refine wBk ?_|refine wOp ?_|(refine wCm ?_ ?_<;>intro hc)|(refine wNl hK ?_;clear hK K))|refine wG ?_|(refine wCR ?_;intro K hK)|refine wPh ?_|fail)
    refine ahA (ι := Nat × Nat × Array Int) (fun i => [(0, .val (.slice (some ⟨b, 0, none⟩) n cap)), (1, .val (.int .i64 lo)), (2, .val (.int .i64 hi)), (10, .val (.int .i64 (i.1 : Int))), (11, .val (.int .i64 (i.2.1 : Int)))])
      (fun i w' => Ext w0 w' ∧ i.2.2.size = D0.size ∧ coA w0 w' b cap n i.2.2 ∧ lo + 1 ≤ i.1 ∧ i.1 ≤ i.2.1 + 2 ∧ lo ≤ i.2.1 ∧ i.2.1 ≤ hi - 1 ∧ Go.Sort.partLoop Go.Sort.ltInt lo i.1 i.2.1 i.2.2 = R) (fun i => i.2.1 + 2 - i.1)
      (fun w2 e2 => ⟨(i2 + 1, j2 - 1, Go.Sort.swp D i2 j2), ⟨heS.trans e2, by dsimp only; rw [swp_size]; exact hs, hoS.ext e2, by dsimp only; omega, by dsimp only; omega, by dsimp only; omega, by dsimp only; omega, hR.symm⟩, by dsimp only; exact (by repeat' (first | exact Sub.nil | refine Sub.val rfl (by first | with_reducible rfl | (congr 1; omega)) ?_ | refine Sub.same rfl ?_))⟩) ?_
    rintro ⟨ii, jj, D1⟩ w1 ⟨he1, hs1, ho1, c1, c2, c3, c4, c5⟩
    dsimp only at hs1 ho1 c1 c2 c3 c4 c5 ⊢
    have hl1 := apA D1
    obtain ⟨i3, hi3⟩ : ∃ i3, i3 = Go.Sort.scanUp (fun x => Go.Sort.ltInt x D1[lo]!) D1 jj ii := ⟨_, rfl⟩
    obtain ⟨j3, hj3⟩ : ∃ j3, j3 = Go.Sort.scanDown (fun x => !Go.Sort.ltInt x D1[lo]!) D1 i3 jj := ⟨_, rfl⟩
    have bi3 := d0A (fun x => Go.Sort.ltInt x D1[lo]!) D1 jj _ ii (Nat.le_refl _)
    have bj3 := caA (fun x => !Go.Sort.ltInt x D1[lo]!) D1 i3 jj
    rw [← hi3] at bi3; rw [← hj3] at bj3
    have hpl := partLoop_eq (lt := Go.Sort.ltInt) (a := lo) hi3 hj3 (by omega)
    rw [hpl] at c5
    clear hpl hpe hR heS hoS heS1 hoS1 hD hi2 hj2 bi2 bj2
    repeat' (first|(refine oLA ?_;first|refine wBk ?_|(refine oI ?_; refine a6A rfl rfl (fun _ => rfl) rfl rfl _ rfl (by omega) ?_)|(refine oL ?_; refine aeA ho1 rfl (fun _ => rfl) rfl (by omega) ?_; rw [cbA])|refine wOp ?_|(refine wCm ?_ ?_<;>intro hc)|(refine wNl hK ?_;clear hK K))|(refine oCX ?_;first|refine d8A 6 [(0, .val (.slice (some ⟨b, 0, none⟩) n cap)), (1, .val (.int .i64 lo)), (2, .val (.int .i64 hi)), (10, .val (.int .i64 ((i3 : Nat) : Int))), (11, .val (.int .i64 ((jj : Nat) : Int)))] ?_ ?_|refine d8A 8 [(0, .val (.slice (some ⟨b, 0, none⟩) n cap)), (1, .val (.int .i64 lo)), (2, .val (.int .i64 hi)), (10, .val (.int .i64 ((i3 : Nat) : Int))), (11, .val (.int .i64 ((j3 : Nat) : Int)))] ?_ ?_|refine ajA (id := 18) [13, 15] (by kernel_rfl) (by kernel_rfl) (by kernel_rfl) (a5A ?_)|refine ajA (id := 21) [13, 15] (by kernel_rfl) (by kernel_rfl) (by kernel_rfl) (a5A ?_))|refine wG ?_|(refine wCR ?_;intro K hK)|refine wPh ?_|fail)
    · have q0 : True := trivial
      refine b8A (ι := Nat) (fun i => [(0, .val (.slice (some ⟨b, 0, none⟩) n cap)), (1, .val (.int .i64 lo)), (2, .val (.int .i64 hi)), (10, .val (.int .i64 (i : Int))), (11, .val (.int .i64 ((jj : Nat) : Int)))])
        (fun i => ii ≤ i ∧ i ≤ max (ii) (jj + 1) ∧ Go.Sort.scanUp (fun x => Go.Sort.ltInt x D1[lo]!) D1 (jj) i = i3) (fun i => jj + 1 - i) (ii) ⟨Nat.le_refl _, by omega, by rw [hi3]⟩ (by repeat' (first | exact Sub.nil | refine Sub.val rfl (by first | with_reducible rfl | (congr 1; omega)) ?_ | refine Sub.same rfl ?_)) ?_
      rintro i ⟨g1, g2, g3⟩
      have hl5 := apA D1
      by_cases hij : i ≤ jj
      · cases hp : Go.Sort.ltInt D1[i]! D1[lo]!
        · rw [bbA (p := fun x => Go.Sort.ltInt x D1[lo]!) (d := D1) (.inr hp)] at g3
          repeat' (first|(refine oLA ?_;first|refine a0A rfl ?_|(refine oI ?_; refine a6A rfl rfl (fun _ => rfl) rfl rfl _ rfl (by omega) ?_)|(refine oL ?_; refine aeA ho1 rfl (fun _ => rfl) rfl (by omega) ?_; rw [cbA])|refine wOp ?_|(refine wCm ?_ ?_<;>intro hc)|(refine oCv ?_;first|(refine oC 161 ?_; refine a3A (f := 161) rfl rfl rfl rfl  (.val (.bool false)) (by intro u1 u2 w e hu1 hu2; (try obtain rfl : u1 = _ := hu1); (try obtain rfl : u2 = _ := hu2); exact agA (by rw [hp]) (auA _ _ _)) ?_))|(refine wNl hK ?_;clear hK K))|refine wG ?_|(refine wCR ?_;intro K hK)|fail)
          (subst g3; exact boA (by repeat' (first | exact Sub.nil | refine Sub.val rfl (by first | with_reducible rfl | (congr 1; omega)) ?_ | refine Sub.same rfl ?_)))
        · rw [scanUp_go (p := fun x => Go.Sort.ltInt x D1[lo]!) (d := D1) hij hp] at g3
          repeat' (first|(refine oLA ?_;first|refine a0A rfl ?_|(refine oI ?_; refine a6A rfl rfl (fun _ => rfl) rfl rfl _ rfl (by omega) ?_)|(refine oL ?_; refine aeA ho1 rfl (fun _ => rfl) rfl (by omega) ?_; rw [cbA])|refine wOp ?_|(refine wCm ?_ ?_<;>intro hc)|(refine oCv ?_;first|(refine oC 161 ?_; refine a3A (f := 161) rfl rfl rfl rfl  (.val (.bool true)) (by intro u1 u2 w e hu1 hu2; (try obtain rfl : u1 = _ := hu1); (try obtain rfl : u2 = _ := hu2); exact agA (by rw [hp]) (auA _ _ _)) ?_))|(refine wNl hK ?_;clear hK K))|refine wG ?_|(refine wCR ?_;intro K hK)|fail)
          exact bpA (i + 1) ⟨by omega, by omega, g3⟩ (by omega) (by repeat' (first | exact Sub.nil | refine Sub.val rfl (by first | with_reducible rfl | (congr 1; omega)) ?_ | refine Sub.same rfl ?_))
      · rw [bbA (p := fun x => Go.Sort.ltInt x D1[lo]!) (d := D1) (.inl hij)] at g3
        subst g3
        repeat' (first|(refine oLA ?_;first|refine a0A rfl ?_|refine wOp ?_|(refine wCm ?_ ?_<;>intro hc)|(refine wNl hK ?_;clear hK K))|refine wG ?_|(refine wCR ?_;intro K hK)|fail)
        exact boA (by repeat' (first | exact Sub.nil | refine Sub.val rfl (by first | with_reducible rfl | (congr 1; omega)) ?_ | refine Sub.same rfl ?_))
    · have q0 : True := trivial
      refine b8A (ι := Nat) (fun j => [(0, .val (.slice (some ⟨b, 0, none⟩) n cap)), (1, .val (.int .i64 lo)), (2, .val (.int .i64 hi)), (10, .val (.int .i64 ((i3 : Nat) : Int))), (11, .val (.int .i64 (j : Int)))])
        (fun j => (i3 ≤ j + 1 ∨ j = jj) ∧ j ≤ jj ∧ Go.Sort.scanDown (fun x => !Go.Sort.ltInt x D1[lo]!) D1 (i3) j = j3) (fun j => j) (jj) ⟨.inr rfl, Nat.le_refl _, by rw [hj3]⟩ (by repeat' (first | exact Sub.nil | refine Sub.val rfl (by first | with_reducible rfl | (congr 1; omega)) ?_ | refine Sub.same rfl ?_)) ?_
      rintro j ⟨g1, g2, g3⟩
      have hl5 := apA D1
      by_cases hij : i3 ≤ j
      · obtain ⟨j, rfl⟩ : ∃ k, j = k + 1 := ⟨j - 1, by omega⟩
        cases hp : Go.Sort.ltInt D1[j + 1]! D1[lo]!
        · rw [scanDown_go (p := fun x => !Go.Sort.ltInt x D1[lo]!) (d := D1) hij (by show (!_) = true; rw [hp]; rfl)] at g3
          repeat' (first|(refine oLA ?_;first|refine a0A rfl ?_|(refine oI ?_; refine a6A rfl rfl (fun _ => rfl) rfl rfl _ rfl (by omega) ?_)|(refine oL ?_; refine aeA ho1 rfl (fun _ => rfl) rfl (by omega) ?_; rw [cbA])|refine wOp ?_|(refine wCm ?_ ?_<;>intro hc)|(refine oCv ?_;first|(refine oC 161 ?_; refine a3A (f := 161) rfl rfl rfl rfl  (.val (.bool false)) (by intro u1 u2 w e hu1 hu2; (try obtain rfl : u1 = _ := hu1); (try obtain rfl : u2 = _ := hu2); exact agA (by rw [hp]) (auA _ _ _)) ?_))|(refine wNl hK ?_;clear hK K))|refine wG ?_|(refine wCR ?_;intro K hK)|fail)
          exact bpA j ⟨by omega, by omega, g3⟩ (by omega) (by repeat' (first | exact Sub.nil | refine Sub.val rfl (by first | with_reducible rfl | (congr 1; omega)) ?_ | refine Sub.same rfl ?_))
        · rw [b1A (p := fun x => !Go.Sort.ltInt x D1[lo]!) (d := D1) (.inr (by show (!_) = false; rw [hp]; rfl))] at g3
          repeat' (first|(refine oLA ?_;first|refine a0A rfl ?_|(refine oI ?_; refine a6A rfl rfl (fun _ => rfl) rfl rfl _ rfl (by omega) ?_)|(refine oL ?_; refine aeA ho1 rfl (fun _ => rfl) rfl (by omega) ?_; rw [cbA])|refine wOp ?_|(refine wCm ?_ ?_<;>intro hc)|(refine oCv ?_;first|(refine oC 161 ?_; refine a3A (f := 161) rfl rfl rfl rfl  (.val (.bool true)) (by intro u1 u2 w e hu1 hu2; (try obtain rfl : u1 = _ := hu1); (try obtain rfl : u2 = _ := hu2); exact agA (by rw [hp]) (auA _ _ _)) ?_))|(refine wNl hK ?_;clear hK K))|refine wG ?_|(refine wCR ?_;intro K hK)|fail)
          (subst g3; exact boA (by repeat' (first | exact Sub.nil | refine Sub.val rfl (by first | with_reducible rfl | (congr 1; omega)) ?_ | refine Sub.same rfl ?_)))
      · rw [b1A (p := fun x => !Go.Sort.ltInt x D1[lo]!) (d := D1) (.inl hij)] at g3
        subst g3
        repeat' (first|(refine oLA ?_;first|refine a0A rfl ?_|refine wOp ?_|(refine wCm ?_ ?_<;>intro hc)|(refine wNl hK ?_;clear hK K))|refine wG ?_|(refine wCR ?_;intro K hK)|fail)
        exact boA (by repeat' (first | exact Sub.nil | refine Sub.val rfl (by first | with_reducible rfl | (congr 1; omega)) ?_ | refine Sub.same rfl ?_))
    · rw [if_pos (show i3 > j3 by omega)] at c5
      subst c5
      refine afA (j := j3) rfl he1 ho1 rfl rfl (by omega) (fun _ => rfl) (fun wS1 heS1 hoS1 => ?_)
      refine a5A ?_
      repeat' (first|(refine oLA ?_;first|refine wBk ?_|(refine oD 166 ?_; refine a6A rfl rfl (fun _ => rfl) rfl rfl (lo) (by omega) (by omega) ?_)|refine wOp ?_|(refine wCm ?_ ?_<;>intro hc)|(refine wNl hK ?_;clear hK K))|refine wG ?_|(refine wCR ?_;intro K hK)|refine wPh ?_|fail)
      refine afA (j := lo) rfl heS1 hoS1 rfl rfl (by rw [List.length_set]; omega) (fun _ => rfl) (fun wS heS hoS => ?_)
      rw [atA] at hoS
      refine aiA ?_
      repeat' (first|(refine oLA ?_;first|refine wBk ?_|refine wOp ?_|(refine wCm ?_ ?_<;>intro hc)|(refine wNl hK ?_;clear hK K))|refine wG ?_|(refine wCR ?_;intro K hK)|refine wPh ?_|fail)
      exact dqA rfl (fun x y w5 e5 hx hy => by obtain rfl : x = _ := hx; obtain rfl : y = _ := hy; exact ⟨rfl, Ext.trans (by assumption) e5, OwnI.ext (by assumption) e5⟩)
    · rw [if_neg (show ¬ i3 > j3 by omega)] at c5
      refine afA (j := i3) rfl he1 ho1 rfl rfl (by omega) (fun _ => rfl) (fun wS1 heS1 hoS1 => ?_)
      refine a5A ?_
      repeat' (first|(refine oLA ?_;first|refine wBk ?_|(refine oD 148 ?_; refine a6A rfl rfl (fun _ => rfl) rfl rfl (j3) (by omega) (by omega) ?_)|refine wOp ?_|(refine wCm ?_ ?_<;>intro hc)|(refine wNl hK ?_;clear hK K))|refine wG ?_|(refine wCR ?_;intro K hK)|refine wPh ?_|fail)
      refine afA (j := j3) rfl heS1 hoS1 rfl rfl (by rw [List.length_set]; omega) (fun _ => rfl) (fun wS heS hoS => ?_)
      rw [atA] at hoS
      refine aiA ?_
      repeat' (first|(refine oLA ?_;first|refine wBk ?_|refine wOp ?_|(refine wCm ?_ ?_<;>intro hc)|(refine wNl hK ?_;clear hK K))|refine wG ?_|(refine wCR ?_;intro K hK)|refine wPh ?_|fail)
      exact a7A (i3 + 1, j3 - 1, Go.Sort.swp D1 i3 j3) (fun w5 e5 => ⟨heS.trans e5, by dsimp only; rw [swp_size]; exact hs1, hoS.ext e5, by dsimp only; omega, by dsimp only; omega, by dsimp only; omega, by dsimp only; omega, c5⟩) (by dsimp only; omega) (by dsimp only; exact (by repeat' (first | exact Sub.nil | refine Sub.val rfl (by first | with_reducible rfl | (congr 1; omega)) ?_ | refine Sub.same rfl ?_)))
set_option maxHeartbeats 8000000 in
theorem nvA {w0 w : World} {b cap n : Nat} {D0 : Array Int} (he0 : Ext w0 w) (ho0 : coA w0 w b cap n D0) (hn : n = D0.size) (lo hi pv : Nat) (h1 : lo ≤ pv) (h2 : pv < hi) (h3 : hi ≤ D0.size) (hb : D0.size < 4611686018427387904) :
    Fc Tryz.prog 162 #[.slice (some ⟨b, 0, none⟩) n cap, .int .i64 lo, .int .i64 hi, .int .i64 pv] w (fun e w' => e = .returned (.int .i64 ((Go.Sort.partitionEqual Go.Sort.ltInt D0 lo hi pv).1 : Int)) ∧ Ext w0 w' ∧ coA w0 w' b cap n (Go.Sort.partitionEqual Go.Sort.ltInt D0 lo hi pv).2) := by
  have hl0 := apA D0
  unfold Go.Sort.partitionEqual
  refine Fc.of (args := [_, _, _, _]) Tryz.func162 rfl rfl Tryz.ntmps162 (Nat.le_of_ble_eq_true rfl) ?_
  repeat' (first|(refine oLA ?_;first|refine wBk ?_|(refine oI ?_; refine a6A rfl rfl (fun _ => rfl) rfl rfl _ rfl (by omega) ?_)|(refine oL ?_; refine aeA ho0 rfl (fun _ => rfl) rfl (by omega) ?_; rw [cbA])|refine wOp ?_|(refine wCm ?_ ?_<;>intro hc)|(refine wNl hK ?_;clear hK K))|(refine oCX ?_;first|refine ajA (id := 1) [13, 15] (by kernel_rfl) (by kernel_rfl) (by kernel_rfl) (a5A ?_))|refine wG ?_|(refine wCR ?_;intro K hK)|refine wPh ?_|fail)
  refine afA (j := lo) rfl he0 ho0 rfl rfl (by omega) (fun _ => rfl) (fun wS1 heS1 hoS1 => ?_)
  refine a5A ?_
  repeat' (first|(refine oLA ?_;first|refine wBk ?_|(refine oD 24 ?_; refine a6A rfl rfl (fun _ => rfl) rfl rfl (pv) (by omega) (by omega) ?_)|refine wOp ?_|(refine wCm ?_ ?_<;>intro hc)|(refine wNl hK ?_;clear hK K))|refine wG ?_|(refine wCR ?_;intro K hK)|refine wPh ?_|fail)
  refine afA (j := pv) rfl heS1 hoS1 rfl rfl (by rw [List.length_set]; omega) (fun _ => rfl) (fun wS heS hoS => ?_)
  rw [atA] at hoS
  obtain ⟨D, hD⟩ : ∃ D, D = Go.Sort.swp D0 lo pv := ⟨_, rfl⟩
  rw [← hD] at hoS ⊢
  have hs : D.size = D0.size := by rw [hD, swp_size]
  obtain ⟨R, hR⟩ : ∃ R, R = Go.Sort.partEqLoop Go.Sort.ltInt lo (lo + 1) (hi - 1) D := ⟨_, rfl⟩
  rw [← hR]
  refine aiA ?_
  repeat' (first|(refine oLA ?_;first|refine wBk ?_|(refine oD 26 ?_; refine ayA rfl rfl rfl (by dsimp only [fits]; omega) ?_; rw [show ((lo : Int) + 1) = ((lo + 1 : Nat) : Int) by omega])|(refine oD 28 ?_; refine a9A rfl rfl rfl (by dsimp only [fits]; omega) ?_; rw [show ((hi : Int) - 1) = ((hi - 1 : Nat) : Int) by omega])|refine wOp ?_|(refine wCm ?_ ?_<;>intro hc)|(refine wNl hK ?_;clear hK K))|refine wG ?_|(refine wCR ?_;intro K hK)|refine wPh ?_|fail)
  refine ahA (ι := Nat × Nat × Array Int) (fun i => [(0, .val (.slice (some ⟨b, 0, none⟩) n cap)), (1, .val (.int .i64 lo)), (2, .val (.int .i64 hi)), (9, .val (.int .i64 (i.1 : Int))), (10, .val (.int .i64 (i.2.1 : Int)))])
    (fun i w' => Ext w0 w' ∧ i.2.2.size = D0.size ∧ coA w0 w' b cap n i.2.2 ∧ lo + 1 ≤ i.1 ∧ i.1 ≤ i.2.1 + 2 ∧ lo ≤ i.2.1 ∧ i.2.1 ≤ hi - 1 ∧ Go.Sort.partEqLoop Go.Sort.ltInt lo i.1 i.2.1 i.2.2 = R) (fun i => i.2.1 + 2 - i.1)
    (fun w2 e2 => ⟨(lo + 1, hi - 1, D), ⟨heS.trans e2, hs, hoS.ext e2, by dsimp only; omega, by dsimp only; omega, by dsimp only; omega, by dsimp only; omega, hR.symm⟩, by dsimp only; exact (by repeat' (first | exact Sub.nil | refine Sub.val rfl (by first | with_reducible rfl | (congr 1; omega)) ?_ | refine Sub.same rfl ?_))⟩) ?_
  rintro ⟨ii, jj, D1⟩ w1 ⟨he1, hs1, ho1, c1, c2, c3, c4, c5⟩
  dsimp only at hs1 ho1 c1 c2 c3 c4 c5 ⊢
  have hl1 := apA D1
  obtain ⟨i3, hi3⟩ : ∃ i3, i3 = Go.Sort.scanUp (fun x => !Go.Sort.ltInt D1[lo]! x) D1 jj ii := ⟨_, rfl⟩
  obtain ⟨j3, hj3⟩ : ∃ j3, j3 = Go.Sort.scanDown (fun x => Go.Sort.ltInt D1[lo]! x) D1 i3 jj := ⟨_, rfl⟩
  have bi3 := d0A (fun x => !Go.Sort.ltInt D1[lo]! x) D1 jj _ ii (Nat.le_refl _)
  have bj3 := caA (fun x => Go.Sort.ltInt D1[lo]! x) D1 i3 jj
  rw [← hi3] at bi3; rw [← hj3] at bj3
  have hpl := partEqLoop_eq (lt := Go.Sort.ltInt) (a := lo) hi3 hj3 (by omega)
  rw [hpl] at c5
  clear hpl hR heS hoS heS1 hoS1 hD
  repeat' (first|(refine oLA ?_;first|refine wBk ?_|(refine oI ?_; refine a6A rfl rfl (fun _ => rfl) rfl rfl _ rfl (by omega) ?_)|(refine oL ?_; refine aeA ho1 rfl (fun _ => rfl) rfl (by omega) ?_; rw [cbA])|refine wOp ?_|(refine wCm ?_ ?_<;>intro hc)|(refine wNl hK ?_;clear hK K))|(refine oCX ?_;first|refine d8A 2 [(0, .val (.slice (some ⟨b, 0, none⟩) n cap)), (1, .val (.int .i64 lo)), (2, .val (.int .i64 hi)), (9, .val (.int .i64 ((i3 : Nat) : Int))), (10, .val (.int .i64 ((jj : Nat) : Int)))] ?_ ?_|refine d8A 4 [(0, .val (.slice (some ⟨b, 0, none⟩) n cap)), (1, .val (.int .i64 lo)), (2, .val (.int .i64 hi)), (9, .val (.int .i64 ((i3 : Nat) : Int))), (10, .val (.int .i64 ((j3 : Nat) : Int)))] ?_ ?_|refine ajA (id := 8) [13, 15] (by kernel_rfl) (by kernel_rfl) (by kernel_rfl) (a5A ?_))|refine wG ?_|(refine wCR ?_;intro K hK)|refine wPh ?_|fail)
  · have q0 : True := trivial
    refine b8A (ι := Nat) (fun i => [(0, .val (.slice (some ⟨b, 0, none⟩) n cap)), (1, .val (.int .i64 lo)), (2, .val (.int .i64 hi)), (9, .val (.int .i64 (i : Int))), (10, .val (.int .i64 ((jj : Nat) : Int)))])
      (fun i => ii ≤ i ∧ i ≤ max (ii) (jj + 1) ∧ Go.Sort.scanUp (fun x => !Go.Sort.ltInt D1[lo]! x) D1 (jj) i = i3) (fun i => jj + 1 - i) (ii) ⟨Nat.le_refl _, by omega, by rw [hi3]⟩ (by repeat' (first | exact Sub.nil | refine Sub.val rfl (by first | with_reducible rfl | (congr 1; omega)) ?_ | refine Sub.same rfl ?_)) ?_
    rintro i ⟨g1, g2, g3⟩
    have hl5 := apA D1
    by_cases hij : i ≤ jj
    · cases hp : Go.Sort.ltInt D1[lo]! D1[i]!
      · rw [scanUp_go (p := fun x => !Go.Sort.ltInt D1[lo]! x) (d := D1) hij (by show (!_) = true; rw [hp]; rfl)] at g3
        repeat' (first|(refine oLA ?_;first|refine a0A rfl ?_|(refine oI ?_; refine a6A rfl rfl (fun _ => rfl) rfl rfl _ rfl (by omega) ?_)|(refine oL ?_; refine aeA ho1 rfl (fun _ => rfl) rfl (by omega) ?_; rw [cbA])|refine wOp ?_|(refine wCm ?_ ?_<;>intro hc)|(refine oCv ?_;first|(refine oC 161 ?_; refine a3A (f := 161) rfl rfl rfl rfl  (.val (.bool false)) (by intro u1 u2 w e hu1 hu2; (try obtain rfl : u1 = _ := hu1); (try obtain rfl : u2 = _ := hu2); exact agA (by rw [hp]) (auA _ _ _)) ?_))|(refine wNl hK ?_;clear hK K))|refine wG ?_|(refine wCR ?_;intro K hK)|fail)
        exact bpA (i + 1) ⟨by omega, by omega, g3⟩ (by omega) (by repeat' (first | exact Sub.nil | refine Sub.val rfl (by first | with_reducible rfl | (congr 1; omega)) ?_ | refine Sub.same rfl ?_))
      · rw [bbA (p := fun x => !Go.Sort.ltInt D1[lo]! x) (d := D1) (.inr (by show (!_) = false; rw [hp]; rfl))] at g3
        repeat' (first|(refine oLA ?_;first|refine a0A rfl ?_|(refine oI ?_; refine a6A rfl rfl (fun _ => rfl) rfl rfl _ rfl (by omega) ?_)|(refine oL ?_; refine aeA ho1 rfl (fun _ => rfl) rfl (by omega) ?_; rw [cbA])|refine wOp ?_|(refine wCm ?_ ?_<;>intro hc)|(refine oCv ?_;first|(refine oC 161 ?_; refine a3A (f := 161) rfl rfl rfl rfl  (.val (.bool true)) (by intro u1 u2 w e hu1 hu2; (try obtain rfl : u1 = _ := hu1); (try obtain rfl : u2 = _ := hu2); exact agA (by rw [hp]) (auA _ _ _)) ?_))|(refine wNl hK ?_;clear hK K))|refine wG ?_|(refine wCR ?_;intro K hK)|fail)
        (subst g3; exact boA (by repeat' (first | exact Sub.nil | refine Sub.val rfl (by first | with_reducible rfl | (congr 1; omega)) ?_ | refine Sub.same rfl ?_)))
    · rw [bbA (p := fun x => !Go.Sort.ltInt D1[lo]! x) (d := D1) (.inl hij)] at g3
      subst g3
      repeat' (first|(refine oLA ?_;first|refine a0A rfl ?_|refine wOp ?_|(refine wCm ?_ ?_<;>intro hc)|(refine wNl hK ?_;clear hK K))|refine wG ?_|(refine wCR ?_;intro K hK)|fail)
      exact boA (by repeat' (first | exact Sub.nil | refine Sub.val rfl (by first | with_reducible rfl | (congr 1; omega)) ?_ | refine Sub.same rfl ?_))
  · have q0 : True := trivial
    refine b8A (ι := Nat) (fun j => [(0, .val (.slice (some ⟨b, 0, none⟩) n cap)), (1, .val (.int .i64 lo)), (2, .val (.int .i64 hi)), (9, .val (.int .i64 ((i3 : Nat) : Int))), (10, .val (.int .i64 (j : Int)))])
      (fun j => (i3 ≤ j + 1 ∨ j = jj) ∧ j ≤ jj ∧ Go.Sort.scanDown (fun x => Go.Sort.ltInt D1[lo]! x) D1 (i3) j = j3) (fun j => j) (jj) ⟨.inr rfl, Nat.le_refl _, by rw [hj3]⟩ (by repeat' (first | exact Sub.nil | refine Sub.val rfl (by first | with_reducible rfl | (congr 1; omega)) ?_ | refine Sub.same rfl ?_)) ?_
    rintro j ⟨g1, g2, g3⟩
    have hl5 := apA D1
    by_cases hij : i3 ≤ j
    · obtain ⟨j, rfl⟩ : ∃ k, j = k + 1 := ⟨j - 1, by omega⟩
      cases hp : Go.Sort.ltInt D1[lo]! D1[j + 1]!
      · rw [b1A (p := fun x => Go.Sort.ltInt D1[lo]! x) (d := D1) (.inr hp)] at g3
        repeat' (first|(refine oLA ?_;first|refine a0A rfl ?_|(refine oI ?_; refine a6A rfl rfl (fun _ => rfl) rfl rfl _ rfl (by omega) ?_)|(refine oL ?_; refine aeA ho1 rfl (fun _ => rfl) rfl (by omega) ?_; rw [cbA])|refine wOp ?_|(refine wCm ?_ ?_<;>intro hc)|(refine oCv ?_;first|(refine oC 161 ?_; refine a3A (f := 161) rfl rfl rfl rfl  (.val (.bool false)) (by intro u1 u2 w e hu1 hu2; (try obtain rfl : u1 = _ := hu1); (try obtain rfl : u2 = _ := hu2); exact agA (by rw [hp]) (auA _ _ _)) ?_))|(refine wNl hK ?_;clear hK K))|refine wG ?_|(refine wCR ?_;intro K hK)|fail)
        (subst g3; exact boA (by repeat' (first | exact Sub.nil | refine Sub.val rfl (by first | with_reducible rfl | (congr 1; omega)) ?_ | refine Sub.same rfl ?_)))
      · rw [scanDown_go (p := fun x => Go.Sort.ltInt D1[lo]! x) (d := D1) hij hp] at g3
        repeat' (first|(refine oLA ?_;first|refine a0A rfl ?_|(refine oI ?_; refine a6A rfl rfl (fun _ => rfl) rfl rfl _ rfl (by omega) ?_)|(refine oL ?_; refine aeA ho1 rfl (fun _ => rfl) rfl (by omega) ?_; rw [cbA])|refine wOp ?_|(refine wCm ?_ ?_<;>intro hc)|(refine oCv ?_;first|(refine oC 161 ?_; refine a3A (f := 161) rfl rfl rfl rfl  (.val (.bool true)) (by intro u1 u2 w e hu1 hu2; (try obtain rfl : u1 = _ := hu1); (try obtain rfl : u2 = _ := hu2); exact agA (by rw [hp]) (auA _ _ _)) ?_))|(refine wNl hK ?_;clear hK K))|refine wG ?_|(refine wCR ?_;intro K hK)|fail)
        exact bpA j ⟨by omega, by omega, g3⟩ (by omega) (by repeat' (first | exact Sub.nil | refine Sub.val rfl (by first | with_reducible rfl | (congr 1; omega)) ?_ | refine Sub.same rfl ?_))
    · rw [b1A (p := fun x => Go.Sort.ltInt D1[lo]! x) (d := D1) (.inl hij)] at g3
      subst g3
      repeat' (first|(refine oLA ?_;first|refine a0A rfl ?_|refine wOp ?_|(refine wCm ?_ ?_<;>intro hc)|(refine wNl hK ?_;clear hK K))|refine wG ?_|(refine wCR ?_;intro K hK)|fail)
      exact boA (by repeat' (first | exact Sub.nil | refine Sub.val rfl (by first | with_reducible rfl | (congr 1; omega)) ?_ | refine Sub.same rfl ?_))
  · rw [if_pos (show i3 > j3 by omega)] at c5
    subst c5
    repeat' (first|(refine oLA ?_;first|refine a0A rfl ?_|refine wOp ?_|(refine wCm ?_ ?_<;>intro hc)|(refine wNl hK ?_;clear hK K))|refine wG ?_|(refine wCR ?_;intro K hK)|fail)
    exact blA rfl (fun x w5 e5 hx => by obtain rfl : x = _ := hx; exact ⟨rfl, Ext.trans (by assumption) e5, OwnI.ext (by assumption) e5⟩)
  · rw [if_neg (show ¬ i3 > j3 by omega)] at c5
    refine afA (j := i3) rfl he1 ho1 rfl rfl (by omega) (fun _ => rfl) (fun wS1 heS1 hoS1 => ?_)
    refine a5A ?_
    repeat' (first|(refine oLA ?_;first|refine wBk ?_|(refine oD 78 ?_; refine a6A rfl rfl (fun _ => rfl) rfl rfl (j3) (by omega) (by omega) ?_)|refine wOp ?_|(refine wCm ?_ ?_<;>intro hc)|(refine wNl hK ?_;clear hK K))|refine wG ?_|(refine wCR ?_;intro K hK)|refine wPh ?_|fail)
    refine afA (j := j3) rfl heS1 hoS1 rfl rfl (by rw [List.length_set]; omega) (fun _ => rfl) (fun wS heS hoS => ?_)
    rw [atA] at hoS
    refine aiA ?_
    repeat' (first|(refine oLA ?_;first|refine wBk ?_|refine wOp ?_|(refine wCm ?_ ?_<;>intro hc)|(refine wNl hK ?_;clear hK K))|refine wG ?_|(refine wCR ?_;intro K hK)|refine wPh ?_|fail)
    exact a7A (i3 + 1, j3 - 1, Go.Sort.swp D1 i3 j3) (fun w5 e5 => ⟨heS.trans e5, by dsimp only; rw [swp_size]; exact hs1, hoS.ext e5, by dsimp only; omega, by dsimp only; omega, by dsimp only; omega, by dsimp only; omega, c5⟩) (by dsimp only; omega) (by dsimp only; exact (by repeat' (first | exact Sub.nil | refine Sub.val rfl (by first | with_reducible rfl | (congr 1; omega)) ?_ | refine Sub.same rfl ?_)))
set_option maxHeartbeats 16000000 in
theorem qnA {w0 w : World} {b cap n : Nat} {D0 : Array Int} (he0 : Ext w0 w) (ho0 : coA w0 w b cap n D0) (hn : n = D0.size) (lo hi : Nat) (h1 : lo < hi) (h2 : hi ≤ D0.size) (hb : D0.size < 4611686018427387904) :
    Fc Tryz.prog 160 #[.slice (some ⟨b, 0, none⟩) n cap, .int .i64 lo, .int .i64 hi] w (fun e w' => e = .returned (.bool (Go.Sort.partialInsertionSort Go.Sort.ltInt D0 lo hi).2) ∧ Ext w0 w' ∧ coA w0 w' b cap n (Go.Sort.partialInsertionSort Go.Sort.ltInt D0 lo hi).1) := by
  unfold Go.Sort.partialInsertionSort
  obtain ⟨R, hR⟩ : ∃ R, R = Go.Sort.partialIns Go.Sort.ltInt lo hi 5 (lo + 1) D0 := ⟨_, rfl⟩
  rw [← hR]
  refine Fc.of (args := [_, _, _]) Tryz.func160 rfl rfl Tryz.ntmps160 (Nat.le_of_ble_eq_true rfl) ?_
  repeat' (first|(refine oLA ?_;first|refine a0A rfl ?_|(refine oD 12 ?_; refine ayA rfl rfl rfl (by dsimp only [fits]; omega) ?_; rw [show ((lo : Int) + 1) = ((lo + 1 : Nat) : Int) by omega])|refine wOp ?_|(refine wCm ?_ ?_<;>intro hc)|(refine wNl hK ?_;clear hK K))|refine wG ?_|(refine wCR ?_;intro K hK)|fail)
  refine ahA (ι := Nat × Nat × Array Int) (fun i => [(0, .val (.slice (some ⟨b, 0, none⟩) n cap)), (1, .val (.int .i64 lo)), (2, .val (.int .i64 hi)), (6, .val (.bool false)), (7, .val (.int .i64 (i.2.1 : Int))), (8, .val (.int .i64 (5 - (i.1 : Int))))])
    (fun i w' => Ext w0 w' ∧ i.1 ≤ 5 ∧ i.2.2.size = D0.size ∧ coA w0 w' b cap n i.2.2 ∧ lo + 1 ≤ i.2.1 ∧ i.2.1 ≤ hi ∧ Go.Sort.partialIns Go.Sort.ltInt lo hi i.1 i.2.1 i.2.2 = R) (fun i => i.1)
    (fun w2 e2 => ⟨(5, lo + 1, D0), ⟨he0.trans e2, Nat.le_refl _, rfl, ho0.ext e2, Nat.le_refl _, by dsimp only; omega, hR.symm⟩, by dsimp only; exact (by repeat' (first | exact Sub.nil | refine Sub.val rfl (by first | with_reducible rfl | (congr 1; omega)) ?_ | refine Sub.same rfl ?_))⟩) ?_
  rintro ⟨s, ii, D⟩ w1 ⟨he1, hs5, hs1, ho1, c1, c2, c3⟩
  dsimp only at hs5 hs1 ho1 c1 c2 c3 ⊢
  have hl1 := apA D
  cases s with
  | zero =>
    rw [Go.Sort.partialIns] at c3
    subst c3
    repeat' (first|(refine oLA ?_;first|refine a0A rfl ?_|refine wOp ?_|(refine wCm ?_ ?_<;>intro hc)|(refine wNl hK ?_;clear hK K))|refine wG ?_|(refine wCR ?_;intro K hK)|fail)
    exact blA rfl (fun x w5 e5 hx => by obtain rfl : x = _ := hx; exact ⟨rfl, Ext.trans (by assumption) e5, OwnI.ext (by assumption) e5⟩)
  | succ s =>
  obtain ⟨i3, hi3⟩ : ∃ i3, i3 = Go.Sort.scanSorted Go.Sort.ltInt D hi ii := ⟨_, rfl⟩
  have bi3 := Go.Sort.scanSorted_bd (lt := Go.Sort.ltInt) (d := D) (b := hi) _ ii (Nat.le_refl _) c2
  rw [← hi3] at bi3
  repeat' (first|(refine oLA ?_;first|refine wBk ?_|(refine oI ?_; refine a6A rfl rfl (fun _ => rfl) rfl rfl _ rfl (by omega) ?_)|(refine oL ?_; refine aeA ho1 rfl (fun _ => rfl) rfl (by omega) ?_; rw [cbA])|(refine oD 46 ?_; refine a9A rfl rfl rfl (by dsimp only [fits]; omega) ?_; rw [show ((i3 : Int) - 1) = ((i3 - 1 : Nat) : Int) by omega])|(refine oD 49 ?_; refine a9A rfl rfl rfl (by dsimp only [fits]; omega) ?_; rw [show ((i3 : Int) - 1) = ((i3 - 1 : Nat) : Int) by omega])|refine wOp ?_|(refine wCm ?_ ?_<;>intro hc)|(refine wNl hK ?_;clear hK K))|(refine oCX ?_;first|refine d8A 2 [(0, .val (.slice (some ⟨b, 0, none⟩) n cap)), (1, .val (.int .i64 lo)), (2, .val (.int .i64 hi)), (6, .val (.bool false)), (7, .val (.int .i64 (i3 : Nat))), (8, .val (.int .i64 (5 - ((s + 1 : Nat) : Int))))] ?_ ?_|refine ajA (id := 11) [15, 17] (by kernel_rfl) (by kernel_rfl) (by kernel_rfl) (a5A ?_))|refine wG ?_|(refine wCR ?_;intro K hK)|refine wPh ?_|fail)
  · refine b8A (ι := Nat) (fun i => [(0, .val (.slice (some ⟨b, 0, none⟩) n cap)), (1, .val (.int .i64 lo)), (2, .val (.int .i64 hi)), (6, .val (.bool false)), (7, .val (.int .i64 (i : Nat))), (8, .val (.int .i64 (5 - ((s + 1 : Nat) : Int))))])
      (fun i => ii ≤ i ∧ i ≤ hi ∧ Go.Sort.scanSorted Go.Sort.ltInt D hi i = i3) (fun i => hi - i) ii ⟨Nat.le_refl _, c2, by rw [hi3]⟩ (by repeat' (first | exact Sub.nil | refine Sub.val rfl (by first | with_reducible rfl | (congr 1; omega)) ?_ | refine Sub.same rfl ?_)) ?_
    rintro i ⟨g1, g2, g3⟩
    by_cases hij : i < hi
    · cases hp : Go.Sort.ltInt D[i]! D[i - 1]!
      · rw [Go.Sort.scanSorted_go hij hp] at g3
        repeat' (first|(refine oLA ?_;first|refine a0A rfl ?_|(refine oD 27 ?_; refine a9A rfl rfl rfl (by dsimp only [fits]; omega) ?_; rw [show ((i : Int) - 1) = ((i - 1 : Nat) : Int) by omega])|(refine oI ?_; refine a6A rfl rfl (fun _ => rfl) rfl rfl _ rfl (by omega) ?_)|(refine oL ?_; refine aeA ho1 rfl (fun _ => rfl) rfl (by omega) ?_; rw [cbA])|refine wOp ?_|(refine wCm ?_ ?_<;>intro hc)|(refine oCv ?_;first|(refine oC 161 ?_; refine a3A (f := 161) rfl rfl rfl rfl  (.val (.bool false)) (by intro u1 u2 w e hu1 hu2; (try obtain rfl : u1 = _ := hu1); (try obtain rfl : u2 = _ := hu2); exact agA (by rw [hp]) (auA _ _ _)) ?_))|(refine wNl hK ?_;clear hK K))|refine wG ?_|(refine wCR ?_;intro K hK)|fail)
        exact bpA (i + 1) ⟨by omega, by omega, g3⟩ (by omega) (by repeat' (first | exact Sub.nil | refine Sub.val rfl (by first | with_reducible rfl | (congr 1; omega)) ?_ | refine Sub.same rfl ?_))
      · rw [Go.Sort.scanSorted_stop (.inr hp)] at g3
        subst g3
        repeat' (first|(refine oLA ?_;first|refine a0A rfl ?_|(refine oD 27 ?_; refine a9A rfl rfl rfl (by dsimp only [fits]; omega) ?_; rw [show ((i : Int) - 1) = ((i - 1 : Nat) : Int) by omega])|(refine oI ?_; refine a6A rfl rfl (fun _ => rfl) rfl rfl _ rfl (by omega) ?_)|(refine oL ?_; refine aeA ho1 rfl (fun _ => rfl) rfl (by omega) ?_; rw [cbA])|refine wOp ?_|(refine wCm ?_ ?_<;>intro hc)|(refine oCv ?_;first|(refine oC 161 ?_; refine a3A (f := 161) rfl rfl rfl rfl  (.val (.bool true)) (by intro u1 u2 w e hu1 hu2; (try obtain rfl : u1 = _ := hu1); (try obtain rfl : u2 = _ := hu2); exact agA (by rw [hp]) (auA _ _ _)) ?_))|(refine wNl hK ?_;clear hK K))|refine wG ?_|(refine wCR ?_;intro K hK)|fail)
        exact boA (by repeat' (first | exact Sub.nil | refine Sub.val rfl (by first | with_reducible rfl | (congr 1; omega)) ?_ | refine Sub.same rfl ?_))
    · rw [Go.Sort.scanSorted_stop (.inl hij)] at g3
      subst g3
      repeat' (first|(refine oLA ?_;first|refine a0A rfl ?_|refine wOp ?_|(refine wCm ?_ ?_<;>intro hc)|(refine wNl hK ?_;clear hK K))|refine wG ?_|(refine wCR ?_;intro K hK)|fail)
      exact boA (by repeat' (first | exact Sub.nil | refine Sub.val rfl (by first | with_reducible rfl | (congr 1; omega)) ?_ | refine Sub.same rfl ?_))
  · skip
    rw [Go.Sort.pI_end hi3 (by omega)] at c3
    subst c3
    exact blA rfl (fun x w5 e5 hx => by obtain rfl : x = _ := hx; exact ⟨rfl, Ext.trans (by assumption) e5, OwnI.ext (by assumption) e5⟩)
  · skip
    rw [Go.Sort.pI_short hi3 (by omega) (by omega)] at c3
    subst c3
    exact blA rfl (fun x w5 e5 hx => by obtain rfl : x = _ := hx; exact ⟨rfl, Ext.trans (by assumption) e5, OwnI.ext (by assumption) e5⟩)
  · skip
    refine afA (j := i3) rfl he1 ho1 rfl rfl (by omega) (fun _ => rfl) (fun wS1 heS1 hoS1 => ?_)
    refine a5A ?_
    repeat' (first|(refine oLA ?_;first|refine wBk ?_|(refine oD 57 ?_; refine a6A rfl rfl (fun _ => rfl) rfl rfl ((i3 - 1)) (by omega) (by omega) ?_)|(refine oD 46 ?_; refine a9A rfl rfl rfl (by dsimp only [fits]; omega) ?_; rw [show ((i3 : Int) - 1) = ((i3 - 1 : Nat) : Int) by omega])|refine wOp ?_|(refine wCm ?_ ?_<;>intro hc)|(refine wNl hK ?_;clear hK K))|refine wG ?_|(refine wCR ?_;intro K hK)|refine wPh ?_|fail)
    refine afA (j := (i3 - 1)) rfl heS1 hoS1 rfl rfl (by rw [List.length_set]; omega) (fun _ => rfl) (fun wS heS hoS => ?_)
    rw [atA] at hoS
    obtain ⟨D2, e2⟩ : ∃ D2, D2 = Go.Sort.swp D i3 (i3 - 1) := ⟨_, rfl⟩
    obtain ⟨D3, e3⟩ : ∃ D3, D3 = if i3 - lo ≥ 2 then Go.Sort.shiftDown Go.Sort.ltInt (i3 - 1) D2 else D2 := ⟨_, rfl⟩
    obtain ⟨D4, e4⟩ : ∃ D4, D4 = if hi - i3 ≥ 2 then Go.Sort.shiftUp Go.Sort.ltInt hi (i3 + 1) D3 else D3 := ⟨_, rfl⟩
    rw [Go.Sort.pI_go hi3 (by omega) (by omega) e2 e3 e4] at c3
    rw [← e2] at hoS
    have hs2 : D2.size = D0.size := by rw [e2, swp_size]; exact hs1
    have hs3 : D3.size = D0.size := by rw [e3]; split; exact (Go.Sort.shiftDown_size _ _).trans hs2; exact hs2
    have hs4 : D4.size = D0.size := by rw [e4]; split; exact (Go.Sort.shiftUp_size _ _ _ (Nat.le_refl _)).trans hs3; exact hs3
    refine aiA ?_
    repeat' (first|(refine oLA ?_;first|refine wBk ?_|(refine oD 63 ?_; refine a9A rfl rfl rfl (by dsimp only [fits]; omega) ?_; rw [show ((i3 : Int) - 1) = ((i3 - 1 : Nat) : Int) by omega])|refine wOp ?_|(refine wCm ?_ ?_<;>intro hc)|(refine wNl hK ?_;clear hK K))|(refine oCX ?_;first|refine cqA (id := 12) (ι := Unit) (fun _ => [(0, .val (.slice (some ⟨b, 0, none⟩) n cap)), (1, .val (.int .i64 lo)), (2, .val (.int .i64 hi)), (6, .val (.bool false)), (7, .val (.int .i64 (i3 : Nat))), (8, .val (.int .i64 (5 - ((s + 1 : Nat) : Int))))]) (fun _ w' => Ext w0 w' ∧ coA w0 w' b cap n D3) ?_ ?_)|refine wG ?_|(refine wCR ?_;intro K hK)|refine wPh ?_|fail)
    · skip
      rw [if_pos (by omega)] at e3
      refine ahA (ι := Nat × Array Int) (fun i => [(0, .val (.slice (some ⟨b, 0, none⟩) n cap)), (1, .val (.int .i64 lo)), (2, .val (.int .i64 hi)), (6, .val (.bool false)), (7, .val (.int .i64 (i3 : Nat))), (8, .val (.int .i64 (5 - ((s + 1 : Nat) : Int)))), (9, .val (.int .i64 (i.1 : Int)))])
        (fun i w' => Ext w0 w' ∧ i.1 ≤ i3 - 1 ∧ i.2.size = D0.size ∧ coA w0 w' b cap n i.2 ∧ Go.Sort.shiftDown Go.Sort.ltInt i.1 i.2 = D3) (fun i => i.1)
        (fun w2 e2 => ⟨(i3 - 1, D2), ⟨heS.trans e2, Nat.le_refl _, hs2, hoS.ext e2, e3.symm⟩, by dsimp only; exact (by repeat' (first | exact Sub.nil | refine Sub.val rfl (by first | with_reducible rfl | (congr 1; omega)) ?_ | refine Sub.same rfl ?_))⟩) ?_
      rintro ⟨j, D5⟩ w5 ⟨he5, hj5, hs5', ho5, hr5⟩
      dsimp only at hj5 hs5' ho5 hr5 ⊢
      have hl5 := apA D5
      clear heS hoS heS1 hoS1
      cases j with
      | zero =>
        rw [Go.Sort.shiftDown] at hr5
        subst hr5
        repeat' (first|(refine oLA ?_;first|refine a0A rfl ?_|refine wOp ?_|(refine wCm ?_ ?_<;>intro hc)|(refine wNl hK ?_;clear hK K))|refine wG ?_|(refine wCR ?_;intro K hK)|fail)
        exact a7A () (fun w6 e6 => ⟨he5.trans e6, ho5.ext e6⟩) (by omega) (by repeat' (first | exact Sub.nil | refine Sub.val rfl (by first | with_reducible rfl | (congr 1; omega)) ?_ | refine Sub.same rfl ?_))
      | succ j =>
        rw [Go.Sort.shiftDown] at hr5
        cases hp : Go.Sort.ltInt D5[j + 1]! D5[j]!
        · rw [hp, if_pos (by rfl)] at hr5
          subst hr5
          repeat' (first|(refine oLA ?_;first|refine a0A rfl ?_|(refine oD 74 ?_; refine a9A rfl rfl rfl (by dsimp only [fits]; omega) ?_; rw [show (((j + 1 : Nat) : Int) - 1) = (j : Int) by omega])|(refine oI ?_; refine a6A rfl rfl (fun _ => rfl) rfl rfl _ rfl (by omega) ?_)|(refine oL ?_; refine aeA ho5 rfl (fun _ => rfl) rfl (by omega) ?_; rw [cbA])|refine wOp ?_|(refine wCm ?_ ?_<;>intro hc)|(refine oCv ?_;first|(refine oC 161 ?_; refine a3A (f := 161) rfl rfl rfl rfl  (.val (.bool false)) (by intro u1 u2 w e hu1 hu2; (try obtain rfl : u1 = _ := hu1); (try obtain rfl : u2 = _ := hu2); exact agA (by rw [hp]) (auA _ _ _)) ?_))|(refine wNl hK ?_;clear hK K))|refine wG ?_|(refine wCR ?_;intro K hK)|fail)
          exact a7A () (fun w6 e6 => ⟨he5.trans e6, ho5.ext e6⟩) (by omega) (by repeat' (first | exact Sub.nil | refine Sub.val rfl (by first | with_reducible rfl | (congr 1; omega)) ?_ | refine Sub.same rfl ?_))
        · rw [hp, if_neg (by simp)] at hr5
          repeat' (first|(refine oLA ?_;first|refine wBk ?_|(refine oD 74 ?_; refine a9A rfl rfl rfl (by dsimp only [fits]; omega) ?_; rw [show (((j + 1 : Nat) : Int) - 1) = (j : Int) by omega])|(refine oD 83 ?_; refine a9A rfl rfl rfl (by dsimp only [fits]; omega) ?_; rw [show (((j + 1 : Nat) : Int) - 1) = (j : Int) by omega])|(refine oD 86 ?_; refine a9A rfl rfl rfl (by dsimp only [fits]; omega) ?_; rw [show (((j + 1 : Nat) : Int) - 1) = (j : Int) by omega])|(refine oI ?_; refine a6A rfl rfl (fun _ => rfl) rfl rfl _ rfl (by omega) ?_)|(refine oL ?_; refine aeA ho5 rfl (fun _ => rfl) rfl (by omega) ?_; rw [cbA])|refine wOp ?_|(refine wCm ?_ ?_<;>intro hc)|(refine oCv ?_;first|(refine oC 161 ?_; refine a3A (f := 161) rfl rfl rfl rfl  (.val (.bool true)) (by intro u1 u2 w e hu1 hu2; (try obtain rfl : u1 = _ := hu1); (try obtain rfl : u2 = _ := hu2); exact agA (by rw [hp]) (auA _ _ _)) ?_))|(refine wNl hK ?_;clear hK K))|(refine oCX ?_;first|refine ajA (id := 17) [15, 17] (by kernel_rfl) (by kernel_rfl) (by kernel_rfl) (a5A ?_))|refine wG ?_|(refine wCR ?_;intro K hK)|refine wPh ?_|fail)
          refine afA (j := (j + 1)) rfl he5 ho5 rfl rfl (by omega) (fun _ => rfl) (fun wS1 heS1 hoS1 => ?_)
          refine a5A ?_
          repeat' (first|(refine oLA ?_;first|refine wBk ?_|(refine oD 94 ?_; refine a6A rfl rfl (fun _ => rfl) rfl rfl (j) (by omega) (by omega) ?_)|(refine oD 83 ?_; refine a9A rfl rfl rfl (by dsimp only [fits]; omega) ?_; rw [show (((j + 1 : Nat) : Int) - 1) = (j : Int) by omega])|refine wOp ?_|(refine wCm ?_ ?_<;>intro hc)|(refine wNl hK ?_;clear hK K))|refine wG ?_|(refine wCR ?_;intro K hK)|refine wPh ?_|fail)
          refine afA (j := j) rfl heS1 hoS1 rfl rfl (by rw [List.length_set]; omega) (fun _ => rfl) (fun wS heS hoS => ?_)
          rw [atA] at hoS
          refine aiA ?_
          repeat' (first|(refine oLA ?_;first|refine wBk ?_|(refine oD 67 ?_; refine a9A rfl rfl rfl (by dsimp only [fits]; omega) ?_; rw [show (((j + 1 : Nat) : Int) - 1) = (j : Int) by omega])|refine wOp ?_|(refine wCm ?_ ?_<;>intro hc)|(refine wNl hK ?_;clear hK K))|refine wG ?_|(refine wCR ?_;intro K hK)|refine wPh ?_|fail)
          exact a7A (j, Go.Sort.swp D5 (j + 1) j) (fun w6 e6 => ⟨heS.trans e6, by dsimp only; omega, by dsimp only; rw [swp_size]; exact hs5', hoS.ext e6, hr5⟩) (by dsimp only; omega) (by dsimp only; exact (by repeat' (first | exact Sub.nil | refine Sub.val rfl (by first | with_reducible rfl | (congr 1; omega)) ?_ | refine Sub.same rfl ?_)))
    · skip
      rw [if_neg (by omega)] at e3
      exact a7A () (fun w6 e6 => ⟨heS.trans e6, by rw [e3]; exact hoS.ext e6⟩) (by omega) (by repeat' (first | exact Sub.nil | refine Sub.val rfl (by first | with_reducible rfl | (congr 1; omega)) ?_ | refine Sub.same rfl ?_))
    · rintro - wX ⟨heX, hoX⟩
      have hl3 := apA D3
      repeat' (first|(refine oLA ?_;first|refine a0A rfl ?_|(refine oD 100 ?_; refine ayA rfl rfl rfl (by dsimp only [fits]; omega) ?_; rw [show ((i3 : Int) + 1) = ((i3 + 1 : Nat) : Int) by omega])|refine wOp ?_|(refine wCm ?_ ?_<;>intro hc)|(refine wNl hK ?_;clear hK K))|refine wG ?_|(refine wCR ?_;intro K hK)|fail)
      · skip
        rw [if_pos (by omega)] at e4
        refine ahA (ι := Nat × Array Int) (fun i => [(0, .val (.slice (some ⟨b, 0, none⟩) n cap)), (1, .val (.int .i64 lo)), (2, .val (.int .i64 hi)), (6, .val (.bool false)), (7, .val (.int .i64 (i3 : Nat))), (8, .val (.int .i64 (5 - ((s + 1 : Nat) : Int)))), (10, .val (.int .i64 (i.1 : Int)))])
          (fun i w' => Ext w0 w' ∧ i3 + 1 ≤ i.1 ∧ i.2.size = D0.size ∧ coA w0 w' b cap n i.2 ∧ Go.Sort.shiftUp Go.Sort.ltInt hi i.1 i.2 = D4) (fun i => hi - i.1)
          (fun w2 e2 => ⟨(i3 + 1, D3), ⟨heX.trans e2, Nat.le_refl _, hs3, hoX.ext e2, e4.symm⟩, by dsimp only; exact (by repeat' (first | exact Sub.nil | refine Sub.val rfl (by first | with_reducible rfl | (congr 1; omega)) ?_ | refine Sub.same rfl ?_))⟩) ?_
        rintro ⟨j, D5⟩ w5 ⟨he5, hj5, hs5', ho5, hr5⟩
        dsimp only at hj5 hs5' ho5 hr5 ⊢
        have hl5 := apA D5
        clear heS hoS heS1 hoS1
        by_cases hjb : j < hi
        · cases hp : Go.Sort.ltInt D5[j]! D5[j - 1]!
          · rw [Go.Sort.shiftUp_stop (.inr hp)] at hr5
            subst hr5
            repeat' (first|(refine oLA ?_;first|refine a0A rfl ?_|(refine oD 112 ?_; refine a9A rfl rfl rfl (by dsimp only [fits]; omega) ?_; rw [show ((j : Int) - 1) = ((j - 1 : Nat) : Int) by omega])|(refine oI ?_; refine a6A rfl rfl (fun _ => rfl) rfl rfl _ rfl (by omega) ?_)|(refine oL ?_; refine aeA ho5 rfl (fun _ => rfl) rfl (by omega) ?_; rw [cbA])|refine wOp ?_|(refine wCm ?_ ?_<;>intro hc)|(refine oCv ?_;first|(refine oC 161 ?_; refine a3A (f := 161) rfl rfl rfl rfl  (.val (.bool false)) (by intro u1 u2 w e hu1 hu2; (try obtain rfl : u1 = _ := hu1); (try obtain rfl : u2 = _ := hu2); exact agA (by rw [hp]) (auA _ _ _)) ?_))|(refine wNl hK ?_;clear hK K))|refine wG ?_|(refine wCR ?_;intro K hK)|fail)
            exact a7A (s, i3, D5) (fun w6 e6 => ⟨he5.trans e6, by dsimp only; omega, hs4, ho5.ext e6, by dsimp only; omega, by dsimp only; omega, c3⟩) (by dsimp only; omega) (by dsimp only; exact (by repeat' (first | exact Sub.nil | refine Sub.val rfl (by first | with_reducible rfl | (congr 1; omega)) ?_ | refine Sub.same rfl ?_)))
          · rw [Go.Sort.shiftUp_go hjb hp] at hr5
            repeat' (first|(refine oLA ?_;first|refine wBk ?_|(refine oD 112 ?_; refine a9A rfl rfl rfl (by dsimp only [fits]; omega) ?_; rw [show ((j : Int) - 1) = ((j - 1 : Nat) : Int) by omega])|(refine oD 121 ?_; refine a9A rfl rfl rfl (by dsimp only [fits]; omega) ?_; rw [show ((j : Int) - 1) = ((j - 1 : Nat) : Int) by omega])|(refine oD 124 ?_; refine a9A rfl rfl rfl (by dsimp only [fits]; omega) ?_; rw [show ((j : Int) - 1) = ((j - 1 : Nat) : Int) by omega])|(refine oI ?_; refine a6A rfl rfl (fun _ => rfl) rfl rfl _ rfl (by omega) ?_)|(refine oL ?_; refine aeA ho5 rfl (fun _ => rfl) rfl (by omega) ?_; rw [cbA])|refine wOp ?_|(refine wCm ?_ ?_<;>intro hc)|(refine oCv ?_;first|(refine oC 161 ?_; refine a3A (f := 161) rfl rfl rfl rfl  (.val (.bool true)) (by intro u1 u2 w e hu1 hu2; (try obtain rfl : u1 = _ := hu1); (try obtain rfl : u2 = _ := hu2); exact agA (by rw [hp]) (auA _ _ _)) ?_))|(refine wNl hK ?_;clear hK K))|(refine oCX ?_;first|refine ajA (id := 23) [15, 17] (by kernel_rfl) (by kernel_rfl) (by kernel_rfl) (a5A ?_))|refine wG ?_|(refine wCR ?_;intro K hK)|refine wPh ?_|fail)
            refine afA (j := j) rfl he5 ho5 rfl rfl (by omega) (fun _ => rfl) (fun wS1 heS1 hoS1 => ?_)
            refine a5A ?_
            repeat' (first|(refine oLA ?_;first|refine wBk ?_|(refine oD 132 ?_; refine a6A rfl rfl (fun _ => rfl) rfl rfl ((j - 1)) (by omega) (by omega) ?_)|(refine oD 121 ?_; refine a9A rfl rfl rfl (by dsimp only [fits]; omega) ?_; rw [show ((j : Int) - 1) = ((j - 1 : Nat) : Int) by omega])|refine wOp ?_|(refine wCm ?_ ?_<;>intro hc)|(refine wNl hK ?_;clear hK K))|refine wG ?_|(refine wCR ?_;intro K hK)|refine wPh ?_|fail)
            refine afA (j := (j - 1)) rfl heS1 hoS1 rfl rfl (by rw [List.length_set]; omega) (fun _ => rfl) (fun wS heS hoS => ?_)
            rw [atA] at hoS
            refine aiA ?_
            repeat' (first|(refine oLA ?_;first|refine wBk ?_|refine wOp ?_|(refine wCm ?_ ?_<;>intro hc)|(refine wNl hK ?_;clear hK K))|refine wG ?_|(refine wCR ?_;intro K hK)|refine wPh ?_|fail)
            exact a7A (j + 1, Go.Sort.swp D5 j (j - 1)) (fun w6 e6 => ⟨heS.trans e6, by dsimp only; omega, by dsimp only; rw [swp_size]; exact hs5', hoS.ext e6, hr5⟩) (by dsimp only; omega) (by dsimp only; exact (by repeat' (first | exact Sub.nil | refine Sub.val rfl (by first | with_reducible rfl | (congr 1; omega)) ?_ | refine Sub.same rfl ?_)))
        · rw [Go.Sort.shiftUp_stop (.inl hjb)] at hr5
          subst hr5
          repeat' (first|(refine oLA ?_;first|refine a0A rfl ?_|refine wOp ?_|(refine wCm ?_ ?_<;>intro hc)|(refine wNl hK ?_;clear hK K))|refine wG ?_|(refine wCR ?_;intro K hK)|fail)
          exact a7A (s, i3, D5) (fun w6 e6 => ⟨he5.trans e6, by dsimp only; omega, hs4, ho5.ext e6, by dsimp only; omega, by dsimp only; omega, c3⟩) (by dsimp only; omega) (by dsimp only; exact (by repeat' (first | exact Sub.nil | refine Sub.val rfl (by first | with_reducible rfl | (congr 1; omega)) ?_ | refine Sub.same rfl ?_)))
      · skip
        rw [if_neg (by omega)] at e4
        rw [e4] at c3
        exact a7A (s, i3, D3) (fun w6 e6 => ⟨heX.trans e6, by dsimp only; omega, hs3, hoX.ext e6, by dsimp only; omega, by dsimp only; omega, c3⟩) (by dsimp only; omega) (by dsimp only; exact (by repeat' (first | exact Sub.nil | refine Sub.val rfl (by first | with_reducible rfl | (congr 1; omega)) ?_ | refine Sub.same rfl ?_)))
set_option maxHeartbeats 16000000 in
theorem vhA {w0 w : World} {b cap n : Nat} {D0 : Array Int} (he0 : Ext w0 w) (ho0 : coA w0 w b cap n D0) (hn : n = D0.size) (lo hi : Nat) (h1 : lo ≤ hi) (h2 : hi ≤ D0.size) (hb : D0.size < 4611686018427387904) :
    Fc Tryz.prog 157 #[.slice (some ⟨b, 0, none⟩) n cap, .int .i64 lo, .int .i64 hi] w (fun e w' => e = .returned (.tuple #[]) ∧ Ext w0 w' ∧ ∃ D', Go.Sort.PermIn lo hi D0 D' ∧ coA w0 w' b cap n D') := by
  obtain ⟨L, hL⟩ : ∃ L, L = hi - lo := ⟨_, rfl⟩
  have hl0 := apA D0
  by_cases h8 : 8 ≤ L
  · obtain ⟨M, hM⟩ : ∃ M, M = 2 ^ Go.Sort.bitsLen L := ⟨_, rfl⟩
    have hM1 : 0 < M := by rw [hM]; exact Nat.two_pow_pos _
    have hM2 : M ≤ 2 * L := by rw [hM]; exact Go.Sort.two_pow_bitsLen_le (by omega)
    have hnp := fun w => t7A (w := w) L (by omega)
    rw [← hM] at hnp
    refine Fc.of (args := [_, _, _]) Tryz.func157 rfl rfl Tryz.ntmps157 (Nat.le_of_ble_eq_true rfl) ?_
    repeat' (first|(refine oLA ?_;first|refine a0A rfl ?_|(refine oD 13 ?_; refine a9A rfl rfl rfl (by dsimp only [fits]; omega) ?_; rw [show ((hi : Int) - lo) = (L : Int) by omega])|(refine oD 7 ?_; refine a4A (hK _ _ (c7A rfl rfl (by decide) (fun _ => rfl) (fun _ => rfl) (fun _ => rfl) rfl (by intro u hu; simp [Value.cells] at hu; subst hu; rfl) (fun rb wx ex hbx hbc => ?_))); clear hK K)|refine wOp ?_|(refine wCm ?_ ?_<;>intro hc)|(refine oCv ?_;first|(refine oC 194 ?_; refine a1A (f := 194) rfl rfl rfl  (.val (.int .u64 (M : Int))) (by intro u1 w e hu1; (try obtain rfl : u1 = _ := hu1); exact hnp _) ?_))|(refine wNl hK ?_;clear hK K))|refine wG ?_|(refine wCR ?_;intro K hK)|fail)
    have heX : Ext w0 wx := he0.trans ex
    have hr : OwnI w0.heap.size 191 .u64 wx (.slice (some ⟨rb, 0, none⟩) 1 1) [(L : Int)] := ⟨rfl, .inr ⟨rb, 1, _, rfl, Nat.le_trans he0.size hbx, hbc, Nat.le_refl _, by decide, rfl, rfl⟩⟩
    have hoX : coA w0 wx b cap n D0 := ho0.ext ex
    refine ahA (ι := Nat × Array Int × Nat) (fun i => [(0, .val (.slice (some ⟨b, 0, none⟩) n cap)), (1, .val (.int .i64 lo)), (6, .val (.int .i64 (L : Int))), (7, .val (.pointer (some ⟨rb, 0, none⟩))), (8, .val (.int .u64 (M : Int))), (9, .val (.int .i64 ((lo + L / 4 * 2 - 1 + i.1 : Nat) : Int)))])
      (fun i w' => Ext w0 w' ∧ i.1 ≤ 3 ∧ Go.Sort.PermIn lo hi D0 i.2.1 ∧ coA w0 w' b cap n i.2.1 ∧ i.2.2 < 18446744073709551616 ∧ OwnI w0.heap.size 191 .u64 w' (.slice (some ⟨rb, 0, none⟩) 1 1) [(i.2.2 : Int)]) (fun i => 3 - i.1)
      (fun w2 e2 => ⟨(0, D0, L), ⟨heX.trans e2, Nat.zero_le _, Go.Sort.permIn_refl _ _ _, hoX.ext e2, by dsimp only; omega, hr.ext e2⟩, by dsimp only; exact (by repeat' (first | exact Sub.nil | refine Sub.val rfl (by first | with_reducible rfl | (congr 1; omega)) ?_ | refine Sub.same rfl ?_))⟩) ?_
    rintro ⟨t, D, r⟩ w1 ⟨he1, ht3, hp1, ho1, hr1, hw1⟩
    dsimp only at ht3 hp1 ho1 hr1 hw1 ⊢
    have hs1 : D.size = D0.size := hp1.1
    have hl1 := apA D
    clear heX hr hoX
    by_cases ht : t < 3
    · have q0 : True := trivial
      repeat' (first|(refine oLA ?_;first|refine a0A rfl ?_|(refine oD 36 ?_; refine a4A (hK _ _ (fpA (f := 195) rfl (by decide) rfl rfl (fun v w' => ∃ c : Nat, v = .int .u64 (c : Int) ∧ c < 18446744073709551616 ∧ Ext w0 w' ∧ OwnI w0.heap.size 191 .u64 w' (.slice (some ⟨rb, 0, none⟩) 1 1) [(c : Int)] ∧ coA w0 w' b cap n D) (fun w' e => (n5A (he1.trans e) (hw1.ext e) (by omega) (ho1.ext e) (by decide)).mono (by rintro e5 w5 ⟨c, h1, h2⟩; exact ⟨_, h1, c, rfl, h2⟩)) (fun v w2 hv => ?_))); clear hK K; obtain ⟨c, rfl, hcB, he2, hr2, ho2⟩ := hv)|(refine oD 38 ?_; refine a9A rfl rfl rfl (by dsimp only [fits]; omega) ?_; rw [show ((M : Int) - 1) = ((M - 1 : Nat) : Int) by omega])|(refine oD 39 ?_; refine pyA rfl rfl rfl (fun q hq => ?_) (by omega) (by omega))|(refine oD 46 ?_; refine a9A rfl rfl rfl (by dsimp only [fits]; omega) ?_; rw [show ((q : Int) - L) = ((q - L : Nat) : Int) by omega])|refine wOp ?_|(refine wCm ?_ ?_<;>intro hc)|(refine wNl hK ?_;clear hK K))|(refine oCX ?_;first|refine cqA (id := 8) (ι := Nat) (fun o => [(0, .val (.slice (some ⟨b, 0, none⟩) n cap)), (1, .val (.int .i64 lo)), (6, .val (.int .i64 (L : Int))), (7, .val (.pointer (some ⟨rb, 0, none⟩))), (8, .val (.int .u64 (M : Int))), (9, .val (.int .i64 ((lo + L / 4 * 2 - 1 + t : Nat) : Int))), (10, .val (.int .i64 (o : Int)))]) (fun o w' => Ext w0 w' ∧ o < L ∧ (∃ c3 : Nat, c3 < 18446744073709551616 ∧ OwnI w0.heap.size 191 .u64 w' (.slice (some ⟨rb, 0, none⟩) 1 1) [(c3 : Int)]) ∧ coA w0 w' b cap n D) ?_ ?_)|refine wG ?_|(refine wCR ?_;intro K hK)|(refine oLX ?_;first|(refine amA rfl ?_; intro K hK))|fail)
      · exact a7A (q - L) (fun w6 e6 => ⟨he2.trans e6, by omega, ⟨c, hcB, hr2.ext e6⟩, ho2.ext e6⟩) (by omega) (by repeat' (first | exact Sub.nil | refine Sub.val rfl (by first | with_reducible rfl | (congr 1; omega)) ?_ | refine Sub.same rfl ?_))
      · exact a7A q (fun w6 e6 => ⟨he2.trans e6, by omega, ⟨c, hcB, hr2.ext e6⟩, ho2.ext e6⟩) (by omega) (by repeat' (first | exact Sub.nil | refine Sub.val rfl (by first | with_reducible rfl | (congr 1; omega)) ?_ | refine Sub.same rfl ?_))
      · rintro o w3 ⟨he3, ho, ⟨c3, hc3, hr3⟩, ho3⟩
        repeat' (first|(refine oLA ?_;first|refine wBk ?_|(refine oI ?_; refine a6A rfl rfl (fun _ => rfl) rfl rfl _ rfl (by omega) ?_)|(refine oL ?_; refine aeA ho3 rfl (fun _ => rfl) rfl (by omega) ?_; rw [cbA])|(refine oD 52 ?_; refine ayA rfl rfl rfl (by dsimp only [fits]; omega) ?_; rw [show ((lo : Int) + o) = ((lo + o : Nat) : Int) by omega])|(refine oD 56 ?_; refine ayA rfl rfl rfl (by dsimp only [fits]; omega) ?_; rw [show ((lo : Int) + o) = ((lo + o : Nat) : Int) by omega])|refine wOp ?_|(refine wCm ?_ ?_<;>intro hc)|(refine wNl hK ?_;clear hK K))|(refine oCX ?_;first|refine ajA (id := 10) [17, 19] (by kernel_rfl) (by kernel_rfl) (by kernel_rfl) (a5A ?_))|refine wG ?_|(refine wCR ?_;intro K hK)|refine wPh ?_|fail)
        refine fiA (j := lo + L / 4 * 2 - 1 + t) rfl he3 ho3 hr3 (by decide) rfl rfl (by omega) (fun _ => rfl) (fun wS1 heS1 hoS1 hrS1 => ?_)
        refine a5A ?_
        repeat' (first|(refine oLA ?_;first|refine wBk ?_|(refine oD 64 ?_; refine a6A rfl rfl (fun _ => rfl) rfl rfl (lo + o) (by omega) (by omega) ?_)|(refine oD 52 ?_; refine ayA rfl rfl rfl (by dsimp only [fits]; omega) ?_; rw [show ((lo : Int) + o) = ((lo + o : Nat) : Int) by omega])|refine wOp ?_|(refine wCm ?_ ?_<;>intro hc)|(refine wNl hK ?_;clear hK K))|refine wG ?_|(refine wCR ?_;intro K hK)|refine wPh ?_|fail)
        refine fiA (j := lo + o) rfl heS1 hoS1 hrS1 (by decide) rfl rfl (by rw [List.length_set]; omega) (fun _ => rfl) (fun wS heS hoS hrS => ?_)
        rw [atA] at hoS
        refine aiA ?_
        repeat' (first|(refine oLA ?_;first|refine wBk ?_|refine wOp ?_|(refine wCm ?_ ?_<;>intro hc)|(refine wNl hK ?_;clear hK K))|refine wG ?_|(refine wCR ?_;intro K hK)|refine wPh ?_|fail)
        exact a7A (t + 1, Go.Sort.swp D (lo + L / 4 * 2 - 1 + t) (lo + o), c3) (fun w6 e6 => ⟨heS.trans e6, by dsimp only; omega, Go.Sort.permIn_trans _ _ _ _ _ hp1 (Go.Sort.swp_permIn _ _ _ _ _ (by omega) (by omega) (by omega) (by omega) (by omega)), hoS.ext e6, hc3, hrS.ext e6⟩) (by dsimp only; omega) (by dsimp only; exact (by repeat' (first | exact Sub.nil | refine Sub.val rfl (by first | with_reducible rfl | (congr 1; omega)) ?_ | refine Sub.same rfl ?_)))
    · have q0 : True := trivial
      repeat' (first|(refine oLA ?_;first|refine a0A rfl ?_|refine wOp ?_|(refine wCm ?_ ?_<;>intro hc)|(refine wNl hK ?_;clear hK K))|refine wG ?_|(refine wCR ?_;intro K hK)|fail)
      exact b2A rfl (fun w5 e5 => ⟨rfl, he1.trans e5, D, hp1, ho1.ext e5⟩) (.inl rfl)
  · have q0 : True := trivial
    refine Fc.of (args := [_, _, _]) Tryz.func157 rfl rfl Tryz.ntmps157 (Nat.le_of_ble_eq_true rfl) ?_
    repeat' (first|(refine oLA ?_;first|refine a0A rfl ?_|refine wOp ?_|(refine wCm ?_ ?_<;>intro hc)|(refine wNl hK ?_;clear hK K))|refine wG ?_|(refine wCR ?_;intro K hK)|fail)
    exact b2A rfl (fun w5 e5 => ⟨rfl, he0.trans e5, D0, Go.Sort.permIn_refl _ _ _, ho0.ext e5⟩) (.inl rfl)
set_option maxHeartbeats 4000000 in
theorem ihA {w0 w : World} {b cap n sb : Nat} {D : Array Int} (he0 : Ext w0 w) (ho0 : coA w0 w b cap n D) (hs0 : Sw w0 w sb) (hn : n = D.size) (hb : D.size < 4611686018427387904) (lo hi : Nat) (h2 : hi ≤ D.size) (x y : Nat) (hx : lo ≤ x ∧ x < hi) (hy : lo ≤ y ∧ y < hi) :
    Fc Tryz.prog 205 #[(.slice (some ⟨b, 0, none⟩) n cap), .int .i64 x, .int .i64 y, (.pointer (some ⟨sb, 0, none⟩))] w (fun e w' => ∃ p q : Nat, e = .returned (.tuple #[.int .i64 p, .int .i64 q]) ∧ (lo ≤ p ∧ p < hi) ∧ (lo ≤ q ∧ q < hi) ∧ Ext w0 w' ∧ coA w0 w' b cap n D ∧ Sw w0 w' sb) := by
  have hl := apA D
  obtain ⟨s, hs⟩ := hs0
  cases hp : Go.Sort.ltInt D[y]! D[x]!
  · have q0 : True := trivial
    refine Fc.of (args := [_, _, _, _]) Tryz.func205 rfl rfl Tryz.ntmps205 (Nat.le_of_ble_eq_true rfl) ?_
    repeat' (first|(refine oLA ?_;first|refine a0A rfl ?_|(refine oI ?_; refine a6A rfl rfl (fun _ => rfl) rfl rfl _ rfl (by omega) ?_)|(refine oL ?_; refine aeA ho0 rfl (fun _ => rfl) rfl (by omega) ?_; rw [cbA])|refine wOp ?_|(refine wCm ?_ ?_<;>intro hc)|(refine oCv ?_;first|(refine oC 161 ?_; refine a3A (f := 161) rfl rfl rfl rfl  (.val (.bool false)) (by intro u1 u2 w e hu1 hu2; (try obtain rfl : u1 = _ := hu1); (try obtain rfl : u2 = _ := hu2); exact agA (by rw [hp]) (auA _ _ _)) ?_))|(refine wNl hK ?_;clear hK K))|refine wG ?_|(refine wCR ?_;intro K hK)|fail)
    exact dqA rfl (fun u v w5 e5 hu hv => by obtain rfl : u = _ := hu; obtain rfl : v = _ := hv; exact ⟨x, y, rfl, hx, hy, he0.trans e5, ho0.ext e5, s, hs.ext e5⟩)
  · have q0 : True := trivial
    refine Fc.of (args := [_, _, _, _]) Tryz.func205 rfl rfl Tryz.ntmps205 (Nat.le_of_ble_eq_true rfl) ?_
    repeat' (first|(refine oLA ?_;first|refine a0A rfl ?_|(refine oD 21 ?_; refine aeA hs rfl (fun _ => rfl) rfl (by exact Nat.zero_lt_one) ?_; rw [show [s].getD 0 0 = s from rfl])|(refine oD 22 ?_; refine l2A rfl rfl rfl ?_)|(refine akA rfl rfl ?_)|(refine oSt ?_; refine a4A (hK _ _ (piA (j := 0) rfl he0 hs ho0 (by decide) rfl rfl (by exact Nat.zero_lt_one) (fun _ => rfl) (fun w1 he1 hs1 ho1 => ?_))); clear hK K)|(refine oI ?_; refine a6A rfl rfl (fun _ => rfl) rfl rfl _ rfl (by omega) ?_)|(refine oL ?_; refine aeA ho0 rfl (fun _ => rfl) rfl (by omega) ?_; rw [cbA])|refine wOp ?_|(refine wCm ?_ ?_<;>intro hc)|(refine oCv ?_;first|(refine oC 161 ?_; refine a3A (f := 161) rfl rfl rfl rfl  (.val (.bool true)) (by intro u1 u2 w e hu1 hu2; (try obtain rfl : u1 = _ := hu1); (try obtain rfl : u2 = _ := hu2); exact agA (by rw [hp]) (auA _ _ _)) ?_))|(refine wNl hK ?_;clear hK K))|refine wG ?_|(refine wCR ?_;intro K hK)|fail)
    exact dqA rfl (fun u v w5 e5 hu hv => by obtain rfl : u = _ := hu; obtain rfl : v = _ := hv; exact ⟨y, x, rfl, hy, hx, he1.trans e5, ho1.ext e5, _, OwnI.ext hs1 e5⟩)
set_option maxHeartbeats 4000000 in
theorem o7A {w0 w : World} {b cap n sb : Nat} {D : Array Int} (he0 : Ext w0 w) (ho0 : coA w0 w b cap n D) (hs0 : Sw w0 w sb) (hn : n = D.size) (hb : D.size < 4611686018427387904) (lo hi : Nat) (h2 : hi ≤ D.size) (x y z : Nat) (hx : lo ≤ x ∧ x < hi) (hy : lo ≤ y ∧ y < hi) (hz : lo ≤ z ∧ z < hi) :
    Fc Tryz.prog 197 #[(.slice (some ⟨b, 0, none⟩) n cap), .int .i64 x, .int .i64 y, .int .i64 z, (.pointer (some ⟨sb, 0, none⟩))] w (fun e w' => ∃ p : Nat, e = .returned (.int .i64 p) ∧ (lo ≤ p ∧ p < hi) ∧ Ext w0 w' ∧ coA w0 w' b cap n D ∧ Sw w0 w' sb) := by
  refine Fc.of (args := [_, _, _, _, _]) Tryz.func197 rfl rfl Tryz.ntmps197 (Nat.le_of_ble_eq_true rfl) ?_
  repeat' (first|(refine oLA ?_;first|refine a0A rfl ?_|(refine oD 16 ?_; refine a4A (hK _ _ (d5A (f := 205) rfl (by decide) rfl rfl rfl rfl rfl (fun v w' => ∃ p q : Nat, v = .tuple #[.int .i64 p, .int .i64 q] ∧ (lo ≤ p ∧ p < hi) ∧ (lo ≤ q ∧ q < hi) ∧ Ext w0 w' ∧ coA w0 w' b cap n D ∧ Sw w0 w' sb) (fun w' e => (ihA (he0.trans e) (ho0.ext e) (hs0.ext e) hn hb lo hi h2 x y (by omega) (by omega)).mono (by rintro e5 w5 ⟨p, q, h1, h2⟩; exact ⟨_, h1, p, q, rfl, h2⟩)) (fun v w1 hv => ?_))); clear hK K; obtain ⟨p1, q1, rfl, bp1, bq1, he1, ho1, hs1⟩ := hv)|(refine oD 24 ?_; refine a4A (hK _ _ (d5A (f := 205) rfl (by decide) rfl rfl rfl rfl rfl (fun v w' => ∃ p q : Nat, v = .tuple #[.int .i64 p, .int .i64 q] ∧ (lo ≤ p ∧ p < hi) ∧ (lo ≤ q ∧ q < hi) ∧ Ext w0 w' ∧ coA w0 w' b cap n D ∧ Sw w0 w' sb) (fun w' e => (ihA (he1.trans e) (ho1.ext e) (hs1.ext e) hn hb lo hi h2 q1 z (by omega) (by omega)).mono (by rintro e5 w5 ⟨p, q, h1, h2⟩; exact ⟨_, h1, p, q, rfl, h2⟩)) (fun v w2 hv => ?_))); clear hK K; obtain ⟨p2, q2, rfl, bp2, bq2, he2, ho2, hs2⟩ := hv)|(refine oD 32 ?_; refine a4A (hK _ _ (d5A (f := 205) rfl (by decide) rfl rfl rfl rfl rfl (fun v w' => ∃ p q : Nat, v = .tuple #[.int .i64 p, .int .i64 q] ∧ (lo ≤ p ∧ p < hi) ∧ (lo ≤ q ∧ q < hi) ∧ Ext w0 w' ∧ coA w0 w' b cap n D ∧ Sw w0 w' sb) (fun w' e => (ihA (he2.trans e) (ho2.ext e) (hs2.ext e) hn hb lo hi h2 p1 p2 (by omega) (by omega)).mono (by rintro e5 w5 ⟨p, q, h1, h2⟩; exact ⟨_, h1, p, q, rfl, h2⟩)) (fun v w3 hv => ?_))); clear hK K; obtain ⟨p3, q3, rfl, bp3, bq3, he3, ho3, hs3⟩ := hv)|(refine c5A rfl rfl ?_)|(refine c4A rfl rfl ?_)|refine wOp ?_|(refine wCm ?_ ?_<;>intro hc)|(refine wNl hK ?_;clear hK K))|refine wG ?_|(refine wCR ?_;intro K hK)|(refine oLX ?_;first|(refine amA rfl ?_; intro K hK))|fail)
  exact blA rfl (fun u w5 e5 hu => by obtain rfl : u = _ := hu; exact ⟨q3, rfl, bq3, he3.trans e5, ho3.ext e5, hs3.ext e5⟩)
theorem ilA {w0 w : World} {b cap n sb : Nat} {D : Array Int} (he0 : Ext w0 w) (ho0 : coA w0 w b cap n D) (hs0 : Sw w0 w sb) (hn : n = D.size) (hb : D.size < 4611686018427387904) (lo hi : Nat) (h2 : hi ≤ D.size) (x : Nat) (hx : lo + 1 ≤ x ∧ x + 1 < hi) :
    Fc Tryz.prog 196 #[(.slice (some ⟨b, 0, none⟩) n cap), .int .i64 x, (.pointer (some ⟨sb, 0, none⟩))] w (fun e w' => ∃ p : Nat, e = .returned (.int .i64 p) ∧ (lo ≤ p ∧ p < hi) ∧ Ext w0 w' ∧ coA w0 w' b cap n D ∧ Sw w0 w' sb) := by
  refine Fc.of (args := [_, _, _]) Tryz.func196 rfl rfl Tryz.ntmps196 (Nat.le_of_ble_eq_true rfl) ?_
  repeat' (first|(refine oLA ?_;first|refine a0A rfl ?_|(refine oD 9 ?_; refine a9A rfl rfl rfl (by dsimp only [fits]; omega) ?_; rw [show ((x : Int) - 1) = ((x - 1 : Nat) : Int) by omega])|(refine oD 12 ?_; refine ayA rfl rfl rfl (by dsimp only [fits]; omega) ?_; rw [show ((x : Int) + 1) = ((x + 1 : Nat) : Int) by omega])|(refine oD 14 ?_; refine a4A (hK _ _ (gkA (f := 197) rfl (by decide) rfl rfl rfl rfl rfl rfl (fun v w' => ∃ p : Nat, v = .int .i64 p ∧ (lo ≤ p ∧ p < hi) ∧ Ext w0 w' ∧ coA w0 w' b cap n D ∧ Sw w0 w' sb) (fun w' e => (o7A (he0.trans e) (ho0.ext e) (hs0.ext e) hn hb lo hi h2 (x - 1) x (x + 1) (by omega) (by omega) (by omega)).mono (by rintro e5 w5 ⟨p, h1, h2⟩; exact ⟨_, h1, p, rfl, h2⟩)) (fun v w1 hv => ?_))); clear hK K; obtain ⟨p, rfl, bp, he1, ho1, hs1⟩ := hv)|(refine c5A rfl rfl ?_)|(refine c4A rfl rfl ?_)|refine wOp ?_|(refine wCm ?_ ?_<;>intro hc)|(refine wNl hK ?_;clear hK K))|refine wG ?_|(refine wCR ?_;intro K hK)|(refine oLX ?_;first|(refine amA rfl ?_; intro K hK))|fail)
  exact blA rfl (fun u w5 e5 hu => by obtain rfl : u = _ := hu; exact ⟨p, rfl, bp, he1.trans e5, ho1.ext e5, hs1.ext e5⟩)
set_option maxHeartbeats 8000000 in
theorem vcA {w0 w : World} {b cap n : Nat} {D : Array Int} (he0 : Ext w0 w) (ho0 : coA w0 w b cap n D) (hn : n = D.size) (hb : D.size < 4611686018427387904) (lo hi : Nat) (h1 : lo < hi) (h2 : hi ≤ D.size) :
    Fc Tryz.prog 158 #[(.slice (some ⟨b, 0, none⟩) n cap), .int .i64 lo, .int .i64 hi] w (fun e w' => ∃ (p : Nat) (h : Int), e = .returned (.tuple #[.int .i64 p, .int .i64 h]) ∧ (lo ≤ p ∧ p < hi) ∧ Ext w0 w' ∧ coA w0 w' b cap n D) := by
  obtain ⟨L, hL⟩ : ∃ L, L = hi - lo := ⟨_, rfl⟩
  refine Fc.of (args := [_, _, _]) Tryz.func158 rfl rfl Tryz.ntmps158 (Nat.le_of_ble_eq_true rfl) ?_
  repeat' (first|(refine oLA ?_;first|refine a0A rfl ?_|(refine oD 15 ?_; refine a9A rfl rfl rfl (by dsimp only [fits]; omega) ?_; rw [show ((hi : Int) - lo) = (L : Int) by omega])|(refine oD 9 ?_; refine a4A (hK _ _ (vrA rfl (by decide) (fun _ => rfl) (fun sb wx ex hbx hbc => ?_))); clear hK K; have heX : Ext w0 wx := he0.trans ex; have hsX : Sw w0 wx sb := ⟨0, rfl, .inr ⟨sb, 1, _, rfl, Nat.le_trans he0.size hbx, hbc, Nat.le_refl _, by decide, rfl, rfl⟩⟩; have hoX : coA w0 wx b cap n D := ho0.ext ex)|(refine oD 20 ?_; refine ayA rfl rfl rfl (by dsimp only [fits]; omega) ?_; rw [show ((lo : Int) + (L : Int) / 4 * 1) = ((lo + L / 4 * 1 : Nat) : Int) by omega])|(refine oD 25 ?_; refine ayA rfl rfl rfl (by dsimp only [fits]; omega) ?_; rw [show ((lo : Int) + (L : Int) / 4 * 2) = ((lo + L / 4 * 2 : Nat) : Int) by omega])|(refine oD 30 ?_; refine ayA rfl rfl rfl (by dsimp only [fits]; omega) ?_; rw [show ((lo : Int) + (L : Int) / 4 * 3) = ((lo + L / 4 * 3 : Nat) : Int) by omega])|(refine oD 37 ?_; refine a4A (hK _ _ (c1A (f := 196) rfl (by decide) rfl rfl rfl rfl (fun v w' => ∃ p : Nat, v = .int .i64 p ∧ (lo ≤ p ∧ p < hi) ∧ Ext w0 w' ∧ coA w0 w' b cap n D ∧ Sw w0 w' sb) (fun w' e => (ilA (heX.trans e) (hoX.ext e) (hsX.ext e) hn hb lo hi h2 (lo + L / 4 * 1) (by omega)).mono (by rintro e5 w5 ⟨p, h1, h2⟩; exact ⟨_, h1, p, rfl, h2⟩)) (fun v w1 hv => ?_))); clear hK K; obtain ⟨p1, rfl, bp1, he1, ho1, hs1⟩ := hv)|(refine oD 40 ?_; refine a4A (hK _ _ (c1A (f := 196) rfl (by decide) rfl rfl rfl rfl (fun v w' => ∃ p : Nat, v = .int .i64 p ∧ (lo ≤ p ∧ p < hi) ∧ Ext w0 w' ∧ coA w0 w' b cap n D ∧ Sw w0 w' sb) (fun w' e => (ilA (he1.trans e) (ho1.ext e) (hs1.ext e) hn hb lo hi h2 (lo + L / 4 * 2) (by omega)).mono (by rintro e5 w5 ⟨p, h1, h2⟩; exact ⟨_, h1, p, rfl, h2⟩)) (fun v w2 hv => ?_))); clear hK K; obtain ⟨p2, rfl, bp2, he2, ho2, hs2⟩ := hv)|(refine oD 43 ?_; refine a4A (hK _ _ (c1A (f := 196) rfl (by decide) rfl rfl rfl rfl (fun v w' => ∃ p : Nat, v = .int .i64 p ∧ (lo ≤ p ∧ p < hi) ∧ Ext w0 w' ∧ coA w0 w' b cap n D ∧ Sw w0 w' sb) (fun w' e => (ilA (he2.trans e) (ho2.ext e) (hs2.ext e) hn hb lo hi h2 (lo + L / 4 * 3) (by omega)).mono (by rintro e5 w5 ⟨p, h1, h2⟩; exact ⟨_, h1, p, rfl, h2⟩)) (fun v w3 hv => ?_))); clear hK K; obtain ⟨p3, rfl, bp3, he3, ho3, hs3⟩ := hv)|(refine c5A rfl rfl ?_)|(refine c4A rfl rfl ?_)|refine wOp ?_|(refine wCm ?_ ?_<;>intro hc)|(refine wNl hK ?_;clear hK K))|(refine oCX ?_;first|refine cqA (id := 6) (ι := Nat) (fun j => [(9, .val (.pointer (some ⟨sb, 0, none⟩))), (11, .val (.int .i64 (j : Int)))]) (fun p w' => (lo ≤ p ∧ p < hi) ∧ Ext w0 w' ∧ coA w0 w' b cap n D ∧ Sw w0 w' sb) ?_ ?_|refine cqA (id := 7) (ι := Nat × Nat × Nat) (fun i => [(0, .val (.slice (some ⟨b, 0, none⟩) n cap)), (1, .val (.int .i64 lo)), (9, .val (.pointer (some ⟨sb, 0, none⟩))), (10, .val (.int .i64 ((i.1 : Nat) : Int))), (11, .val (.int .i64 ((i.2.1 : Nat) : Int))), (12, .val (.int .i64 ((i.2.2 : Nat) : Int)))]) (fun i w' => (lo ≤ i.1 ∧ i.1 < hi) ∧ (lo ≤ i.2.1 ∧ i.2.1 < hi) ∧ (lo ≤ i.2.2 ∧ i.2.2 < hi) ∧ Ext w0 w' ∧ coA w0 w' b cap n D ∧ Sw w0 w' sb) ?_ ?_)|refine wG ?_|(refine wCR ?_;intro K hK)|(refine oLX ?_;first|(refine amA rfl ?_; intro K hK))|fail)
  · exact a7A (p1, p2, p3) (fun w6 e6 => ⟨bp1, bp2, bp3, he3.trans e6, ho3.ext e6, hs3.ext e6⟩) (by omega) (by dsimp only; exact (by repeat' (first | exact Sub.nil | refine Sub.val rfl (by first | with_reducible rfl | (congr 1; omega)) ?_ | refine Sub.same rfl ?_)))
  · exact a7A (lo + L / 4 * 1, lo + L / 4 * 2, lo + L / 4 * 3) (fun w6 e6 => ⟨by dsimp only; omega, by dsimp only; omega, by dsimp only; omega, heX.trans e6, hoX.ext e6, hsX.ext e6⟩) (by omega) (by dsimp only; exact (by repeat' (first | exact Sub.nil | refine Sub.val rfl (by first | with_reducible rfl | (congr 1; omega)) ?_ | refine Sub.same rfl ?_)))
  · rintro ⟨i, j, k⟩ w3 ⟨bi, bj, bk, he3, ho3, hs3⟩
    dsimp only at bi bj bk ⊢
    repeat' (first|(refine oLA ?_;first|refine a0A rfl ?_|(refine oD 48 ?_; refine a4A (hK _ _ (gkA (f := 197) rfl (by decide) rfl rfl rfl rfl rfl rfl (fun v w' => ∃ p : Nat, v = .int .i64 p ∧ (lo ≤ p ∧ p < hi) ∧ Ext w0 w' ∧ coA w0 w' b cap n D ∧ Sw w0 w' sb) (fun w' e => (o7A (he3.trans e) (ho3.ext e) (hs3.ext e) hn hb lo hi h2 i j k bi bj bk).mono (by rintro e5 w5 ⟨p, h1, h2⟩; exact ⟨_, h1, p, rfl, h2⟩)) (fun v w1 hv => ?_))); clear hK K; obtain ⟨p, rfl, bp, he1, ho1, hs1⟩ := hv)|(refine c5A rfl rfl ?_)|(refine c4A rfl rfl ?_)|refine wOp ?_|(refine wCm ?_ ?_<;>intro hc)|(refine wNl hK ?_;clear hK K))|refine wG ?_|(refine wCR ?_;intro K hK)|(refine oLX ?_;first|(refine amA rfl ?_; intro K hK))|fail)
    exact a7A p (fun w6 e6 => ⟨bp, he1.trans e6, ho1.ext e6, hs1.ext e6⟩) (by omega) (by repeat' (first | exact Sub.nil | refine Sub.val rfl (by first | with_reducible rfl | (congr 1; omega)) ?_ | refine Sub.same rfl ?_))
  · exact a7A (lo + L / 4 * 2) (fun w6 e6 => ⟨by omega, heX.trans e6, hoX.ext e6, hsX.ext e6⟩) (by omega) (by repeat' (first | exact Sub.nil | refine Sub.val rfl (by first | with_reducible rfl | (congr 1; omega)) ?_ | refine Sub.same rfl ?_))
  · rintro j w3 ⟨bj, he3, ho3, s, hs3⟩
    repeat' (first|(refine oLA ?_;first|refine a0A rfl ?_|(refine oD 49 ?_; refine aeA hs3 rfl (fun _ => rfl) rfl (by exact Nat.zero_lt_one) ?_; rw [show [s].getD 0 0 = s from rfl])|refine wOp ?_|(refine wCm ?_ ?_<;>intro hc)|(refine wNl hK ?_;clear hK K))|refine wG ?_|(refine wCR ?_;intro K hK)|fail)
    all_goals exact dqA rfl (fun u v w5 e5 hu hv => by obtain rfl : u = _ := hu; obtain rfl : v = _ := hv; exact ⟨j, _, rfl, bj, he3.trans e5, ho3.ext e5⟩)
set_option maxHeartbeats 16000000 in
theorem ugA (m : Nat) : ∀ {w0 w : World} {b cap n : Nat} {D0 : Array Int} (he0 : Ext w0 w) (ho0 : coA w0 w b cap n D0) (hn : n = D0.size) (hb : D0.size < 4611686018427387904) (lo hi lim : Nat) (hm : hi - lo ≤ m) (h1 : lo ≤ hi) (h2 : hi ≤ D0.size) (hB0 : Go.Sort.Below Go.Sort.ltInt lo hi D0) (hl0 : lim < 4611686018427387904),
    Fc Tryz.prog 112 #[(.slice (some ⟨b, 0, none⟩) n cap), .int .i64 lo, .int .i64 hi, .int .i64 lim] w (fun e w' => e = .returned (.tuple #[]) ∧ Ext w0 w' ∧ ∃ D', Go.Sort.PermIn lo hi D0 D' ∧ Go.Sort.SortedIn Go.Sort.ltInt lo hi D' ∧ coA w0 w' b cap n D') := by
  induction m using Nat.strongRecOn with
  | ind m ih =>
  intro w0 w b cap n D0 he0 ho0 hn hb lo hi lim hm h1 h2 hB0 hl0
  have swo : Go.Sort.SWO Go.Sort.ltInt := Go.Sort.swo_ltInt
  refine Fc.of (args := [_, _, _, _]) Tryz.func112 rfl rfl Tryz.ntmps112 (Nat.le_of_ble_eq_true rfl) ?_
  repeat' (first|(refine oLA ?_;first|refine a0A rfl ?_|refine wOp ?_|(refine wCm ?_ ?_<;>intro hc)|(refine wNl hK ?_;clear hK K))|refine wG ?_|(refine wCR ?_;intro K hK)|fail)
  refine ahA (ι := Nat × Nat × Nat × Bool × Bool × Array Int) (fun i => [(0, .val (.slice (some ⟨b, 0, none⟩) n cap)), (1, .val (.int .i64 ((i.1 : Nat) : Int))), (2, .val (.int .i64 ((i.2.1 : Nat) : Int))), (3, .val (.int .i64 ((i.2.2.1 : Nat) : Int))), (8, .val (.bool i.2.2.2.1)), (9, .val (.bool i.2.2.2.2.1))])
    (fun i w' => Ext w0 w' ∧ i.1 ≤ i.2.1 ∧ i.2.1 ≤ D0.size ∧ i.2.2.2.2.2.size = D0.size ∧ i.2.1 - i.1 ≤ hi - lo ∧ i.2.2.1 < 4611686018427387904 ∧ Go.Sort.Below Go.Sort.ltInt i.1 i.2.1 i.2.2.2.2.2 ∧ (∀ R, Go.Sort.PermIn i.1 i.2.1 i.2.2.2.2.2 R → Go.Sort.SortedIn Go.Sort.ltInt i.1 i.2.1 R → Go.Sort.PermIn lo hi D0 R ∧ Go.Sort.SortedIn Go.Sort.ltInt lo hi R) ∧ coA w0 w' b cap n i.2.2.2.2.2) (fun i => i.2.1 - i.1)
    (fun w2 e2 => ⟨(lo, hi, lim, true, true, D0), ⟨he0.trans e2, h1, h2, rfl, Nat.le_refl _, hl0, hB0, fun R p s => ⟨p, s⟩, ho0.ext e2⟩, by dsimp only; exact (by repeat' (first | exact Sub.nil | refine Sub.val rfl (by first | with_reducible rfl | (congr 1; omega)) ?_ | refine Sub.same rfl ?_))⟩) ?_
  rintro ⟨a, z, l, wb, wp, D⟩ w1 ⟨he1, haz, hz, hs1, hza, hl1, hB1, hG1, ho1⟩
  dsimp only at haz hz hs1 hza hl1 hB1 hG1 ho1 ⊢
  by_cases h12 : z - a ≤ 12
  · have q0 : True := trivial
    repeat' (first|(refine oLA ?_;first|refine a0A rfl ?_|(refine oD 21 ?_; refine a9A rfl rfl rfl (by dsimp only [fits]; omega) ?_; rw [show ((z : Int) - a) = ((z - a : Nat) : Int) by omega])|(refine oD 27 ?_; refine a4A (hK _ _ (fdA (f := 155) (fun w' => Ext w0 w' ∧ coA w0 w' b cap n (Go.Sort.insertionSort Go.Sort.ltInt D a z)) (fun w' e => uzA (he1.trans e) (ho1.ext e) (hn.trans hs1.symm) a z haz (by omega) (by omega)) rfl (by decide) rfl rfl rfl rfl (fun w2 hw2 => ?_))); clear hK K; obtain ⟨he2, ho2⟩ := hw2)|refine wOp ?_|(refine wCm ?_ ?_<;>intro hc)|(refine wNl hK ?_;clear hK K))|refine wG ?_|(refine wCR ?_;intro K hK)|fail)
    have hh := Go.Sort.insertionSort_holds (lt := Go.Sort.ltInt) swo D a z haz (by omega)
    have hg := hG1 _ hh.1 hh.2
    exact b2A rfl (fun w5 e5 => ⟨rfl, he2.trans e5, _, hg.1, hg.2, ho2.ext e5⟩) (.inr rfl)
  by_cases hlz : l = 0
  · have q0 : True := trivial
    repeat' (first|(refine oLA ?_;first|refine a0A rfl ?_|(refine oD 21 ?_; refine a9A rfl rfl rfl (by dsimp only [fits]; omega) ?_; rw [show ((z : Int) - a) = ((z - a : Nat) : Int) by omega])|(refine oD 33 ?_; refine a4A (hK _ _ (fdA (f := 156) (fun w' => Ext w0 w' ∧ coA w0 w' b cap n (Go.Sort.heapSort Go.Sort.ltInt D a z)) (fun w' e => r7A (he1.trans e) (ho1.ext e) (hn.trans hs1.symm) a z haz (by omega) (by omega)) rfl (by decide) rfl rfl rfl rfl (fun w2 hw2 => ?_))); clear hK K; obtain ⟨he2, ho2⟩ := hw2)|refine wOp ?_|(refine wCm ?_ ?_<;>intro hc)|(refine wNl hK ?_;clear hK K))|refine wG ?_|(refine wCR ?_;intro K hK)|fail)
    have hh := Go.Sort.heapSort_holds (lt := Go.Sort.ltInt) swo D a z haz (by omega)
    have hg := hG1 _ hh.1 hh.2
    exact b2A rfl (fun w5 e5 => ⟨rfl, he2.trans e5, _, hg.1, hg.2, ho2.ext e5⟩) (.inr rfl)
  repeat' (first|(refine oLA ?_;first|refine a0A rfl ?_|(refine oD 21 ?_; refine a9A rfl rfl rfl (by dsimp only [fits]; omega) ?_; rw [show ((z : Int) - a) = ((z - a : Nat) : Int) by omega])|refine wOp ?_|(refine wCm ?_ ?_<;>intro hc)|(refine wNl hK ?_;clear hK K))|(refine oCX ?_;first|refine j7A (id := 7) ?_)|refine wG ?_|(refine wCR ?_;intro K hK)|fail)
  refine pzA (cqA (id := 7) (ι := Nat × Array Int) (fun i => [(0, .val (.slice (some ⟨b, 0, none⟩) n cap)), (1, .val (.int .i64 ((a : Nat) : Int))), (2, .val (.int .i64 ((z : Nat) : Int))), (3, .val (.int .i64 ((i.1 : Nat) : Int))), (8, .val (.bool wb)), (9, .val (.bool wp)), (10, .val (.int .i64 ((z - a : Nat) : Int)))]) (fun i w' => i.1 < 4611686018427387904 ∧ Go.Sort.PermIn a z D i.2 ∧ Ext w0 w' ∧ coA w0 w' b cap n i.2) ?_ ?_)
  · cases wb
    · have q0 : True := trivial
      repeat' (first|(refine oLA ?_;first|refine a0A rfl ?_|(refine oD 39 ?_; refine a4A (hK _ _ (fdA (f := 157) (fun w' => Ext w0 w' ∧ ∃ D', Go.Sort.PermIn a z D D' ∧ coA w0 w' b cap n D') (fun w' e => vhA (he1.trans e) (ho1.ext e) (hn.trans hs1.symm) a z haz (by omega) (by omega)) rfl (by decide) rfl rfl rfl rfl (fun w2 hw2 => ?_))); clear hK K; obtain ⟨he2, D2, hp2, ho2⟩ := hw2)|(refine oD 41 ?_; refine a9A rfl rfl rfl (by dsimp only [fits]; omega) ?_; rw [show ((l : Int) - 1) = ((l - 1 : Nat) : Int) by omega])|refine wOp ?_|(refine wCm ?_ ?_<;>intro hc)|(refine wNl hK ?_;clear hK K))|refine wG ?_|(refine wCR ?_;intro K hK)|fail)
      exact a7A (l - 1, D2) (fun w6 e6 => ⟨by dsimp only; omega, hp2, he2.trans e6, ho2.ext e6⟩) (by omega) (by dsimp only; exact (by repeat' (first | exact Sub.nil | refine Sub.val rfl (by first | with_reducible rfl | (congr 1; omega)) ?_ | refine Sub.same rfl ?_)))
    · have q0 : True := trivial
      repeat' (first|(refine oLA ?_;first|refine a0A rfl ?_|refine wOp ?_|(refine wCm ?_ ?_<;>intro hc)|(refine wNl hK ?_;clear hK K))|refine wG ?_|(refine wCR ?_;intro K hK)|fail)
      exact a7A (l, D) (fun w6 e6 => ⟨hl1, Go.Sort.permIn_refl _ _ _, he1.trans e6, ho1.ext e6⟩) (by omega) (by dsimp only; exact (by repeat' (first | exact Sub.nil | refine Sub.val rfl (by first | with_reducible rfl | (congr 1; omega)) ?_ | refine Sub.same rfl ?_)))
  rintro ⟨l2, D2⟩ w2 ⟨hl2, hp2, he2, ho2⟩
  dsimp only at hl2 hp2 ho2 ⊢
  have hs2 : D2.size = D0.size := hp2.1.trans hs1
  repeat' (first|(refine oLA ?_;first|refine a0A rfl ?_|(refine oD 46 ?_; refine a4A (hK _ _ (c1A (f := 158) rfl (by decide) rfl rfl rfl rfl (fun v w' => ∃ (p : Nat) (h : Int), v = .tuple #[.int .i64 p, .int .i64 h] ∧ (a ≤ p ∧ p < z) ∧ Ext w0 w' ∧ coA w0 w' b cap n D2) (fun w' e => (vcA (he2.trans e) (ho2.ext e) (hn.trans hs2.symm) (by omega) a z (by omega) (by omega)).mono (by rintro e5 w5 ⟨p, h, h1, h2⟩; exact ⟨_, h1, p, h, rfl, h2⟩)) (fun v w3 hv => ?_))); clear hK K; obtain ⟨pv, hint, rfl, bpv, he3, ho3⟩ := hv)|(refine oD 54 ?_; refine a4A (hK _ _ (fdA (f := 159) (fun w' => Ext w0 w' ∧ coA w0 w' b cap n (Go.Sort.reverseRange D2 a z)) (fun w' e => u9A (he3.trans e) (ho3.ext e) (hn.trans hs2.symm) a z (by omega) (by omega) (by omega)) rfl (by decide) rfl rfl rfl rfl (fun w4 hw4 => ?_))); clear hK K; obtain ⟨he4, ho4⟩ := hw4)|(refine oD 60 ?_; refine a9A rfl rfl rfl (by dsimp only [fits]; omega) ?_; rw [show ((z : Int) - 1 - ((pv : Int) - a)) = ((z - 1 - (pv - a) : Nat) : Int) by omega])|(refine c5A rfl rfl ?_)|(refine c4A rfl rfl ?_)|refine wOp ?_|(refine wCm ?_ ?_<;>intro hc)|(refine wNl hK ?_;clear hK K))|(refine oCX ?_;first|refine j7A (id := 15) ?_|refine cqA (id := 11) (ι := Nat × Int × Array Int) (fun i => [(0, .val (.slice (some ⟨b, 0, none⟩) n cap)), (1, .val (.int .i64 ((a : Nat) : Int))), (2, .val (.int .i64 ((z : Nat) : Int))), (3, .val (.int .i64 ((l2 : Nat) : Int))), (8, .val (.bool wb)), (9, .val (.bool wp)), (10, .val (.int .i64 ((z - a : Nat) : Int))), (11, .val (.int .i64 ((i.1 : Nat) : Int))), (12, .val (.int .i64 i.2.1))]) (fun i w' => (a ≤ i.1 ∧ i.1 < z) ∧ Go.Sort.PermIn a z D i.2.2 ∧ Ext w0 w' ∧ coA w0 w' b cap n i.2.2) ?_ ?_)|refine wG ?_|(refine wCR ?_;intro K hK)|(refine oLX ?_;first|(refine amA rfl ?_; intro K hK))|fail)
  · exact a7A (z - 1 - (pv - a), 1, Go.Sort.reverseRange D2 a z) (fun w6 e6 => ⟨by dsimp only; omega, Go.Sort.permIn_trans _ _ _ _ _ hp2 (Go.Sort.reverseRange_holds D2 a z haz (by omega)), he4.trans e6, ho4.ext e6⟩) (by omega) (by dsimp only; exact (by repeat' (first | exact Sub.nil | refine Sub.val rfl (by first | with_reducible rfl | (congr 1; omega)) ?_ | refine Sub.same rfl ?_)))
  · exact a7A (pv, hint, D2) (fun w6 e6 => ⟨bpv, hp2, he3.trans e6, ho3.ext e6⟩) (by omega) (by dsimp only; exact (by repeat' (first | exact Sub.nil | refine Sub.val rfl (by first | with_reducible rfl | (congr 1; omega)) ?_ | refine Sub.same rfl ?_)))
  rintro ⟨p3, hint3, D3⟩ w3 ⟨bp3, hp3, he3, ho3⟩
  dsimp only at bp3 hp3 ho3 ⊢
  clear ho2 he2 hp2 hs2
  have hs3 : D3.size = D0.size := hp3.1.trans hs1
  have hB3 : Go.Sort.Below Go.Sort.ltInt a z D3 := hB1.perm (by omega) hp3
  have hpi := Go.Sort.partialInsertionSort_holds (lt := Go.Sort.ltInt) swo D3 a z (by omega) (by omega) hB3
  refine cqA (id := 15) (ι := Array Int) (fun i => [(0, .val (.slice (some ⟨b, 0, none⟩) n cap)), (1, .val (.int .i64 ((a : Nat) : Int))), (2, .val (.int .i64 ((z : Nat) : Int))), (3, .val (.int .i64 ((l2 : Nat) : Int))), (8, .val (.bool wb)), (9, .val (.bool wp)), (10, .val (.int .i64 ((z - a : Nat) : Int))), (11, .val (.int .i64 ((p3 : Nat) : Int)))]) (fun i w' => Go.Sort.PermIn a z D i ∧ Ext w0 w' ∧ coA w0 w' b cap n i) ?_ ?_
  · by_cases hh1 : hint3 = 1
    · cases hpb : (Go.Sort.partialInsertionSort Go.Sort.ltInt D3 a z).2 <;> cases wb <;> cases wp
      all_goals
        repeat' (first|(refine oLA ?_;first|refine a0A rfl ?_|(refine oD 72 ?_; refine a4A (hK _ _ (c1A (f := 160) rfl (by decide) rfl rfl rfl rfl (fun v w' => v = .bool (Go.Sort.partialInsertionSort Go.Sort.ltInt D3 a z).2 ∧ Ext w0 w' ∧ coA w0 w' b cap n (Go.Sort.partialInsertionSort Go.Sort.ltInt D3 a z).1) (fun w' e => (qnA (he3.trans e) (ho3.ext e) (hn.trans hs3.symm) a z (by omega) (by omega) (by omega)).mono (by rintro e5 w5 ⟨h1, h2⟩; exact ⟨_, h1, rfl, h2⟩)) (fun v w5 hv => ?_))); clear hK K; obtain ⟨rfl, he5, ho5⟩ := hv; rw [hpb])|(refine c5A rfl rfl ?_)|(refine c4A rfl rfl ?_)|refine wOp ?_|(refine wCm ?_ ?_<;>intro hc)|(refine wNl hK ?_;clear hK K))|refine wG ?_|(refine wCR ?_;intro K hK)|(refine oLX ?_;first|(refine amA rfl ?_; intro K hK))|fail)
      all_goals first
        | (have hg := hG1 _ (Go.Sort.permIn_trans _ _ _ _ _ hp3 hpi.1) (hpi.2 hpb); exact b2A rfl (fun w6 e6 => ⟨rfl, he5.trans e6, _, hg.1, hg.2, ho5.ext e6⟩) (.inr rfl))
        | exact a7A (Go.Sort.partialInsertionSort Go.Sort.ltInt D3 a z).1 (fun w6 e6 => ⟨Go.Sort.permIn_trans _ _ _ _ _ hp3 hpi.1, he5.trans e6, ho5.ext e6⟩) (by omega) (by repeat' (first | exact Sub.nil | refine Sub.val rfl (by first | with_reducible rfl | (congr 1; omega)) ?_ | refine Sub.same rfl ?_))
        | exact a7A D3 (fun w6 e6 => ⟨hp3, he3.trans e6, ho3.ext e6⟩) (by omega) (by repeat' (first | exact Sub.nil | refine Sub.val rfl (by first | with_reducible rfl | (congr 1; omega)) ?_ | refine Sub.same rfl ?_))
    · cases wb <;> cases wp
      all_goals
        repeat' (first|(refine oLA ?_;first|refine a0A rfl ?_|refine wOp ?_|(refine wCm ?_ ?_<;>intro hc)|(refine wNl hK ?_;clear hK K))|refine wG ?_|(refine wCR ?_;intro K hK)|fail)
      all_goals exact a7A D3 (fun w6 e6 => ⟨hp3, he3.trans e6, ho3.ext e6⟩) (by omega) (by repeat' (first | exact Sub.nil | refine Sub.val rfl (by first | with_reducible rfl | (congr 1; omega)) ?_ | refine Sub.same rfl ?_))
  intro D4 w4 ⟨hp4, he4, ho4⟩
  clear hpi hB3 hs3 hp3 ho3 he3
  have hs4 : D4.size = D0.size := hp4.1.trans hs1
  have hl4 := apA D4
  have hB4 : Go.Sort.Below Go.Sort.ltInt a z D4 := hB1.perm (by omega) hp4
  by_cases hc : 0 < a ∧ Go.Sort.ltInt D4[a - 1]! D4[p3]! = false
  · obtain ⟨mid, D5, hx⟩ : ∃ mid D5, Go.Sort.partitionEqual Go.Sort.ltInt D4 a z p3 = (mid, D5) := ⟨_, _, rfl⟩
    obtain ⟨r1, r2, r3, r4, r5⟩ := Go.Sort.round_eq swo (Go.Sort.partitionEqual_holds Go.Sort.ltInt) hc.1 bp3.1 bp3.2 (by omega) hB4 hc.2 hx
    repeat' (first|(refine oLA ?_;first|refine a0A rfl ?_|(refine oD 79 ?_; refine a6A rfl rfl (fun _ => rfl) rfl rfl (a - 1) (by omega) (by omega) ?_)|(refine oI ?_; refine a6A rfl rfl (fun _ => rfl) rfl rfl _ rfl (by omega) ?_)|(refine oL ?_; refine aeA ho4 rfl (fun _ => rfl) rfl (by omega) ?_; rw [cbA])|(refine oD 92 ?_; refine a4A (hK _ _ (d5A (f := 162) rfl (by decide) rfl rfl rfl rfl rfl (fun v w' => v = .int .i64 (mid : Int) ∧ Ext w0 w' ∧ coA w0 w' b cap n D5) (fun w' e => (nvA (he4.trans e) (ho4.ext e) (hn.trans hs4.symm) a z p3 (by omega) (by omega) (by omega) (by omega)).mono (by rw [hx]; rintro e5 w5 ⟨h1, h2⟩; exact ⟨_, h1, rfl, h2⟩)) (fun v w6 hv => ?_))); clear hK K; obtain ⟨rfl, he6, ho6⟩ := hv)|(refine c5A rfl rfl ?_)|(refine c4A rfl rfl ?_)|refine wOp ?_|(refine wCm ?_ ?_<;>intro hc)|(refine oCv ?_;first|(refine oC 161 ?_; refine a3A (f := 161) rfl rfl rfl rfl  (.val (.bool false)) (by intro u1 u2 w e hu1 hu2; (try obtain rfl : u1 = _ := hu1); (try obtain rfl : u2 = _ := hu2); exact agA (by rw [hc.2]) (auA _ _ _)) ?_))|(refine wNl hK ?_;clear hK K))|refine wG ?_|(refine wCR ?_;intro K hK)|(refine oLX ?_;first|(refine amA rfl ?_; intro K hK))|fail)
    exact a7A (mid, z, l2, wb, wp, D5) (fun w7 e7 => ⟨he6.trans e7, by dsimp only; omega, by dsimp only; omega, by dsimp only; exact r3.trans hs4, by dsimp only; omega, hl2, r4, fun R p s => hG1 R (Go.Sort.permIn_trans _ _ _ _ _ hp4 (r5 R p s).1) (r5 R p s).2, ho6.ext e7⟩) (by dsimp only; omega) (by dsimp only; exact (by repeat' (first | exact Sub.nil | refine Sub.val rfl (by first | with_reducible rfl | (congr 1; omega)) ?_ | refine Sub.same rfl ?_)))
  refine cqA (id := 17) (ι := Unit) (fun _ => [(0, .val (.slice (some ⟨b, 0, none⟩) n cap)), (1, .val (.int .i64 ((a : Nat) : Int))), (2, .val (.int .i64 ((z : Nat) : Int))), (3, .val (.int .i64 ((l2 : Nat) : Int))), (8, .val (.bool wb)), (9, .val (.bool wp)), (10, .val (.int .i64 ((z - a : Nat) : Int))), (11, .val (.int .i64 ((p3 : Nat) : Int)))]) (fun _ w' => Ext w0 w' ∧ coA w0 w' b cap n D4) ?_ ?_
  · by_cases ha0 : 0 < a
    · cases hp : Go.Sort.ltInt D4[a - 1]! D4[p3]!
      · exact absurd ⟨ha0, hp⟩ hc
      · have q0 : True := trivial
        repeat' (first|(refine oLA ?_;first|refine a0A rfl ?_|(refine oD 79 ?_; refine a6A rfl rfl (fun _ => rfl) rfl rfl (a - 1) (by omega) (by omega) ?_)|(refine oI ?_; refine a6A rfl rfl (fun _ => rfl) rfl rfl _ rfl (by omega) ?_)|(refine oL ?_; refine aeA ho4 rfl (fun _ => rfl) rfl (by omega) ?_; rw [cbA])|refine wOp ?_|(refine wCm ?_ ?_<;>intro hc)|(refine oCv ?_;first|(refine oC 161 ?_; refine a3A (f := 161) rfl rfl rfl rfl  (.val (.bool true)) (by intro u1 u2 w e hu1 hu2; (try obtain rfl : u1 = _ := hu1); (try obtain rfl : u2 = _ := hu2); exact agA (by rw [hp]) (auA _ _ _)) ?_))|(refine wNl hK ?_;clear hK K))|refine wG ?_|(refine wCR ?_;intro K hK)|fail)
        exact a7A () (fun w7 e7 => ⟨he4.trans e7, ho4.ext e7⟩) (by omega) (by repeat' (first | exact Sub.nil | refine Sub.val rfl (by first | with_reducible rfl | (congr 1; omega)) ?_ | refine Sub.same rfl ?_))
    · have q0 : True := trivial
      repeat' (first|(refine oLA ?_;first|refine a0A rfl ?_|refine wOp ?_|(refine wCm ?_ ?_<;>intro hc)|(refine wNl hK ?_;clear hK K))|refine wG ?_|(refine wCR ?_;intro K hK)|fail)
      exact a7A () (fun w7 e7 => ⟨he4.trans e7, ho4.ext e7⟩) (by omega) (by repeat' (first | exact Sub.nil | refine Sub.val rfl (by first | with_reducible rfl | (congr 1; omega)) ?_ | refine Sub.same rfl ?_))
  · intro _ w5 ⟨he5, ho5⟩
    obtain ⟨mid, ap, D5, hx⟩ : ∃ mid ap D5, Go.Sort.partition Go.Sort.ltInt D4 a z p3 = (mid, ap, D5) := ⟨_, _, _, rfl⟩
    obtain ⟨r1, r2, r3, hBa, hBr, hleft, hright⟩ := Go.Sort.round_part swo (Go.Sort.partition_holds Go.Sort.ltInt) bp3.1 bp3.2 (by omega) hB4 hx
    repeat' (first|(refine oLA ?_;first|refine a0A rfl ?_|(refine oD 99 ?_; refine a4A (hK _ _ (d5A (f := 163) rfl (by decide) rfl rfl rfl rfl rfl (fun v w' => v = .tuple #[.int .i64 (mid : Int), .bool ap] ∧ Ext w0 w' ∧ coA w0 w' b cap n D5) (fun w' e => (qrA (he5.trans e) (ho5.ext e) (hn.trans hs4.symm) a z p3 (by omega) (by omega) (by omega) (by omega)).mono (by rw [hx]; rintro e5 w5 ⟨h1, h2⟩; exact ⟨_, h1, rfl, h2⟩)) (fun v wA hv => ?_))); clear hK K; obtain ⟨rfl, heA, hoA⟩ := hv)|(refine oD 105 ?_; refine a9A rfl rfl rfl (by dsimp only [fits]; omega) ?_; rw [show ((mid : Int) - a) = ((mid - a : Nat) : Int) by omega])|(refine oD 108 ?_; refine a9A rfl rfl rfl (by dsimp only [fits]; omega) ?_; rw [show ((z : Int) - mid) = ((z - mid : Nat) : Int) by omega])|(refine oD 123 ?_; refine ayA rfl rfl rfl (by dsimp only [fits]; omega) ?_; rw [show ((mid : Int) + 1) = ((mid + 1 : Nat) : Int) by omega])|(refine oD 129 ?_; refine ayA rfl rfl rfl (by dsimp only [fits]; omega) ?_; rw [show ((mid : Int) + 1) = ((mid + 1 : Nat) : Int) by omega])|(refine oD 121 ?_; refine a4A (hK _ _ (eiA (f := 112) (fun w' => Ext w0 w' ∧ ∃ D', Go.Sort.PermIn a mid D5 D' ∧ Go.Sort.SortedIn Go.Sort.ltInt a mid D' ∧ coA w0 w' b cap n D') (fun w' e => ih (m - 1) (by omega) (heA.trans e) (hoA.ext e) (hn.trans (r3.trans hs4).symm) (by omega) a mid l2 (by omega) (by omega) (by omega) hBa hl2) rfl (by decide) rfl rfl rfl rfl rfl (fun w6 hw6 => ?_))); clear hK K; obtain ⟨he6, D6, hp6, hs6, ho6⟩ := hw6)|(refine oD 132 ?_; refine a4A (hK _ _ (eiA (f := 112) (fun w' => Ext w0 w' ∧ ∃ D', Go.Sort.PermIn (mid + 1) z D5 D' ∧ Go.Sort.SortedIn Go.Sort.ltInt (mid + 1) z D' ∧ coA w0 w' b cap n D') (fun w' e => ih (m - 1) (by omega) (heA.trans e) (hoA.ext e) (hn.trans (r3.trans hs4).symm) (by omega) (mid + 1) z l2 (by omega) (by omega) (by omega) hBr hl2) rfl (by decide) rfl rfl rfl rfl rfl (fun w6 hw6 => ?_))); clear hK K; obtain ⟨he6, D6, hp6, hs6, ho6⟩ := hw6)|(refine c5A rfl rfl ?_)|(refine c4A rfl rfl ?_)|refine wOp ?_|(refine wCm ?_ ?_<;>intro hc)|(refine wNl hK ?_;clear hK K))|refine wG ?_|(refine wCR ?_;intro K hK)|(refine oLX ?_;first|(refine amA rfl ?_; intro K hK))|fail)
    · exact a7A (mid + 1, z, l2, true, ap, D6) (fun w7 e7 => ⟨he6.trans e7, by dsimp only; omega, by dsimp only; omega, by dsimp only; exact hp6.1.trans (r3.trans hs4), by dsimp only; omega, hl2, (hleft D6 hp6 hs6).1, fun R p s => hG1 R (Go.Sort.permIn_trans _ _ _ _ _ hp4 ((hleft D6 hp6 hs6).2 R p s).1) ((hleft D6 hp6 hs6).2 R p s).2, ho6.ext e7⟩) (by dsimp only; omega) (by dsimp only; exact (by repeat' (first | exact Sub.nil | refine Sub.val rfl (by first | with_reducible rfl | (congr 1; omega)) ?_ | refine Sub.same rfl ?_)))
    · exact a7A (mid + 1, z, l2, false, ap, D6) (fun w7 e7 => ⟨he6.trans e7, by dsimp only; omega, by dsimp only; omega, by dsimp only; exact hp6.1.trans (r3.trans hs4), by dsimp only; omega, hl2, (hleft D6 hp6 hs6).1, fun R p s => hG1 R (Go.Sort.permIn_trans _ _ _ _ _ hp4 ((hleft D6 hp6 hs6).2 R p s).1) ((hleft D6 hp6 hs6).2 R p s).2, ho6.ext e7⟩) (by dsimp only; omega) (by dsimp only; exact (by repeat' (first | exact Sub.nil | refine Sub.val rfl (by first | with_reducible rfl | (congr 1; omega)) ?_ | refine Sub.same rfl ?_)))
    · exact a7A (a, mid, l2, true, ap, D6) (fun w7 e7 => ⟨he6.trans e7, by dsimp only; omega, by dsimp only; omega, by dsimp only; exact hp6.1.trans (r3.trans hs4), by dsimp only; omega, hl2, (hright D6 hp6 hs6).1, fun R p s => hG1 R (Go.Sort.permIn_trans _ _ _ _ _ hp4 ((hright D6 hp6 hs6).2 R p s).1) ((hright D6 hp6 hs6).2 R p s).2, ho6.ext e7⟩) (by dsimp only; omega) (by dsimp only; exact (by repeat' (first | exact Sub.nil | refine Sub.val rfl (by first | with_reducible rfl | (congr 1; omega)) ?_ | refine Sub.same rfl ?_)))
    · exact a7A (a, mid, l2, false, ap, D6) (fun w7 e7 => ⟨he6.trans e7, by dsimp only; omega, by dsimp only; omega, by dsimp only; exact hp6.1.trans (r3.trans hs4), by dsimp only; omega, hl2, (hright D6 hp6 hs6).1, fun R p s => hG1 R (Go.Sort.permIn_trans _ _ _ _ _ hp4 ((hright D6 hp6 hs6).2 R p s).1) ((hright D6 hp6 hs6).2 R p s).2, ho6.ext e7⟩) (by dsimp only; omega) (by dsimp only; exact (by repeat' (first | exact Sub.nil | refine Sub.val rfl (by first | with_reducible rfl | (congr 1; omega)) ?_ | refine Sub.same rfl ?_)))
set_option maxHeartbeats 1000000 in
theorem insN32_c {w : World} : Fc Tryz.prog 155 #[.slice none 0 0, .int .i64 0, .int .i64 0] w (fun e w' => e = .returned (.tuple #[]) ∧ Ext w w') := by
  refine Fc.of (args := [_, _, _]) Tryz.func155 rfl rfl Tryz.ntmps155 (Nat.le_of_ble_eq_true rfl) ?_
  repeat' (first|(refine oLA ?_;first|refine a0A rfl ?_|refine wOp ?_|(refine wCm ?_ ?_<;>intro hc)|(refine wNl hK ?_;clear hK K))|refine wG ?_|(refine wCR ?_;intro K hK)|fail)
  refine b8A (ι := Unit) (fun i => [(0, .val (.slice none 0 0)), (2, .val (.int .i64 0)), (6, .val (.int .i64 1))]) (fun _ => True) (fun _ => 0) () trivial (by repeat' (first | exact Sub.nil | refine Sub.val rfl (by first | with_reducible rfl | (congr 1; omega)) ?_ | refine Sub.same rfl ?_)) ?_
  rintro _ -
  repeat' (first|(refine oLA ?_;first|refine a0A rfl ?_|refine wOp ?_|(refine wCm ?_ ?_<;>intro hc)|(refine wNl hK ?_;clear hK K))|refine wG ?_|(refine wCR ?_;intro K hK)|fail)
  exact b2A rfl (fun w5 e5 => ⟨rfl, e5⟩) (.inl rfl)
theorem qpA {w : World} (lim : Nat) (hl : lim < 4611686018427387904) : Fc Tryz.prog 112 #[.slice none 0 0, .int .i64 0, .int .i64 0, .int .i64 lim] w (fun e w' => e = .returned (.tuple #[]) ∧ Ext w w') := by
  refine Fc.of (args := [_, _, _, _]) Tryz.func112 rfl rfl Tryz.ntmps112 (Nat.le_of_ble_eq_true rfl) ?_
  repeat' (first|(refine oLA ?_;first|refine a0A rfl ?_|refine wOp ?_|(refine wCm ?_ ?_<;>intro hc)|(refine wNl hK ?_;clear hK K))|refine wG ?_|(refine wCR ?_;intro K hK)|fail)
  refine b8A (ι := Unit) (fun i => [(0, .val (.slice none 0 0)), (1, .val (.int .i64 0)), (2, .val (.int .i64 0)), (3, .val (.int .i64 lim))]) (fun _ => True) (fun _ => 0) () trivial (by repeat' (first | exact Sub.nil | refine Sub.val rfl (by first | with_reducible rfl | (congr 1; omega)) ?_ | refine Sub.same rfl ?_)) ?_
  rintro _ -
  repeat' (first|(refine oLA ?_;first|refine a0A rfl ?_|(refine oD 27 ?_; refine a4A (hK _ _ (fdA (f := 155) (fun w' => Ext w w') (fun w' e => insN32_c.mono (by rintro e5 w5 ⟨h1, h2⟩; exact ⟨h1, e.trans h2⟩)) rfl (by decide) rfl rfl rfl rfl (fun w2 hw2 => ?_))); clear hK K)|refine wOp ?_|(refine wCm ?_ ?_<;>intro hc)|(refine wNl hK ?_;clear hK K))|refine wG ?_|(refine wCR ?_;intro K hK)|fail)
  exact b2A rfl (fun w5 e5 => ⟨rfl, hw2.trans e5⟩) (.inr rfl)
set_option maxHeartbeats 1000000 in
theorem sort32_c {w0 w : World} {v : Value} {xs : List Int} (he0 : Ext w0 w) (ho : OwnI w0.heap.size 39 .u32 w v xs) (hb : xs.length < 4611686018427387904) :
    Fc Tryz.prog 61 #[v] w (fun e w' => e = .returned (.tuple #[]) ∧ Ext w0 w' ∧ OwnI w0.heap.size 39 .u32 w' v (xs.mergeSort (fun x y => decide (x ≤ y)))) := by
  rcases ho.2 with ⟨rfl, h0⟩ | ⟨b, cap, cur, rfl, hx⟩
  · have hx0 : xs = [] := List.eq_nil_of_length_eq_zero h0
    subst hx0
    refine Fc.of (args := [_]) Tryz.func61 rfl rfl Tryz.ntmps61 (Nat.le_of_ble_eq_true rfl) ?_
    repeat' (first|(refine oLA ?_;first|refine a0A rfl ?_|(refine cyA ?_; refine bmA rfl _ rfl rfl (by exact (HasI.val (OwnI.slI ho)).c) ?_)|(refine oD 10 ?_; refine a4A (hK _ _ (eiA (f := 112) (fun w' => Ext w0 w') (fun w' e => (qpA (Go.Sort.bitsLen 0) (by decide)).mono (by rintro e5 w5 ⟨h1, h2⟩; exact ⟨h1, (he0.trans e).trans h2⟩)) rfl (by decide) rfl rfl rfl rfl rfl (fun w2 hw2 => ?_))); clear hK K)|refine wOp ?_|(refine wCm ?_ ?_<;>intro hc)|(refine oCv ?_;first|(refine oC 113 ?_; refine a1A (f := 113) rfl rfl rfl  (.val (.int .i64 (Go.Sort.bitsLen 0 : Nat))) (by intro u1 w e hu1; (try obtain rfl : u1 = _ := hu1); exact hsA 0 (by omega)) ?_))|(refine wNl hK ?_;clear hK K))|refine wG ?_|(refine wCR ?_;intro K hK)|fail)
    exact b2A rfl (fun w5 e5 => ⟨rfl, hw2.trans e5, by rw [List.mergeSort_nil]; exact OwnI.nil⟩) (.inl rfl)
  · have hk : Go.Sort.bitsLen xs.length ≤ 62 := (Go.Sort.bitsLen_le_iff _ 62).2 (by omega)
    have ho1 : coA w0 w b cap xs.length xs.toArray := ho
    refine Fc.of (args := [_]) Tryz.func61 rfl rfl Tryz.ntmps61 (Nat.le_of_ble_eq_true rfl) ?_
    repeat' (first|(refine oLA ?_;first|refine a0A rfl ?_|(refine cyA ?_; refine bmA rfl _ rfl rfl (by exact (HasI.val (OwnI.slI ho)).c) ?_)|(refine oD 10 ?_; refine a4A (hK _ _ (eiA (f := 112) (fun w' => Ext w0 w' ∧ ∃ D', Go.Sort.PermIn 0 xs.length xs.toArray D' ∧ Go.Sort.SortedIn Go.Sort.ltInt 0 xs.length D' ∧ coA w0 w' b cap xs.length D') (fun w' e => ugA xs.length (he0.trans e) (ho1.ext e) (by simp) (by simpa using hb) 0 xs.length (Go.Sort.bitsLen xs.length) (by omega) (by omega) (by simp) (.inl rfl) (by omega)) rfl (by decide) rfl rfl rfl rfl rfl (fun w2 hw2 => ?_))); clear hK K; obtain ⟨he2, D', hp, hs, ho2⟩ := hw2)|refine wOp ?_|(refine wCm ?_ ?_<;>intro hc)|(refine oCv ?_;first|(refine oC 113 ?_; refine a1A (f := 113) rfl rfl rfl  (.val (.int .i64 (Go.Sort.bitsLen xs.length : Nat))) (by intro u1 w e hu1; (try obtain rfl : u1 = _ := hu1); exact hsA xs.length (by omega)) ?_))|(refine wNl hK ?_;clear hK K))|refine wG ?_|(refine wCR ?_;intro K hK)|fail)
    have hu := Go.Sort.sorted_unique_holds (lt := Go.Sort.ltInt) Go.Sort.swo_ltInt (by intro x y h1 h2; simp [Go.Sort.ltInt] at h1 h2; omega) xs.toArray D' (by simpa using hp) (by simpa using hs)
    have hle : (fun x y : Int => !Go.Sort.ltInt y x) = (fun x y => decide (x ≤ y)) := by
      funext x y; unfold Go.Sort.ltInt; by_cases h : x ≤ y <;> simp [h] <;> omega
    rw [hle] at hu
    exact b2A rfl (fun w5 e5 => ⟨rfl, he2.trans e5, by have h3 := OwnI.ext ho2 e5; rw [hu] at h3; exact h3⟩) (.inl rfl)
end Srt
end Go.Proofs.YtfcioiobhpcngaaGreatDoor
end
section
set_option linter.unusedSimpArgs false
set_option linter.unusedVariables false
set_option maxRecDepth 3000
namespace Go.Proofs.YtfcioiobhpcngaaGreatDoor
open Go.LA Go.ArrP Go.RowKit
variable {A B : Nat → Prop}
theorem teA : El Tryz.prog 45 39 (.int .u32 0) 1 4 := ⟨rfl, rfl, rfl, by decide⟩
theorem owA (w : World) (v : Value) (n : Nat) (cs : List Value) (h : SlC w v n 1 cs) (h1 : ∀ u ∈ cs, u.oneCell' = true) (hb : n * 4 ≤ 140737488355328) : Fc Tryz.prog 60 #[v] w (Ret w (.pred (hpA w.heap.size 39 1 n cs))) := by
  obtain ⟨h0, a, cap, rfl, hc, hm, hn, hcs⟩ := id h
  have hlen := h.len
  cases a with
  | none =>
    obtain rfl := hn rfl
    obtain rfl : n = 0 := by omega
    obtain rfl : cs = [] := List.eq_nil_of_length_eq_zero (by omega)
    refine Fc.of (args := [_]) Tryz.func60 rfl rfl Tryz.ntmps60 (Nat.le_of_ble_eq_true rfl) ?_
    repeat' (first|(refine oLA ?_;first|refine a0A rfl ?_|refine c9A (c := .bool true) rfl rfl rfl (fun _ => rfl) ?_|refine wOp ?_|(refine wCm ?_ ?_<;>intro hc)|(refine wNl hK ?_;clear hK K))|refine wG ?_|(refine wCR ?_;intro K hK)|(refine oPX ?_;first|exact alA rfl rfl (Ext.refl _) (fun u w2 e2 hu => by obtain rfl : u = _ := hu; exact Own.nil))|fail)
  | some a =>
    refine Fc.of (args := [_]) Tryz.func60 rfl rfl Tryz.ntmps60 (Nat.le_of_ble_eq_true rfl) ?_
    repeat' (first|(refine oLA ?_;first|refine a0A rfl ?_|refine c9A (c := .bool false) rfl rfl rfl (fun _ => rfl) ?_|refine j5A 39 (s := 1) rfl (fun _ => by kernel_rfl) ?_|(refine a4A (hK _ _ (byA 5 rfl (fun v5 w5 e5 h5 => ?_))); clear hK K; have h6 := h.ext e5; have ho : Own w.heap.size _ _ w5 v5 0 [] := h5; refine amA (by kernel_rfl) (fun K hK => ?_))|(refine a4A (hK _ _ (ctA rfl (by decide) teA rfl ho rfl (HasC.val h6) h1 (by rw [Nat.zero_add]; unfold maxLen; omega) (by rw [Nat.zero_add]; exact hb) e5.size (fun v' w2 w3 he2 ho3 hg3 => ?_))); clear hK K; dsimp only [vals]; refine amA (by kernel_rfl) (fun K hK => ?_))|refine wOp ?_|(refine wCm ?_ ?_<;>intro hc)|(refine wNl hK ?_;clear hK K))|refine wG ?_|(refine wCR ?_;intro K hK)|fail)
    exact alA rfl rfl ((e5.trans he2).grown hg3 (fun q hq => (Own.lt ho q hq).1)) (fun u w4 e4 hu => by
      obtain rfl : u = _ := hu
      have h9 : Own w.heap.size 39 1 w3 u n cs := by simpa using ho3
      exact h9.ext e4)
theorem RS.beside {w1 wa wb : World} {b : Nat} {kv lv va va' : Value} {p : Nat → Bool} {base n : Nat} {cs : List Value} (hS : RS (fun j => A j ∧ va.ownBlock ≠ some j) w1 b kv lv p) (hn : ∀ k, va.ownBlock = some k → ¬ onw b kv lv k) (hva : Own base tK 1 w1 va n cs) (e : Ext w1 wa) (hf : Fr (fun k => va.ownBlock = some k) wa wb) (hl : LocR wa va va') :
    RS (fun j => A j ∧ va'.ownBlock ≠ some j) wb b kv lv p ∧ ∀ k, va'.ownBlock = some k → ¬ onw b kv lv k := by
  have hSa := hS.ext e
  have h1 : RS (fun j => (A j ∧ va.ownBlock ≠ some j) ∧ va'.ownBlock ≠ some j) wa b kv lv p := hSa.mono fun k hk ha _ => ⟨ha, fun h => by
    rcases hl with h' | h'
    · exact ha.2 (h' ▸ h)
    · have := h' k h; omega⟩
  have h2 : Plain (fun j => (A j ∧ va.ownBlock ≠ some j) ∧ va'.ownBlock ≠ some j) (fun k => va.ownBlock = some k) wa := fun k hk => by
    obtain ⟨cur, hc⟩ := bwA (hva.ext e) hk
    exact ⟨cur, _, _, hc, by decide, by decide, fun ha => absurd hk ha.1.2⟩
  refine ⟨(h1.fr hf h2 (fun k hk h => hn k h hk)).mono fun k _ ha _ => ⟨ha.1.1, ha.2⟩, fun k hk ho => ?_⟩
  rcases hl with h' | h'
  · exact hn k (h' ▸ hk) ho
  · have h3 := h' k hk
    have h4 := hSa.lt ho
    omega
theorem RS.off {w : World} {b : Nat} {kv lv v : Value} {p : Nat → Bool} {base e s n : Nat} {cs : List Value} (hS : RS A w b kv lv p) (ho : Own base e s w v n cs) (he : e ≠ tS ∧ e ≠ tK ∧ e ≠ tC) (k : Nat) (hk : v.ownBlock = some k) : ¬ onw b kv lv k := by
  obtain ⟨Q, h1, h2, h3⟩ := hS.hl
  rintro (rfl | h | h)
  · exact Own.apart ho hS.hb he.1 hk
  · obtain ⟨cur, hc⟩ := bwA hS.hk h
    exact Own.apart ho hc he.2.1 hk
  · obtain ⟨cur, hc⟩ := bwA h2 h
    exact Own.apart ho hc he.2.2 hk
theorem t8A {q : Nat → Bool} (hq : ∀ i, 65536 ≤ i → q i = false) : bkA (adA q 65536) = q := by
  funext i
  by_cases h : i < 65536
  · exact c6A q h
  · rw [hq i (by omega)]
    unfold bkA
    exact decide_eq_false fun hm => by
      obtain ⟨j, h1, _, h3⟩ := (buA _ _ _).1 hm
      omega
set_option maxHeartbeats 1000000 in
theorem of_s {w : World} {v : Value} {ys : List Int} (h : SlI .u32 w v ys) (hu0 : ∀ x ∈ ys, 0 ≤ x ∧ x < 4294967296) (hn : ys.length ≤ 1000000000) (hT : Tab w) (hB : Fsh B w) (hA : Fsh A w) : Fc Tryz.prog 25 #[v] w (Ret w (.pred (rsP B A (bkA ys)))) := by
  have hcl : ∀ w', Ext w w' → Fc Tryz.prog 60 #[v] w' (Ret w' (.pred (bjA w'.heap.size 39 .u32 ys))) := fun w' e => owA w' v ys.length (ys.map (Value.int .u32)) (h.ext e) (fun u hu => by obtain ⟨z, _, rfl⟩ := List.mem_map.1 hu; rfl) (by omega)
  obtain ⟨xs, hxs⟩ : ∃ xs, xs = ys.mergeSort (fun x y => decide (x ≤ y)) := ⟨_, rfl⟩
  have hs := o1A ys
  have hmm := umA ys
  have hxl : xs.length = ys.length := by rw [hxs, List.length_mergeSort]
  have hu : ∀ x ∈ xs, 0 ≤ x ∧ x < 4294967296 := fun x hx => hu0 x (by rw [hxs, List.mem_mergeSort] at hx; exact hx)
  rw [← hxs] at hs hmm
  rw [← hmm]
  refine Fc.of (args := [_]) Tryz.func25 rfl rfl Tryz.ntmps25 (Nat.le_of_ble_eq_true rfl) ?_
  repeat' (first|(refine oLA ?_;first|refine a0A rfl ?_|(refine oD 9 ?_; refine a4A (hK _ _ (byA 0 rfl (fun v8 w8 e8 h8 => ?_))); clear hK K; replace h8 : OwnI w.heap.size 39 .u32 w8 v8 ys := h8; refine amA (by kernel_rfl) (fun K hK => dbA rfl rfl ?_))|(refine oD 10 ?_; refine a4A (hK _ _ (fpA rfl (by decide) rfl rfl (fun v w' => v = .tuple #[] ∧ Ext w w' ∧ OwnI w.heap.size 39 .u32 w' v8 xs) (fun w1 e1 => (Srt.sort32_c (e8.trans e1) (h8.ext e1) (by omega)).mono (fun en w' h => ⟨_, h.1, rfl, h.2.1, hxs ▸ h.2.2⟩)) (fun v w20 hm => ?_))); clear hK K; obtain ⟨rfl, x20, h20⟩ := hm)|(refine oD 12 ?_; refine a4A (hK _ _ (byA 3 rfl (fun v3 w3 e3 h3 => ?_))); clear hK K; obtain ⟨b, hbb, rfl, h3⟩ := h3; replace h20 := h20.ext e3; refine amA (by kernel_rfl) (fun K hK => dbA rfl rfl ?_))|(refine cyA ?_; refine bmA rfl _ rfl rfl (HasI.ownV h20).c ?_)|refine wOp ?_|(refine wCm ?_ ?_<;>intro hc)|(refine oCv ?_;first|(refine oC 60 ?_; refine a1A (f := 60) rfl rfl rfl  (.pred (bjA w.heap.size 39 .u32 ys)) (by intro u1 w e hu1; (try obtain rfl : u1 = _ := hu1); exact (hcl _ e).mono (aaA e.size)) ?_)|(refine oC 11 ?_; refine dcA (f := 11) rfl rfl  (.pred (t4A w.heap.size #[nilS, nilS] tS)) (by intro w e; exact (wxA _).mono (lfA (Nat.le_trans x20.size e.size))) ?_))|(refine wNl hK ?_;clear hK K))|refine wG ?_|(refine wCR ?_;intro K hK)|fail)
  all_goals skip
  have hon0 : ∀ k, onw b nilS nilS k → w.heap.size ≤ k := fun k hk => by
    rcases hk with rfl | hk | hk
    · exact hbb
    · cases hk
    · cases hk
  refine ahA (ι := Nat × Value) (fun i => [(0, .val v8), (3, .val (.pointer (some ⟨b, 0, none⟩))), (4, .val i.2), (12, .val v8), (13, .val (.int .i64 xs.length)), (14, .val (.int .i64 i.1))]) (fun i w' => i.1 ≤ xs.length ∧ Ext w w' ∧ OwnI w.heap.size 39 .u32 w' v8 xs ∧ OwnI w.heap.size tK .u16 w' i.2 (ofA xs i.1) ∧ ∃ kv lv, RS (fun j => A j ∧ i.2.ownBlock ≠ some j) w' b kv lv (ofS xs i.1) ∧ (∀ k, onw b kv lv k → w.heap.size ≤ k) ∧ ∀ k, i.2.ownBlock = some k → ¬ onw b kv lv k) (fun i => xs.length - i.1)
    (fun w2 e2 => ⟨(0, nilS), ⟨Nat.zero_le _, x20.trans (e3.trans e2), h20.ext e2, OwnI.nil, nilS, nilS, RS.new (e2.block h3), hon0, fun k hk => by cases hk⟩, (by repeat' (first | exact Sub.nil | refine Sub.val rfl (by first | with_reducible rfl | (congr 1; omega)) ?_ | refine Sub.same rfl ?_))⟩) ?_
  rintro ⟨i, va⟩ w1 ⟨hi, hx1, hv1, hva, kv, lv, hS, hon, hnv⟩
  dsimp only at hi hva hS hnv ⊢
  have hT1 := hT.ext hx1
  have hal : (ofA xs i).length ≤ 65536 := by
    unfold ofA
    split
    · exact Nat.zero_le _
    · rw [baA]; exact cnt_le _ _
  by_cases hil : i < xs.length
  · obtain ⟨c, hc⟩ : ∃ c : Nat, xs.getD i 0 = (c : Int) := ⟨(xs.getD i 0).toNat, by have := hqA hu hil; omega⟩
    have hcb : c < 4294967296 := by have := hqA hu hil; omega
    have hnew := wtA hs hu hil
    have hK2 : ofK xs (i + 1) = c / 65536 := by unfold ofK; rw [Nat.add_sub_cancel, hc, Int.toNat_natCast]
    have ec : IntKind.u16.wrap (c : Int) = ((c % 65536 : Nat) : Int) := by rw [IntKind.wrap_u16]; omega
    rw [hc, Int.toNat_natCast] at hnew
    by_cases hi0 : i = 0
    · rw [if_neg (by omega), if_neg (by omega)] at hnew
      replace hnew := hnew (.inl hi0)
      have hA0 : ofA xs i = [] := by rw [hi0]; rfl
      have hS0 : ofS xs i = fun _ => false := by rw [hi0]; rfl
      have hm0 : bkA (xs.take i) = fun _ => false := by funext x; rw [hi0, List.take_zero]; unfold bkA; exact decide_eq_false (fun h => by cases h)
      rw [hm0] at hnew
      rw [hA0] at hva; rw [hS0] at hS
      repeat' (first|(refine oLA ?_;first|refine a0A rfl ?_|(refine oD 31 ?_; refine bmA (n := 0) rfl _ rfl rfl (HasI.ownV hva).c ?_)|(refine oD 32 ?_; refine g4A rfl rfl rfl rfl (by decide) ?_)|(refine oD 17 ?_; refine asA rfl _ rfl (fun _ => rfl) rfl (HasI.ownV hv1) rfl hil ?_; rw [hc])|(refine oD 56 ?_; refine f0A rfl rfl rfl rfl ?_; rw [ec])|(refine oD 57 ?_; refine ezA rfl clA rfl rfl ?_)|(refine oD 58 ?_; refine a4A (hK _ _ (daA (n := 0) (cs := []) rfl (by decide) clA rfl hva rfl HasC.own (by intro u hu; rw [List.mem_singleton] at hu; subst hu; rfl) (by unfold maxLen; omega) (by omega) (fun v' wa wb' e' ho' hf hl => ?_))); clear hK K; refine amA (by kernel_rfl) (fun K hK => ?_))|refine wOp ?_|(refine wCm ?_ ?_<;>intro hc)|(refine wNl hK ?_;clear hK K))|refine wG ?_|(refine wCR ?_;intro K hK)|fail)
      all_goals skip
      have x4 := hx1.trans e'
      have ho2 : OwnI w.heap.size tK .u16 wb' v' (ofA xs (i + 1)) := by
        rw [hnew.1]; unfold OwnI; rw [List.map_append, List.length_append, List.length_singleton]
        exact Own.rebase ho' (hl.ge (fun k hk => (Own.lt hva k hk).1) x4.size)
      obtain ⟨hS9, hn9⟩ := RS.beside hS hnv hva e' hf hl
      have hv9 := hf.own (hv1.ext e') (fun k h1 h2 => by
        obtain ⟨cur, hcur⟩ := bwA (hv1.ext e') h1
        exact Own.apart (hva.ext e') hcur (by decide) h2)
      have x9 := Fr.ext x4 hf (fun k hk => (Own.lt hva k hk).1)
      exact a7A (i + 1, v') (fun w5 e5 => ⟨hil, x9.trans e5, Own.ext hv9 e5, ho2.ext e5, kv, lv, by dsimp only; rw [hnew.2]; exact hS9.ext e5, hon, hn9⟩) (by dsimp only; omega) (by repeat' (first | exact Sub.nil | refine Sub.val rfl (by first | with_reducible rfl | (congr 1; omega)) ?_ | refine Sub.same rfl ?_))
    · obtain ⟨a, ha⟩ : ∃ a : Nat, xs.getD (i - 1) 0 = (a : Int) := ⟨(xs.getD (i - 1) 0).toNat, by have := hqA hu (i := i - 1) (by omega); omega⟩
      have hab : a < 4294967296 := by have := hqA hu (i := i - 1) (by omega); omega
      have hK1 : ofK xs i = a / 65536 := by unfold ofK; rw [ha, Int.toNat_natCast]
      have hpos := nyA hu (Nat.pos_of_ne_zero hi0) hi
      obtain ⟨K, hKd⟩ : ∃ K, K = ofK xs i := ⟨_, rfl⟩
      have hKlt := t6A hu (Nat.pos_of_ne_zero hi0) hi
      have hfull : upd (ofS xs i) (ofK xs i) (bkA (ofA xs i)) = bkA (xs.take i) := by
        have h1 : bkA (ofA xs i) = blk (bkA (xs.take i)) (ofK xs i) := by
          unfold ofA; rw [if_neg hi0]; exact t8A (fun j hj => doA (by omega))
        rw [h1]; exact nxA hs hu (Nat.pos_of_ne_zero hi0) hi
      have hlast : ∀ j, ofK xs i ≤ j → ne (ofS xs i) j = false := fun j hj => by unfold ofS; rw [if_neg hi0]; exact m3A _ hj
      have hAinc : Inc (ofA xs i) := by unfold ofA; rw [if_neg hi0]; exact bfA _ _
      have hAlow : Low (ofA xs i) := by unfold ofA; rw [if_neg hi0]; exact ckA _
      have hFva : Fsh (fun j => A j ∧ va.ownBlock ≠ some j) w1 := fun j hj => ⟨hA j (Nat.le_trans hx1.size hj), fun h => by have := (Own.lt hva j h).2; omega⟩
      have eK : (a : Int) / 65536 = (K : Int) := by rw [hKd, hK1]; omega
      rw [← hKd] at hKlt hfull hlast
      by_cases hac : a = c
      · have hsame := hrA (Nat.pos_of_ne_zero hi0) hil (by rw [ha, hc, hac])
        have hKK : ofK xs (i + 1) = ofK xs i := by rw [hK1, hK2, hac]
        have hA' : ofA xs (i + 1) = ofA xs i := by unfold ofA; rw [if_neg hi0, if_neg (Nat.succ_ne_zero i), hsame, hKK]
        have hS' : ofS xs (i + 1) = ofS xs i := by unfold ofS; rw [if_neg hi0, if_neg (Nat.succ_ne_zero i), hsame, hKK]
        repeat' (first|(refine oLA ?_;first|refine a0A rfl ?_|(refine oD 17 ?_; refine asA rfl _ rfl (fun _ => rfl) rfl (HasI.ownV hv1) rfl hil ?_; rw [hc])|(refine oD 24 ?_; refine a9A rfl rfl rfl (by dsimp only [fits]; omega) ?_; rw [show ((i : Int) - 1) = ((i - 1 : Nat) : Int) by omega])|(refine oD 25 ?_; refine asA rfl _ rfl (fun _ => rfl) rfl (HasI.ownV hv1) rfl (by omega) ?_; rw [ha])|(refine oD 36 ?_; refine a9A rfl rfl rfl (by dsimp only [fits]; omega) ?_; rw [show ((i : Int) - 1) = ((i - 1 : Nat) : Int) by omega])|(refine oD 37 ?_; refine asA rfl _ rfl (fun _ => rfl) rfl (HasI.ownV hv1) rfl (by omega) ?_; rw [ha])|(refine oD 47 ?_; refine a9A rfl rfl rfl (by dsimp only [fits]; omega) ?_; rw [show ((i : Int) - 1) = ((i - 1 : Nat) : Int) by omega])|(refine oD 48 ?_; refine asA rfl _ rfl (fun _ => rfl) rfl (HasI.ownV hv1) rfl (by omega) ?_; rw [ha])|(refine oB .shr ?_; refine ejA rfl rfl rfl (by decide) (by decide) ?_; rw [show (2 : Int) ^ Int.toNat 16 = 65536 by decide])|(refine oD 56 ?_; refine f0A rfl rfl rfl rfl ?_; rw [ec])|(refine oD 57 ?_; refine ezA rfl clA rfl rfl ?_)|refine wOp ?_|(refine wCm ?_ ?_<;>intro hc)|(refine wNl hK ?_;clear hK K))|refine wG ?_|(refine wCR ?_;intro K hK)|fail)
        all_goals skip
        exact a7A (i + 1, va) (fun w5 e5 => ⟨hil, hx1.trans e5, hv1.ext e5, by dsimp only; rw [hA']; exact hva.ext e5, kv, lv, by dsimp only; rw [hS']; exact hS.ext e5, hon, hnv⟩) (by dsimp only; omega) (by repeat' (first | exact Sub.nil | refine Sub.val rfl (by first | with_reducible rfl | (congr 1; omega)) ?_ | refine Sub.same rfl ?_))
      · replace hnew := hnew (.inr (by rw [ha]; exact fun h => hac (by omega)))
        by_cases hKK : ofK xs i = ofK xs (i + 1)
        · rw [if_pos ⟨Nat.pos_of_ne_zero hi0, hKK⟩, if_pos ⟨Nat.pos_of_ne_zero hi0, hKK⟩] at hnew
          have hk12 : a / 65536 = c / 65536 := by rw [← hK1, hKK, hK2]
          repeat' (first|(refine oLA ?_;first|refine a0A rfl ?_|(refine oD 31 ?_; refine bmA rfl _ rfl rfl (HasI.ownV hva).c ?_)|(refine oD 17 ?_; refine asA rfl _ rfl (fun _ => rfl) rfl (HasI.ownV hv1) rfl hil ?_; rw [hc])|(refine oD 24 ?_; refine a9A rfl rfl rfl (by dsimp only [fits]; omega) ?_; rw [show ((i : Int) - 1) = ((i - 1 : Nat) : Int) by omega])|(refine oD 25 ?_; refine asA rfl _ rfl (fun _ => rfl) rfl (HasI.ownV hv1) rfl (by omega) ?_; rw [ha])|(refine oD 36 ?_; refine a9A rfl rfl rfl (by dsimp only [fits]; omega) ?_; rw [show ((i : Int) - 1) = ((i - 1 : Nat) : Int) by omega])|(refine oD 37 ?_; refine asA rfl _ rfl (fun _ => rfl) rfl (HasI.ownV hv1) rfl (by omega) ?_; rw [ha])|(refine oD 47 ?_; refine a9A rfl rfl rfl (by dsimp only [fits]; omega) ?_; rw [show ((i : Int) - 1) = ((i - 1 : Nat) : Int) by omega])|(refine oD 48 ?_; refine asA rfl _ rfl (fun _ => rfl) rfl (HasI.ownV hv1) rfl (by omega) ?_; rw [ha])|(refine oB .shr ?_; refine ejA rfl rfl rfl (by decide) (by decide) ?_; rw [show (2 : Int) ^ Int.toNat 16 = 65536 by decide])|(refine oD 56 ?_; refine f0A rfl rfl rfl rfl ?_; rw [ec])|(refine oD 57 ?_; refine ezA rfl clA rfl rfl ?_)|(refine oD 58 ?_; refine a4A (hK _ _ (daA (n := (ofA xs i).length) (cs := (ofA xs i).map (Value.int .u16)) rfl (by decide) clA rfl hva rfl HasC.own (by intro u hu; rw [List.mem_singleton] at hu; subst hu; rfl) (by unfold maxLen; omega) (by omega) (fun v' wa wb' e' ho' hf hl => ?_))); clear hK K; refine amA (by kernel_rfl) (fun K hK => ?_))|refine wOp ?_|(refine wCm ?_ ?_<;>intro hc)|(refine wNl hK ?_;clear hK K))|refine wG ?_|(refine wCR ?_;intro K hK)|fail)
          all_goals skip
          have x4 := hx1.trans e'
          have ho2 : OwnI w.heap.size tK .u16 wb' v' (ofA xs (i + 1)) := by
            rw [hnew.1]; unfold OwnI; rw [List.map_append, List.length_append, List.length_singleton]
            exact Own.rebase ho' (hl.ge (fun k hk => (Own.lt hva k hk).1) x4.size)
          obtain ⟨hS9, hn9⟩ := RS.beside hS hnv hva e' hf hl
          have hv9 := hf.own (hv1.ext e') (fun k h1 h2 => by
            obtain ⟨cur, hcur⟩ := bwA (hv1.ext e') h1
            exact Own.apart (hva.ext e') hcur (by decide) h2)
          have x9 := Fr.ext x4 hf (fun k hk => (Own.lt hva k hk).1)
          exact a7A (i + 1, v') (fun w5 e5 => ⟨hil, x9.trans e5, Own.ext hv9 e5, ho2.ext e5, kv, lv, by dsimp only; rw [hnew.2]; exact hS9.ext e5, hon, hn9⟩) (by dsimp only; omega) (by repeat' (first | exact Sub.nil | refine Sub.val rfl (by first | with_reducible rfl | (congr 1; omega)) ?_ | refine Sub.same rfl ?_))
        · rw [if_neg (fun h => hKK h.2), if_neg (fun h => hKK h.2)] at hnew
          have hk12 : a / 65536 ≠ c / 65536 := by rw [← hK1, ← hK2]; exact hKK
          repeat' (first|(refine oLA ?_;first|refine a0A rfl ?_|(refine oD 31 ?_; refine bmA rfl _ rfl rfl (HasI.ownV hva).c ?_)|(refine oD 17 ?_; refine asA rfl _ rfl (fun _ => rfl) rfl (HasI.ownV hv1) rfl hil ?_; rw [hc])|(refine oD 24 ?_; refine a9A rfl rfl rfl (by dsimp only [fits]; omega) ?_; rw [show ((i : Int) - 1) = ((i - 1 : Nat) : Int) by omega])|(refine oD 25 ?_; refine asA rfl _ rfl (fun _ => rfl) rfl (HasI.ownV hv1) rfl (by omega) ?_; rw [ha])|(refine oD 36 ?_; refine a9A rfl rfl rfl (by dsimp only [fits]; omega) ?_; rw [show ((i : Int) - 1) = ((i - 1 : Nat) : Int) by omega])|(refine oD 37 ?_; refine asA rfl _ rfl (fun _ => rfl) rfl (HasI.ownV hv1) rfl (by omega) ?_; rw [ha])|(refine oD 47 ?_; refine a9A rfl rfl rfl (by dsimp only [fits]; omega) ?_; rw [show ((i : Int) - 1) = ((i - 1 : Nat) : Int) by omega])|(refine oD 48 ?_; refine asA rfl _ rfl (fun _ => rfl) rfl (HasI.ownV hv1) rfl (by omega) ?_; rw [ha])|(refine oB .shr ?_; refine ejA rfl rfl rfl (by decide) (by decide) ?_; rw [show (2 : Int) ^ Int.toNat 16 = 65536 by decide])|(refine oD 56 ?_; refine f0A rfl rfl rfl rfl ?_; rw [ec])|(refine oD 57 ?_; refine ezA rfl clA rfl rfl ?_)|refine wOp ?_|(refine wCm ?_ ?_<;>intro hc)|(refine wNl hK ?_;clear hK K))|refine wG ?_|(refine wCR ?_;intro K hK)|fail)
          all_goals skip
          refine a4A (hK _ _ (c1A rfl (by decide) rfl rfl rfl rfl (fun v w' => v = .tuple #[] ∧ ∃ wz, Ext w1 wz ∧ Mut (fun j => A j ∧ va.ownBlock ≠ some j) wz b kv lv (bkA (xs.take i)) w') (fun w8 e8 => ?_) (fun v w2 hm => ?_)))
          · rw [eK]
            exact (t3A (hx1.trans e8) hT hon (hS.ext e8) (hFva.ext e8) hKlt hlast (hva.ext e8).slI hAinc hAlow hpos).mono (fun en w' h => ⟨_, h.1, rfl, _, e8, hfull ▸ h.2⟩)
          clear hK K
          obtain ⟨rfl, wz, ez, kv9, lv9, m1, m2, m3, m4⟩ := hm
          have x2 := Fr.ext (hx1.trans ez) m2 hon
          have hon9 := ijA hon (hx1.trans ez).size m3 m4
          have hv2 : OwnI w.heap.size 39 .u32 w2 v8 xs := m2.own (hv1.ext ez) (RS.off (hS.ext ez) (hv1.ext ez) ⟨by decide, by decide, by decide⟩)
          have hS2 : RS (fun j => A j ∧ nilS.ownBlock ≠ some j) w2 b kv9 lv9 (bkA (xs.take i)) := m1.mono fun j _ ha _ => ⟨ha.1, fun h => by cases h⟩
          repeat' (first|(refine oLA ?_;first|refine a0A rfl ?_|(refine oD 56 ?_; refine f0A rfl rfl rfl rfl ?_; rw [ec])|(refine oD 57 ?_; refine ezA rfl clA rfl rfl ?_)|(refine oD 58 ?_; refine a4A (hK _ _ (daA (n := 0) (cs := []) rfl (by decide) clA rfl (Own.nil (base := w.heap.size) (e := tK) (s := 1)) rfl HasC.own (by intro u hu; rw [List.mem_singleton] at hu; subst hu; rfl) (by unfold maxLen; omega) (by omega) (fun v' wa wb' e' ho' hf hl => ?_))); clear hK K; refine amA (by kernel_rfl) (fun K hK => ?_))|refine wOp ?_|(refine wCm ?_ ?_<;>intro hc)|(refine wNl hK ?_;clear hK K))|refine wG ?_|(refine wCR ?_;intro K hK)|fail)
          all_goals skip
          have hvn : OwnI w.heap.size tK .u16 w2 nilS [] := OwnI.nil
          have x4 := x2.trans e'
          have ho2 : OwnI w.heap.size tK .u16 wb' v' (ofA xs (i + 1)) := by
            rw [hnew.1]; unfold OwnI; rw [List.map_append, List.length_append, List.length_singleton]
            exact Own.rebase ho' (hl.ge (fun k hk => (Own.lt hvn k hk).1) x4.size)
          obtain ⟨hS9, hn9⟩ := RS.beside hS2 (fun k h => by cases h) hvn e' hf hl
          have hv9 := hf.own (hv2.ext e') (fun k h1 h2 => by
            obtain ⟨cur, hcur⟩ := bwA (hv2.ext e') h1
            exact Own.apart (hvn.ext e') hcur (by decide) h2)
          have x9 := Fr.ext x4 hf (fun k hk => (Own.lt hvn k hk).1)
          exact a7A (i + 1, v') (fun w5 e5 => ⟨hil, x9.trans e5, Own.ext hv9 e5, ho2.ext e5, kv9, lv9, by dsimp only; rw [hnew.2]; exact hS9.ext e5, hon9, hn9⟩) (by dsimp only; omega) (by repeat' (first | exact Sub.nil | refine Sub.val rfl (by first | with_reducible rfl | (congr 1; omega)) ?_ | refine Sub.same rfl ?_))
  · have hie : i = xs.length := by omega
    have hmx : bkA (xs.take i) = bkA xs := by rw [hie, List.take_length]
    by_cases hi0 : i = 0
    · have hA0 : ofA xs i = [] := by rw [hi0]; rfl
      have hS0 : ofS xs i = bkA xs := by
        rw [← hmx, hi0, List.take_zero]
        funext x; exact (decide_eq_false (fun h => by cases h) : bkA [] x = false).symm
      rw [hA0] at hva; rw [hS0] at hS
      repeat' (first|(refine oLA ?_;first|refine a0A rfl ?_|(refine oD 61 ?_; refine bmA (n := 0) rfl _ rfl rfl (HasI.ownV hva).c ?_)|(refine oD 62 ?_; refine g4A rfl rfl rfl rfl (by decide) ?_)|refine wOp ?_|(refine wCm ?_ ?_<;>intro hc)|(refine wNl hK ?_;clear hK K))|refine wG ?_|(refine wCR ?_;intro K hK)|fail)
      all_goals skip
      exact alA rfl rfl hx1 (fun u w5 e5 hu => by obtain rfl : u = _ := hu; exact ⟨b, kv, lv, rfl, (hS.ext e5).mono fun j _ ha _ => ha.1, fun k hk => hB k (hon k hk)⟩)
    · obtain ⟨a, ha⟩ : ∃ a : Nat, xs.getD (i - 1) 0 = (a : Int) := ⟨(xs.getD (i - 1) 0).toNat, by have := hqA hu (i := i - 1) (by omega); omega⟩
      have hab : a < 4294967296 := by have := hqA hu (i := i - 1) (by omega); omega
      have hK1 : ofK xs i = a / 65536 := by unfold ofK; rw [ha, Int.toNat_natCast]
      have hpos := nyA hu (Nat.pos_of_ne_zero hi0) hi
      obtain ⟨K, hKd⟩ : ∃ K, K = ofK xs i := ⟨_, rfl⟩
      have hKlt := t6A hu (Nat.pos_of_ne_zero hi0) hi
      have hfull : upd (ofS xs i) (ofK xs i) (bkA (ofA xs i)) = bkA (xs.take i) := by
        have h1 : bkA (ofA xs i) = blk (bkA (xs.take i)) (ofK xs i) := by
          unfold ofA; rw [if_neg hi0]; exact t8A (fun j hj => doA (by omega))
        rw [h1]; exact nxA hs hu (Nat.pos_of_ne_zero hi0) hi
      have hlast : ∀ j, ofK xs i ≤ j → ne (ofS xs i) j = false := fun j hj => by unfold ofS; rw [if_neg hi0]; exact m3A _ hj
      have hAinc : Inc (ofA xs i) := by unfold ofA; rw [if_neg hi0]; exact bfA _ _
      have hAlow : Low (ofA xs i) := by unfold ofA; rw [if_neg hi0]; exact ckA _
      have hFva : Fsh (fun j => A j ∧ va.ownBlock ≠ some j) w1 := fun j hj => ⟨hA j (Nat.le_trans hx1.size hj), fun h => by have := (Own.lt hva j h).2; omega⟩
      have eK : (a : Int) / 65536 = (K : Int) := by rw [hKd, hK1]; omega
      rw [← hKd] at hKlt hfull hlast
      rw [hmx] at hfull
      rw [hie] at ha
      repeat' (first|(refine oLA ?_;first|refine a0A rfl ?_|(refine oD 61 ?_; refine bmA rfl _ rfl rfl (HasI.ownV hva).c ?_)|(refine cyA ?_; refine bmA rfl _ rfl rfl (HasI.ownV hv1).c ?_)|(refine oD 67 ?_; refine a9A rfl rfl rfl (by dsimp only [fits]; omega) ?_; rw [show ((xs.length : Int) - 1) = ((xs.length - 1 : Nat) : Int) by omega])|(refine oD 68 ?_; refine asA rfl _ rfl (fun _ => rfl) rfl (HasI.ownV hv1) rfl (by omega) ?_; rw [ha])|(refine oB .shr ?_; refine ejA rfl rfl rfl (by decide) (by decide) ?_; rw [show (2 : Int) ^ Int.toNat 16 = 65536 by decide])|refine wOp ?_|(refine wCm ?_ ?_<;>intro hc)|(refine wNl hK ?_;clear hK K))|refine wG ?_|(refine wCR ?_;intro K hK)|fail)
      all_goals skip
      refine a4A (hK _ _ (c1A rfl (by decide) rfl rfl rfl rfl (fun v w' => v = .tuple #[] ∧ ∃ wz, Ext w1 wz ∧ Mut (fun j => A j ∧ va.ownBlock ≠ some j) wz b kv lv (bkA xs) w') (fun w8 e8 => ?_) (fun v w2 hm => ?_)))
      · rw [eK]
        exact (t3A (hx1.trans e8) hT hon (hS.ext e8) (hFva.ext e8) hKlt hlast (hva.ext e8).slI hAinc hAlow hpos).mono (fun en w' h => ⟨_, h.1, rfl, _, e8, hfull ▸ h.2⟩)
      clear hK K
      obtain ⟨rfl, wz, ez, kv9, lv9, m1, m2, m3, m4⟩ := hm
      have x2 := Fr.ext (hx1.trans ez) m2 hon
      have hon9 := ijA hon (hx1.trans ez).size m3 m4
      repeat' (first|(refine oLA ?_;first|refine a0A rfl ?_|refine wOp ?_|(refine wCm ?_ ?_<;>intro hc)|(refine wNl hK ?_;clear hK K))|refine wG ?_|(refine wCR ?_;intro K hK)|fail)
      all_goals skip
      exact alA rfl rfl x2 (fun u w5 e5 hu => by obtain rfl : u = _ := hu; exact ⟨b, kv9, lv9, rfl, (m1.ext e5).mono fun j _ ha _ => ha.1, fun k hk => hB k (hon9 k hk)⟩)
end Go.Proofs.YtfcioiobhpcngaaGreatDoor
end
section
set_option linter.unusedSimpArgs false
set_option linter.unusedVariables false
set_option maxRecDepth 3000
namespace Go.Proofs.YtfcioiobhpcngaaGreatDoor
open Go.LA Go.ArrP Go.RowKit
variable {A B : Nat → Prop}
theorem rxA {w : World} {va vb : Value} {p q : Nat → Bool} {B1 B2 : Nat → Prop} (ha : NSet B1 A w va p) (hb : NSet B2 A w vb q) (hT : Tab w) (hB : Fsh B w) (hA : Fsh A w) :
    Fc Tryz.prog 24 #[va, vb] w (Ret w (.pred (rsP B A (two (fun x y => x && !y) p q)))) := by
  refine Fc.of (args := [_, _]) Tryz.func24 rfl rfl Tryz.ntmps24 (Nat.le_of_ble_eq_true rfl) ?_
  repeat' (first|(refine oLA ?_;first|refine a0A rfl ?_|refine wOp ?_|(refine wCm ?_ ?_<;>intro hc)|(refine oCv ?_;first|(refine oC 58 ?_; refine bhA (f := 58) rfl rfl rfl rfl rfl  (.pred (rsP B A (two (fun x y => x && !y) p q))) (by intro u1 u2 u3 w e hu1 hu2 hu3; (try obtain rfl : u1 = _ := hu1); (try obtain rfl : u2 = _ := hu2); (try obtain rfl : u3 = _ := hu3); exact xdA (ha.ext e) (hb.ext e) rfl (fun w' A' u v' kp kq p' q' x h1 h2 hF => Clb.of (ozA h1 h2 ((hT.ext e).ext x) hF)) (hT.ext e) (hB.ext e) (hA.ext e)) ?_))|(refine wNl hK ?_;clear hK K))|refine wG ?_|(refine wCR ?_;intro K hK)|fail)
  exact alA rfl rfl (Ext.refl _) (fun _ _ _ hv => hv)
noncomputable def n4A (n : Nat) (p : Nat → Bool) (x : Nat) : Bool := decide (x < min n TOP) && !p x
theorem nkA (lo hi : Nat) : spU [((lo : Int), (hi : Int))] = fun y => decide (lo ≤ y) && decide (y < min hi TOP) := by
  funext y
  unfold spU
  rw [List.any_cons, List.any_nil, Bool.or_false, Int.toNat_natCast, Int.toNat_natCast]
theorem not_s {w : World} {va : Value} {p : Nat → Bool} {B1 : Nat → Prop} {n : Nat} (ha : NSet B1 A w va p) (hn : n < 18446744073709551616) (hT : Tab w) (hB : Fsh B w) (hA : Fsh A w) :
    Fc Tryz.prog 30 #[va, .int .u64 n] w (Ret w (.pred (rsP B A (n4A n p)))) := by
  have hnp : two (fun x y => x && !y) (spU [((0 : Int), (n : Int))]) p = n4A n p := by
    funext x
    have := congrFun (nkA 0 n) x
    unfold two n4A
    rw [show ((0 : Int), (n : Int)) = (((0 : Nat) : Int), (n : Int)) from rfl, this, decide_eq_true (Nat.zero_le x), Bool.true_and]
  refine Fc.of (args := [_, _]) Tryz.func30 rfl rfl Tryz.ntmps30 (Nat.le_of_ble_eq_true rfl) ?_
  repeat' (first|(refine oLA ?_;first|refine a0A rfl ?_|(refine oD 6 ?_; refine cfA (c := spV .u64 (0, n)) rfl rfl rfl (fun w => run_build w _ _ _ (by kernel_rfl)) ?_)|(refine oD 7 ?_; refine drA rfl e9A rfl rfl (by decide) ?_)|refine wOp ?_|(refine wCm ?_ ?_<;>intro hc)|(refine oCv ?_;first|(refine oC 14 ?_; refine a1A (f := 14) rfl rfl rfl  (.pred (rsP B A (spU [((0 : Int), (n : Int))]))) (by intro u1 w e hu1; (try obtain rfl : u1 = _ := hu1); exact nhA (xs := [((0 : Int), (n : Int))]) (Own.slC hu1) (by intro x hx; rw [List.mem_singleton] at hx; subst hx; dsimp only; omega) (hT.ext e) (hB.ext e) (hA.ext e)) ?_)|(refine oC 24 ?_; refine a3A (f := 24) rfl rfl rfl rfl  (.pred (rsP B A (n4A n p))) (by intro u1 u2 w e hu1 hu2; (try obtain rfl : u1 = _ := hu1); (try obtain rfl : u2 = _ := hu2); exact by rw [← hnp]; exact rxA (B1 := B) (.inr hu1) (ha.ext e) (hT.ext e) (hB.ext e) (hA.ext e)) ?_))|(refine wNl hK ?_;clear hK K))|refine wG ?_|(refine wCR ?_;intro K hK)|fail)
  all_goals skip
  exact alA rfl rfl (Ext.refl _) (fun _ _ _ hv => hv)
end Go.Proofs.YtfcioiobhpcngaaGreatDoor
end
section
set_option linter.unusedSimpArgs false
set_option linter.unusedVariables false
set_option maxRecDepth 3000
namespace Go.Proofs.YtfcioiobhpcngaaGreatDoor
open Go.LA Go.ArrP Go.RowKit
variable {A B : Nat → Prop}
theorem rzA (x : Nat) (hx : x < 18446744073709551616) : bits .and .u64 (x : Int) 65535 = ((x % 65536 : Nat) : Int) := by
  rw [kuA x 65535 hx (by decide) (x := (x : Int)) (y := 65535) rfl rfl, show (65535 : Nat) = 2 ^ 16 - 1 from rfl, Nat.and_two_pow_sub_one_eq_mod]
theorem t1A {w : World} {v : Value} {p : Nat → Bool} (h : NSet B A w v p) {x : Nat} (hx : x < 18446744073709551616) : Fc Tryz.prog 16 #[v, .int .u64 x] w (Ret w (.val (.int .i64 (cnt p (min x TOP))))) := by
  obtain ⟨lv, Q, hP, hL⟩ := oaA h
  have hlen : ∀ w', Ext w w' → _ := fun w' e => uqA (h.ext e)
  have hnk := gbA p
  have hct := cnt_le p TOP
  have htop := dwA
  by_cases hxt : 4294967296 ≤ x
  · rw [show min x TOP = TOP by omega]
    refine Fc.of (args := [_, _]) Tryz.func16 rfl rfl Tryz.ntmps16 (Nat.le_of_ble_eq_true rfl) ?_
    repeat' (first|(refine oLA ?_;first|refine a0A rfl ?_|refine wOp ?_|(refine wCm ?_ ?_<;>intro hc)|(refine oCv ?_;first|(refine oC 15 ?_; refine a1A (f := 15) rfl rfl rfl  (.val (.int .i64 (cnt p TOP))) (by intro u1 w e hu1; (try obtain rfl : u1 = _ := hu1); exact hlen _ e) ?_))|(refine wNl hK ?_;clear hK K))|refine wG ?_|(refine wCR ?_;intro K hK)|fail)
    exact abA rfl rfl (Ext.refl _) rfl
  · rw [show min x TOP = x by omega]
    have hm := rzA x hx
    have hdm : x = x / 65536 * 65536 + x % 65536 := by omega
    have hdm2 : x / 65536 * 65536 ≤ x ∧ x < (x / 65536 + 1) * 65536 := by omega
    have hr := Nat.mod_lt x (show 0 < 65536 by omega)
    have e1 : (x : Int) / 65536 = ((x / 65536 : Nat) : Int) := by omega
    have hq : x / 65536 < 65536 := by omega
    obtain ⟨X, hX⟩ : ∃ X, X = x / 65536 := ⟨_, rfl⟩
    obtain ⟨R, hR⟩ : ∃ R, R = x % 65536 := ⟨_, rfl⟩
    rw [← hX, ← hR] at hdm
    rw [← hX] at hdm2
    rw [← hX] at e1 hq
    rw [← hR] at hm hr
    clear hX hR
    refine Fc.of (args := [_, _]) Tryz.func16 rfl rfl Tryz.ntmps16 (Nat.le_of_ble_eq_true rfl) ?_
    repeat' (first|(refine oLA ?_;first|refine a0A rfl ?_|(refine cyA ?_; refine bmA rfl _ rfl rfl (HasC.ownV hP.own) ?_)|refine wOp ?_|(refine wCm ?_ ?_<;>intro hc)|(refine oCv ?_;first|(refine oC 50 ?_; refine a1A (f := 50) rfl rfl rfl  (.val lv) (by intro u1 w e hu1; (try obtain rfl : u1 = _ := hu1); exact hL _ e) ?_))|(refine wNl hK ?_;clear hK K))|refine wG ?_|(refine wCR ?_;intro K hK)|fail)
    refine b8A (ι := Nat) (fun i => [(0, .val v), (1, .val (.int .u64 x)), (5, .val (.int .i64 (cnt p (min x (kp p i * 65536))))), (14, .val lv), (15, .val (.int .i64 (nk p))), (16, .val (.int .i64 i))]) (fun i => i ≤ nk p) (fun i => nk p - i) 0 (Nat.zero_le _) (by rw [woA]; (repeat' (first | exact Sub.nil | (refine Sub.val rfl ?_ ?_; first | with_reducible rfl | (congr 1; omega)) | refine Sub.same rfl ?_)); done) ?_
    intro i hi
    by_cases hil : i < nk p
    · obtain ⟨hat, hcn, h1⟩ := hP.at hil
      obtain ⟨b, kv, rfl, hb, hkv⟩ := hP.set (by omega)
      obtain ⟨k1, k2, k3, k4⟩ := jnA hil
      have hkl := bnA p
      have hown := hP.own
      have f1 := ubA (x := x) (X := X) hil hdm2.1
      have f2 := udA (x := x) (R := R) hil
      have f3 := ucA (x := x) (X := X) hil hdm2.2
      have b1 := cnt_le p (min x (kp p i * 65536))
      have b2 := cnt_le (blk p (kp p i)) 65536
      have b3 := cnt_le (blk p (kp p i)) R
      have b4 : min x (kp p i * 65536) ≤ x := Nat.min_le_left _ _
      have hcl : ∀ w', Ext w w' → _ := fun w' e => hsA (hcn.ext e)
      have hcr : ∀ w', Ext w w' → _ := fun w' e => wnA (x := R) (hcn.ext e) (by omega)
      obtain ⟨K0, hK0⟩ : ∃ K0, K0 = kp p i := ⟨_, rfl⟩
      obtain ⟨n0, hn0⟩ : ∃ n0, n0 = cnt p (min x (kp p i * 65536)) := ⟨_, rfl⟩
      obtain ⟨n1, hn1⟩ : ∃ n1, n1 = cnt p (min x (kp p (i + 1) * 65536)) := ⟨_, rfl⟩
      obtain ⟨c1, hc1⟩ : ∃ c1, c1 = cnt (blk p (kp p i)) 65536 := ⟨_, rfl⟩
      obtain ⟨c2, hc2⟩ : ∃ c2, c2 = cnt (blk p (kp p i)) R := ⟨_, rfl⟩
      rw [← hc1, ← hn0, ← hn1] at f1
      rw [← hc2, ← hn0, ← hn1] at f2
      rw [← hn0, ← hn1] at f3
      rw [← hn0] at b1 ⊢
      rw [← hc1] at b2 hcl
      rw [← hc2] at b3 hcr
      rw [← hK0] at k1 k4 f1 f2 f3
      clear hP k2 k3 hL hct hn0 hc1 hc2 hcn hlen h
      repeat' (first|(refine oLA ?_;first|refine a0A rfl ?_|(refine oNc ?_; refine akA rfl rfl ?_)|(refine oF 0 ?_; refine a2A (a' := ⟨b, 0, none⟩) rfl rfl (fun _ => rfl) ?_)|(refine oF 1 ?_; refine a2A (a' := ⟨b, 1, none⟩) rfl rfl (fun _ => rfl) ?_)|(refine oLt 52 ?_; refine a8A (c := kv) rfl (fun _ => rfl) rfl hb rfl ?_)|(refine oLt 53 ?_; refine a8A (c := lv) rfl (fun _ => rfl) rfl hb rfl ?_)|(refine oI ?_; refine cnA (s := 4) rfl _ rfl (fun _ => rfl) rfl (HasC.ownV hown) rfl i rfl (by omega) ?_; rw [hat])|(refine oLt 65 ?_; refine anA (cs := qcs _) rfl (fun _ => rfl) (fun _ => rfl) rfl ?_)|(refine oD 7 ?_; refine a4A (hK _ _ (pgA rfl rfl rfl (by decide) (by decide) (fun _ => rfl) (fun _ => rfl) rfl (fun _ => rfl) (fun _ => rfl) rfl h1 (fun bx wx ex hbx hbc => ?_))); clear hK K; replace hb := ex.block hb; replace hkv := hkv.ext ex; refine amA (by kernel_rfl) (fun K hK => ?_))|(refine oD 26 ?_; refine asA rfl _ rfl (fun _ => rfl) rfl (HasI.ownV hkv) rfl (by omega) ?_; rw [k4])|(refine oD 46 ?_; refine chA (.inl rfl) rfl rfl rfl ?_; rw [hm])|(refine oB .shr ?_; refine ejA rfl rfl rfl (by decide) (by decide) ?_; rw [show (2 : Int) ^ Int.toNat 16 = 65536 by decide, e1])|(refine oLt 65 ?_; refine cvA (n := 4) rfl hbc rfl rfl (fun _ => rfl) (fun _ => rfl) ?_)|refine wOp ?_|(refine wCm ?_ ?_<;>intro hc)|(refine oCv ?_;first|(refine oC 51 ?_; refine a1A (f := 51) rfl rfl rfl  (.val (.int .i64 c1)) (by intro u1 w e hu1; (try obtain rfl : u1 = _ := hu1); exact hcl _ (ex.trans e)) ?_)|(refine oC 52 ?_; refine a3A (f := 52) rfl rfl rfl rfl  (.val (.int .i64 c2)) (by intro u1 u2 w e hu1 hu2; (try obtain rfl : u1 = _ := hu1); (try obtain rfl : u2 = _ := hu2); exact hcr _ (ex.trans e)) ?_))|(refine wNl hK ?_;clear hK K))|refine wG ?_|(refine wCR ?_;intro K hK)|fail)
      all_goals skip
      · exact j0A ex (i + 1) hil (by omega) (by rw [← hn1, f1 (by omega)]; (repeat' (first | exact Sub.nil | (refine Sub.val rfl ?_ ?_; first | with_reducible rfl | (congr 1; omega)) | refine Sub.same rfl ?_)); done)
      · have e9 : K0 = X := by omega
        have e8 := f2 (by rw [e9]; exact hdm) hr
        exact j0A ex (i + 1) hil (by omega) (by rw [← hn1, e8]; (repeat' (first | exact Sub.nil | (refine Sub.val rfl ?_ ?_; first | with_reducible rfl | (congr 1; omega)) | refine Sub.same rfl ?_)); done)
      · exact j0A ex (i + 1) hil (by omega) (by rw [← hn1, f3 (by omega)]; (repeat' (first | exact Sub.nil | (refine Sub.val rfl ?_ ?_; first | with_reducible rfl | (congr 1; omega)) | refine Sub.same rfl ?_)); done)
    · obtain rfl : i = nk p := by omega
      rw [wmA p (by omega)]
      repeat' (first|(refine oLA ?_;first|refine a0A rfl ?_|refine wOp ?_|(refine wCm ?_ ?_<;>intro hc)|(refine wNl hK ?_;clear hK K))|refine wG ?_|(refine wCR ?_;intro K hK)|fail)
      exact abA rfl rfl (Ext.refl _) rfl
end Go.Proofs.YtfcioiobhpcngaaGreatDoor
end
section
set_option linter.unusedSimpArgs false
set_option linter.unusedVariables false
namespace Go.LA
open Go.RowKit Go.ArrP
def itv (lo hi y : Nat) : Bool := decide (lo ≤ y) && decide (y < hi)
theorem tbA {lo hi y : Nat} (h1 : lo ≤ y) (h2 : y < hi) : itv lo hi y = true := by unfold itv; rw [decide_eq_true h1, decide_eq_true h2]; rfl
theorem inA {lo hi y : Nat} (h : y < lo ∨ hi ≤ y) : itv lo hi y = false := by
  unfold itv
  rcases h with h | h
  · rw [decide_eq_false (Nat.not_le.2 h), Bool.false_and]
  · rw [decide_eq_false (Nat.not_lt.2 h), Bool.and_false]
theorem itv_iff {lo hi y : Nat} : itv lo hi y = true ↔ lo ≤ y ∧ y < hi := by
  unfold itv; rw [Bool.and_eq_true, decide_eq_true_iff, decide_eq_true_iff]
theorem ixA (lo hi : Nat) : ∀ T, cnt (itv lo hi) T = min hi T - min lo T
  | 0 => by simp [cnt]
  | T + 1 => by
    have ih := ixA lo hi T
    by_cases h1 : lo ≤ T ∧ T < hi
    · have := tbA h1.1 h1.2
      simp only [cnt, ih, this, if_true]; omega
    · have := inA (lo := lo) (hi := hi) (y := T) (by omega)
      simp only [cnt, ih, this, Bool.false_eq_true, if_false]; omega
theorem r0A {e : Nat → Bool} {n : Nat} {l : List Int} (hi : Inc l) (hm : ∀ z, z ∈ l ↔ ∃ i : Nat, i < n ∧ e i = true ∧ z = i) : adA e n = l :=
  ffA (bfA _ _) hi (fun z => by rw [buA, hm])
theorem txA {p : Nat → Bool} {a : Nat} (h : ∀ x, x < a → p x = false) : spL p a = [] := by
  rw [feA (p := p) (Nat.zero_le a) (fun x _ hx => h x hx), i8A]
theorem vlA {p : Nat → Bool} {a : Nat} (h : ∀ x, x < a → a ≤ x + 1 → p x = false) : bel p a = false := by
  cases a with
  | zero => rfl
  | succ a => exact h a (Nat.lt_succ_self a) (Nat.le_refl _)
theorem k4A {p : Nat → Bool} {a lo hi b : Nat} {l : List Sp} (h : spL p a = l) (h1 : a < lo ∨ (a = lo ∧ a = 0)) (h2 : lo < hi) (h3 : hi ≤ b) (g1 : ∀ x, a ≤ x → x < lo → p x = false) (g2 : ∀ x, lo ≤ x → x < hi → p x = true) (g3 : ∀ x, hi ≤ x → x < b → p x = false) :
    spL p b = l ++ [((lo : Int), (hi : Int))] := by
  have hb : bel p lo = false := vlA (fun x hx1 hx2 => g1 x (by omega) hx1)
  rw [feA h3 g3, swA h2 g2 hb, feA (a := a) (by omega) g1, h]
theorem wfA (lo hi T : Nat) (h : hi ≤ T) : spL (itv lo hi) T = if lo < hi then [((lo : Int), (hi : Int))] else [] := by
  by_cases h1 : lo < hi
  · rw [if_pos h1]
    exact k4A (a := 0) (l := []) (i8A _) (by omega) h1 h (fun x _ h3 => inA (.inl h3)) (fun x h2 h3 => tbA h2 h3) (fun x h2 _ => inA (.inr h2))
  · rw [if_neg h1]; exact txA (fun x _ => inA (by omega))
end Go.LA
end
section
set_option linter.unusedSimpArgs false
set_option linter.unusedVariables false
set_option maxRecDepth 3000
namespace Go.Proofs.YtfcioiobhpcngaaGreatDoor
open Go.LA Go.ArrP Go.RowKit
theorem nrA (lo hi : Nat) : rng (fun _ => false) lo hi = itv lo hi := by funext y; unfold rng itv; rw [Bool.false_or]
theorem uvA : b3A (itv 65535 65538) = [0, 1] := by
  refine r0A (by unfold Inc; decide) (fun z => ?_)
  constructor
  · intro h
    simp only [List.mem_cons, List.not_mem_nil, or_false] at h
    rcases h with rfl | rfl
    · exact ⟨0, by decide, ne_iff.2 ⟨65535, by decide, by decide⟩, rfl⟩
    · exact ⟨1, by decide, ne_iff.2 ⟨0, by decide, by decide⟩, rfl⟩
  · rintro ⟨i, h1, h2, rfl⟩
    obtain ⟨j, h3, h4⟩ := ne_iff.1 h2
    have := itv_iff.1 h4
    simp only [List.mem_cons, List.not_mem_nil, or_false]
    omega
theorem x4A : cnt (itv 65535 65538) TOP = 3 := by rw [ixA, dwA]; decide
theorem uuA : cnt (itv 65535 65538) (min 65537 TOP) = 2 := by rw [ixA, dwA]; decide
theorem kn_sp : spL (n4A 4 (bkA [5, 1])) TOP = [(0, 1), (2, 4)] := by
  have hm : ∀ x, n4A 4 (bkA [5, 1]) x = true ↔ x = 0 ∨ x = 2 ∨ x = 3 := fun x => by
    unfold n4A bkA
    rw [Bool.and_eq_true, Bool.not_eq_true', decide_eq_true_iff, decide_eq_false_iff_not, dwA]
    simp only [List.mem_cons, List.not_mem_nil, or_false]
    omega
  have hf : ∀ x, ¬ (x = 0 ∨ x = 2 ∨ x = 3) → n4A 4 (bkA [5, 1]) x = false := fun x h => by
    cases h1 : n4A 4 (bkA [5, 1]) x
    · rfl
    · exact absurd ((hm x).1 h1) h
  have h1 := k4A (p := n4A 4 (bkA [5, 1])) (a := 0) (lo := 0) (hi := 1) (b := 1) (l := []) (i8A _) (.inr ⟨rfl, rfl⟩) (by decide) (by decide) (fun x _ h => by omega) (fun x _ h => (hm x).2 (by omega)) (fun x h1 h2 => by omega)
  exact k4A (lo := 2) (hi := 4) h1 (.inl (by decide)) (by decide) (by rw [dwA]; decide) (fun x h1 h2 => hf x (by omega)) (fun x h1 h2 => (hm x).2 (by omega)) (fun x h1 h2 => hf x (by omega))
theorem gyA (w : World) (hT : Tab w) : Fc Tryz.prog 10 #[] w (Ret w (.val (.bool true))) := by
  have htop := dwA
  refine Fc.of (args := []) Tryz.func10 rfl rfl Tryz.ntmps10 (Nat.le_of_ble_eq_true rfl) ?_
  repeat' (first|(refine oLA ?_;first|refine a0A rfl ?_|(refine oD 5 ?_; refine a4A (hK _ _ (byA 1 rfl (fun v1 w1 e1 h1 => ?_))); clear hK K; obtain ⟨b, kv0, lv0, rfl, hS0, hB0⟩ := h1; refine amA (by kernel_rfl) (fun K hK => dbA rfl rfl ?_))|(refine oD 6 ?_; refine a4A (hK _ _ (c1A rfl (by decide) rfl rfl rfl rfl (fun v w' => v = .tuple #[] ∧ ∃ wz, Ext w1 wz ∧ Mut TT wz b kv0 lv0 (itv 65535 65538) w') (fun w8 e8 => ?_) (fun v w2 hm => ?_))); clear hK K)|refine wOp ?_|(refine wCm ?_ ?_<;>intro hc)|(refine oCv ?_;first|(refine oC 11 ?_; refine dcA (f := 11) rfl rfl  (.pred (rsP (fun k => w.heap.size ≤ k) TT (fun _ => false))) (by intro w e; exact new_c _ (fun k hk => Nat.le_trans e.size hk)) ?_))|(refine wNl hK ?_;clear hK K))|refine wG ?_|(refine wCR ?_;intro K hK)|fail)
  · have := g1A (e1.trans e8) hT hB0 (hS0.ext e8) tt (lo := 65535) (hi := 65538) (by decide) (by decide)
    rw [nrA, show min 65538 TOP = 65538 by omega] at this
    exact this.mono fun en w' h => ⟨_, h.1, rfl, _, e8, h.2⟩
  obtain ⟨rfl, wz, ez, kv, lv, hS, hF, hl1, hl2⟩ := hm
  have x2 := Fr.ext (e1.trans ez) hF hB0
  have hN : NSet TT TT w2 (.pointer (some ⟨b, 0, none⟩)) (itv 65535 65538) := .inr ⟨b, kv, lv, rfl, hS, fun _ _ => trivial⟩
  have hT2 := hT.ext x2
  have hkeys : ∀ w', Ext w2 w' → _ := fun w' e => oeA (hN.ext e)
  have hlen : ∀ w', Ext w2 w' → _ := fun w' e => uqA (hN.ext e)
  have hrank : ∀ w', Ext w2 w' → _ := fun w' e => t1A (x := 65537) (hN.ext e) (by decide)
  have hruns : ∀ w', Ext w2 w' → ∀ u, RSet TT TT w' u (n4A 4 (bkA [5, 1])) → _ := fun w' e u hu => laA (B := TT) (A := TT) (.inr hu) (hT2.ext e)
  rw [uvA] at hkeys
  rw [x4A] at hlen
  rw [uuA] at hrank
  rw [kn_sp] at hruns
  clear hS hF htop
  repeat' (first|(refine oLA ?_;first|refine a0A rfl ?_|(refine oD 9 ?_; refine meA rfl teA rfl rfl rfl rfl ?_)|(refine oD 23 ?_; refine asA (j := 1) rfl _ rfl (fun _ => rfl) rfl HasI.own rfl (by decide) ?_)|(refine oD 18 ?_; refine bmA (n := 2) rfl _ rfl rfl HasI.own.c ?_)|(refine oD 24 ?_; refine dzA (c := .int .u16 1) rfl (fun _ => rfl) rfl ?_)|(refine oD 36 ?_; refine vsA rfl e9A rfl rfl ?_)|(refine oD 34 ?_; refine cfA (c := spV .u64 (0, 1)) rfl rfl rfl (fun w => run_build w _ _ _ (by kernel_rfl)) ?_)|(refine oD 35 ?_; refine cfA (c := spV .u64 (2, 4)) rfl rfl rfl (fun w => run_build w _ _ _ (by kernel_rfl)) ?_)|refine wOp ?_|(refine wCm ?_ ?_<;>intro hc)|(refine oCv ?_;first|(refine oC 40 ?_; refine a1A (f := 40) rfl rfl rfl  (.pred (bjA w2.heap.size tK .u16 [0, 1])) (by intro u1 w e hu1; (try obtain rfl : u1 = _ := hu1); exact (hkeys _ e).mono (aaA e.size)) ?_)|(refine oC 25 ?_; refine a1A (f := 25) rfl rfl rfl  (.pred (rsP TT TT (bkA [5, 1]))) (by intro u1 w e hu1; (try obtain rfl : u1 = _ := hu1); exact of_s (ys := [5, 1]) (Own.slC hu1) (by intro x hx; simp only [List.mem_cons, List.not_mem_nil, or_false] at hx; omega) (by decide) (hT2.ext e) tt tt) ?_)|(refine oC 30 ?_; refine a3A (f := 30) rfl rfl rfl rfl  (.pred (rsP TT TT (n4A 4 (bkA [5, 1])))) (by intro u1 u2 w e hu1 hu2; (try obtain rfl : u1 = _ := hu1); (try obtain rfl : u2 = _ := hu2); exact not_s (n := 4) (B1 := TT) (.inr hu1) (by decide) (hT2.ext e) tt tt) ?_)|(refine oC 19 ?_; refine a1A (f := 19) rfl rfl rfl  (.pred (lkA w2.heap.size tSp .u64 [(0, 1), (2, 4)])) (by intro u1 w e hu1; (try obtain rfl : u1 = _ := hu1); exact (hruns _ e _ hu1).mono (d2A e.size rfl)) ?_)|(refine oC 15 ?_; refine a1A (f := 15) rfl rfl rfl  (.val (.int .i64 3)) (by intro u1 w e hu1; (try obtain rfl : u1 = _ := hu1); exact hlen _ e) ?_)|(refine oC 16 ?_; refine a3A (f := 16) rfl rfl rfl rfl  (.val (.int .i64 2)) (by intro u1 u2 w e hu1 hu2; (try obtain rfl : u1 = _ := hu1); (try obtain rfl : u2 = _ := hu2); exact hrank _ e) ?_)|(refine oC 18 ?_; refine a3A (f := 18) rfl rfl rfl rfl  (.val (.bool true)) (by intro u1 u2 w e hu1 hu2; (try obtain rfl : u1 = _ := hu1); (try obtain rfl : u2 = _ := hu2); exact agA (by rw [decide_eq_true rfl]) (iaA _ _ _ [(0, 1), (2, 4)] [(0, 1), (2, 4)] (OwnP.slP hu1) (Own.slC hu2))) ?_))|(refine wNl hK ?_;clear hK K))|refine wG ?_|(refine wCR ?_;intro K hK)|fail)
  all_goals skip
  all_goals exact abA rfl rfl x2 rfl
end Go.Proofs.YtfcioiobhpcngaaGreatDoor
end
section
set_option linter.unusedSimpArgs false
set_option linter.unusedVariables false
set_option maxRecDepth 3000
namespace Go.Proofs.YtfcioiobhpcngaaGreatDoor
open Go.LA Go.ArrP Go.RowKit
theorem noA : El Tryz.prog 28 32 (.agg #[.int .u64 0, .int .u64 0]) 2 16 := ⟨rfl, rfl, rfl, by decide⟩
theorem u4A (w : World) {lo hi : Nat} (hlo : lo < 18446744073709551616) (hhi : hi < 18446744073709551616) : Fc Tryz.prog 13 #[.int .u64 lo, .int .u64 hi] w (Ret w (.pred (lkA w.heap.size tSp .u64 (spL (itv lo (min hi TOP)) TOP)))) := by
  rw [wfA _ _ _ (Nat.min_le_right _ _)]
  have htop := dwA
  obtain ⟨H, hH⟩ : ∃ H, H = min hi TOP := ⟨_, rfl⟩
  rw [← hH]
  by_cases h1 : hi ≤ 4294967296
  · obtain rfl : H = hi := by omega
    clear hH htop
    by_cases h2 : lo < H
    · rw [if_pos h2]
      refine Fc.of (args := [_, _]) Tryz.func13 rfl rfl Tryz.ntmps13 (Nat.le_of_ble_eq_true rfl) ?_
      repeat' (first|(refine oLA ?_;first|refine a0A rfl ?_|(refine oD 12 ?_; refine cfA (c := spV .u64 (lo, H)) rfl rfl rfl (fun w => run_build w _ _ _ (by kernel_rfl)) ?_)|(refine oD 13 ?_; refine drA rfl noA rfl rfl (by decide) ?_)|refine wOp ?_|(refine wCm ?_ ?_<;>intro hc)|(refine wNl hK ?_;clear hK K))|refine wG ?_|(refine wCR ?_;intro K hK)|fail)
      all_goals skip
      exact alA rfl rfl (Ext.refl _) (fun _ _ _ hv => hv)
    · rw [if_neg h2]
      refine Fc.of (args := [_, _]) Tryz.func13 rfl rfl Tryz.ntmps13 (Nat.le_of_ble_eq_true rfl) ?_
      repeat' (first|(refine oLA ?_;first|refine a0A rfl ?_|refine wOp ?_|(refine wCm ?_ ?_<;>intro hc)|(refine wNl hK ?_;clear hK K))|refine wG ?_|(refine wCR ?_;intro K hK)|fail)
      exact alA rfl rfl (Ext.refl _) (fun v _ _ hv => by obtain rfl : v = _ := hv; exact OwnP.nil)
  · have hHe : H = 4294967296 := by omega
    subst hHe
    clear hH htop
    by_cases h2 : lo < 4294967296
    · rw [if_pos h2]
      refine Fc.of (args := [_, _]) Tryz.func13 rfl rfl Tryz.ntmps13 (Nat.le_of_ble_eq_true rfl) ?_
      repeat' (first|(refine oLA ?_;first|refine a0A rfl ?_|(refine oD 12 ?_; refine cfA (c := spV .u64 (lo, (4294967296 : Nat))) rfl rfl rfl (fun w => run_build w _ _ _ (by kernel_rfl)) ?_)|(refine oD 13 ?_; refine drA rfl noA rfl rfl (by decide) ?_)|refine wOp ?_|(refine wCm ?_ ?_<;>intro hc)|(refine wNl hK ?_;clear hK K))|refine wG ?_|(refine wCR ?_;intro K hK)|fail)
      all_goals skip
      exact alA rfl rfl (Ext.refl _) (fun _ _ _ hv => hv)
    · rw [if_neg h2]
      refine Fc.of (args := [_, _]) Tryz.func13 rfl rfl Tryz.ntmps13 (Nat.le_of_ble_eq_true rfl) ?_
      repeat' (first|(refine oLA ?_;first|refine a0A rfl ?_|refine wOp ?_|(refine wCm ?_ ?_<;>intro hc)|(refine wNl hK ?_;clear hK K))|refine wG ?_|(refine wCR ?_;intro K hK)|fail)
      exact alA rfl rfl (Ext.refl _) (fun v _ _ hv => by obtain rfl : v = _ := hv; exact OwnP.nil)
set_option maxHeartbeats 1000000 in
theorem rtop_s (w : World) (hT : Tab w) (back long : Nat) (hb : back < 18446744073709551616) (hl : long < 18446744073709551616) : Fc Tryz.prog 3 #[.int .u64 back, .int .u64 long] w (Ret w (.val (.bool true))) := by
  have htop := dwA
  by_cases hbig : 100000 < back ∨ 4611686018427387904 < long
  · refine Fc.of (args := [_, _]) Tryz.func3 rfl rfl Tryz.ntmps3 (Nat.le_of_ble_eq_true rfl) ?_
    by_cases h1 : 100000 < back
    · skip
      repeat' (first|(refine oLA ?_;first|refine a0A rfl ?_|refine wOp ?_|(refine wCm ?_ ?_<;>intro hc)|(refine oCv ?_;first|(refine oC 10 ?_; refine dcA (f := 10) rfl rfl  (.val (.bool true)) (by intro w e; exact gyA _ (hT.ext e)) ?_))|(refine wNl hK ?_;clear hK K))|refine wG ?_|(refine wCR ?_;intro K hK)|fail)
      all_goals exact abA rfl rfl (Ext.refl _) rfl
    · have h2 : 4611686018427387904 < long := by omega
      repeat' (first|(refine oLA ?_;first|refine a0A rfl ?_|refine wOp ?_|(refine wCm ?_ ?_<;>intro hc)|(refine oCv ?_;first|(refine oC 10 ?_; refine dcA (f := 10) rfl rfl  (.val (.bool true)) (by intro w e; exact gyA _ (hT.ext e)) ?_))|(refine wNl hK ?_;clear hK K))|refine wG ?_|(refine wCR ?_;intro K hK)|fail)
      all_goals exact abA rfl rfl (Ext.refl _) rfl
  · have h1 : back ≤ 100000 := by omega
    have h2 : long ≤ 4611686018427387904 := by omega
    obtain ⟨lo, hlo⟩ : ∃ lo, lo = 4294967296 - back := ⟨_, rfl⟩
    have elo : (4294967296 : Int) - back = (lo : Int) := by omega
    obtain ⟨hi, hhi⟩ : ∃ hi, hi = lo + long := ⟨_, rfl⟩
    have ehi : (lo : Int) + long = (hi : Int) := by omega
    obtain ⟨n, hn⟩ : ∃ n, n = min back long := ⟨_, rfl⟩
    have en : min (back : Int) long = (n : Int) := by omega
    have hcnt : cnt (itv lo (min hi TOP)) TOP = n := by rw [ixA, htop]; omega
    have hspu : spU [((lo : Int), (hi : Int))] = itv lo (min hi TOP) := nkA lo hi
    have hx : itv lo (min hi TOP) 4294967295 = (decide (0 < back) && decide (back ≤ long)) := by
      rw [Bool.eq_iff_iff, itv_iff, Bool.and_eq_true, decide_eq_true_iff, decide_eq_true_iff, htop]; omega
    obtain ⟨p, hp⟩ : ∃ p, p = itv lo (min hi TOP) := ⟨_, rfl⟩
    rw [← hp] at hcnt hspu hx
    refine Fc.of (args := [_, _]) Tryz.func3 rfl rfl Tryz.ntmps3 (Nat.le_of_ble_eq_true rfl) ?_
    repeat' (first|(refine oLA ?_;first|refine a0A rfl ?_|(refine oD 18 ?_; refine a9A rfl rfl rfl (by dsimp only [fits]; omega) ?_; rw [elo])|(refine oD 20 ?_; refine a4A (hK _ _ (byA 6 rfl (fun v1 w1 e1 h1 => ?_))); clear hK K; obtain ⟨b, kv0, lv0, rfl, hS0, hB0⟩ := h1; refine amA (by kernel_rfl) (fun K hK => dbA rfl rfl ?_))|(refine oD 24 ?_; refine ayA rfl rfl rfl (by dsimp only [fits]; omega) ?_; rw [ehi])|(refine oD 25 ?_; refine a4A (hK _ _ (c1A rfl (by decide) rfl rfl rfl rfl (fun v w' => v = .tuple #[] ∧ ∃ wz, Ext w1 wz ∧ Mut TT wz b kv0 lv0 p w') (fun w8 e8 => ?_) (fun v w2 hm => ?_))); clear hK K)|refine wOp ?_|(refine wCm ?_ ?_<;>intro hc)|(refine oCv ?_;first|(refine oC 11 ?_; refine dcA (f := 11) rfl rfl  (.pred (rsP (fun k => w.heap.size ≤ k) TT (fun _ => false))) (by intro w e; exact new_c _ (fun k hk => Nat.le_trans e.size hk)) ?_))|(refine wNl hK ?_;clear hK K))|refine wG ?_|(refine wCR ?_;intro K hK)|fail)
    · have := g1A (e1.trans e8) hT hB0 (hS0.ext e8) tt (lo := lo) (hi := hi) (by omega) (by omega)
      rw [nrA, ← hp] at this
      exact this.mono fun en w' h => ⟨_, h.1, rfl, _, e8, h.2⟩
    obtain ⟨rfl, wz, ez, kv, lv, hS, hF, hl1, hl2⟩ := hm
    have x2 := Fr.ext (e1.trans ez) hF hB0
    have hN : NSet TT TT w2 (.pointer (some ⟨b, 0, none⟩)) p := .inr ⟨b, kv, lv, rfl, hS, fun _ _ => trivial⟩
    have hT2 := hT.ext x2
    have hlen : ∀ w', Ext w2 w' → _ := fun w' e => uqA (hN.ext e)
    have hrank : ∀ w', Ext w2 w' → _ := fun w' e => t1A (x := 4294967296) (hN.ext e) (by decide)
    have hhas : ∀ w', Ext w2 w' → _ := fun w' e => has_s (x := 4294967295) (hN.ext e) (by decide)
    have hrs : ∀ w', Ext w2 w' → _ := fun w' e => u4A w' (lo := lo) (hi := hi) (by omega) (by omega)
    have hruns : ∀ w', Ext w2 w' → _ := fun w' e => laA (hN.ext e) (hT2.ext e)
    have hsame : ∀ w', Ext w2 w' → ∀ u, RSet TT TT w' u p → _ := fun w' e u hu => whA (hN.ext e) (B := TT) (A := TT) (.inr hu) (hT2.ext e)
    have hsps : ∀ w', Ext w2 w' → ∀ u, Own w2.heap.size tSp 2 w' u 1 (ciA .u64 [((lo : Int), (hi : Int))]) → _ := fun w' e u hu => nhA (A := TT) (B := TT) (xs := [((lo : Int), (hi : Int))]) (Own.slC hu) (by intro x hx; rw [List.mem_singleton] at hx; subst hx; dsimp only; omega) (hT2.ext e) tt tt
    rw [hcnt] at hlen
    rw [show min 4294967296 TOP = TOP by omega, hcnt] at hrank
    rw [← hp] at hrs
    rw [hspu] at hsps
    obtain ⟨S, hSd⟩ : ∃ S, S = spL p TOP := ⟨_, rfl⟩
    rw [← hSd] at hrs hruns hsame
    clear hS hF htop hcnt hspu hSd hp
    by_cases c1 : 0 < back
    · by_cases c2 : back ≤ long
      · rw [decide_eq_true c1, decide_eq_true c2, Bool.true_and] at hx
        repeat' (first|(refine oLA ?_;first|refine a0A rfl ?_|(refine oD 33 ?_; refine ayA rfl rfl rfl (by dsimp only [fits]; omega) ?_; rw [ehi])|(refine oD 38 ?_; refine ayA rfl rfl rfl (by dsimp only [fits]; omega) ?_; rw [ehi])|(refine cmA rfl rfl rfl ?_; rw [en])|(refine oD 39 ?_; refine cfA (c := spV .u64 (lo, hi)) rfl rfl rfl (fun w => run_build w _ _ _ (by kernel_rfl)) ?_)|(refine oD 40 ?_; refine drA rfl e9A rfl rfl (by decide) ?_)|refine wOp ?_|(refine wCm ?_ ?_<;>intro hc)|(refine oCv ?_;first|(refine oC 13 ?_; refine a3A (f := 13) rfl rfl rfl rfl  (.pred (lkA w2.heap.size tSp .u64 S)) (by intro u1 u2 w e hu1 hu2; (try obtain rfl : u1 = _ := hu1); (try obtain rfl : u2 = _ := hu2); exact (hrs _ e).mono (d2A e.size rfl)) ?_)|(refine oC 14 ?_; refine a1A (f := 14) rfl rfl rfl  (.pred (rsP TT TT p)) (by intro u1 w e hu1; (try obtain rfl : u1 = _ := hu1); exact hsps _ e _ hu1) ?_)|(refine oC 15 ?_; refine a1A (f := 15) rfl rfl rfl  (.val (.int .i64 n)) (by intro u1 w e hu1; (try obtain rfl : u1 = _ := hu1); exact hlen _ e) ?_)|(refine oC 16 ?_; refine a3A (f := 16) rfl rfl rfl rfl  (.val (.int .i64 n)) (by intro u1 u2 w e hu1 hu2; (try obtain rfl : u1 = _ := hu1); (try obtain rfl : u2 = _ := hu2); exact hrank _ e) ?_)|(refine oC 17 ?_; refine a3A (f := 17) rfl rfl rfl rfl  (.val (.bool true)) (by intro u1 u2 w e hu1 hu2; (try obtain rfl : u1 = _ := hu1); (try obtain rfl : u2 = _ := hu2); exact agA (by rw [decide_eq_true rfl]) (hsame _ e _ hu2)) ?_)|(refine oC 19 ?_; refine a1A (f := 19) rfl rfl rfl  (.pred (lkA w2.heap.size tSp .u64 S)) (by intro u1 w e hu1; (try obtain rfl : u1 = _ := hu1); exact (hruns _ e).mono (d2A e.size rfl)) ?_)|(refine oC 18 ?_; refine a3A (f := 18) rfl rfl rfl rfl  (.val (.bool true)) (by intro u1 u2 w e hu1 hu2; (try obtain rfl : u1 = _ := hu1); (try obtain rfl : u2 = _ := hu2); exact agA (by rw [decide_eq_true rfl]) (iaA _ _ _ S S (OwnP.slP hu1) (OwnP.slP hu2))) ?_)|(refine oC 20 ?_; refine a3A (f := 20) rfl rfl rfl rfl  (.val (.bool true)) (by intro u1 u2 w e hu1 hu2; (try obtain rfl : u1 = _ := hu1); (try obtain rfl : u2 = _ := hu2); exact agA (by rw [hx]) (hhas _ e)) ?_)|(refine oC 10 ?_; refine dcA (f := 10) rfl rfl  (.val (.bool true)) (by intro w e; exact gyA _ (hT2.ext e)) ?_))|(refine wNl hK ?_;clear hK K))|refine wG ?_|(refine wCR ?_;intro K hK)|fail)
        all_goals skip
        all_goals exact abA rfl rfl x2 rfl
      · rw [decide_eq_false c2, Bool.and_false] at hx
        repeat' (first|(refine oLA ?_;first|refine a0A rfl ?_|(refine oD 33 ?_; refine ayA rfl rfl rfl (by dsimp only [fits]; omega) ?_; rw [ehi])|(refine oD 38 ?_; refine ayA rfl rfl rfl (by dsimp only [fits]; omega) ?_; rw [ehi])|(refine cmA rfl rfl rfl ?_; rw [en])|(refine oD 39 ?_; refine cfA (c := spV .u64 (lo, hi)) rfl rfl rfl (fun w => run_build w _ _ _ (by kernel_rfl)) ?_)|(refine oD 40 ?_; refine drA rfl e9A rfl rfl (by decide) ?_)|refine wOp ?_|(refine wCm ?_ ?_<;>intro hc)|(refine oCv ?_;first|(refine oC 13 ?_; refine a3A (f := 13) rfl rfl rfl rfl  (.pred (lkA w2.heap.size tSp .u64 S)) (by intro u1 u2 w e hu1 hu2; (try obtain rfl : u1 = _ := hu1); (try obtain rfl : u2 = _ := hu2); exact (hrs _ e).mono (d2A e.size rfl)) ?_)|(refine oC 14 ?_; refine a1A (f := 14) rfl rfl rfl  (.pred (rsP TT TT p)) (by intro u1 w e hu1; (try obtain rfl : u1 = _ := hu1); exact hsps _ e _ hu1) ?_)|(refine oC 15 ?_; refine a1A (f := 15) rfl rfl rfl  (.val (.int .i64 n)) (by intro u1 w e hu1; (try obtain rfl : u1 = _ := hu1); exact hlen _ e) ?_)|(refine oC 16 ?_; refine a3A (f := 16) rfl rfl rfl rfl  (.val (.int .i64 n)) (by intro u1 u2 w e hu1 hu2; (try obtain rfl : u1 = _ := hu1); (try obtain rfl : u2 = _ := hu2); exact hrank _ e) ?_)|(refine oC 17 ?_; refine a3A (f := 17) rfl rfl rfl rfl  (.val (.bool true)) (by intro u1 u2 w e hu1 hu2; (try obtain rfl : u1 = _ := hu1); (try obtain rfl : u2 = _ := hu2); exact agA (by rw [decide_eq_true rfl]) (hsame _ e _ hu2)) ?_)|(refine oC 19 ?_; refine a1A (f := 19) rfl rfl rfl  (.pred (lkA w2.heap.size tSp .u64 S)) (by intro u1 w e hu1; (try obtain rfl : u1 = _ := hu1); exact (hruns _ e).mono (d2A e.size rfl)) ?_)|(refine oC 18 ?_; refine a3A (f := 18) rfl rfl rfl rfl  (.val (.bool true)) (by intro u1 u2 w e hu1 hu2; (try obtain rfl : u1 = _ := hu1); (try obtain rfl : u2 = _ := hu2); exact agA (by rw [decide_eq_true rfl]) (iaA _ _ _ S S (OwnP.slP hu1) (OwnP.slP hu2))) ?_)|(refine oC 20 ?_; refine a3A (f := 20) rfl rfl rfl rfl  (.val (.bool false)) (by intro u1 u2 w e hu1 hu2; (try obtain rfl : u1 = _ := hu1); (try obtain rfl : u2 = _ := hu2); exact agA (by rw [hx]) (hhas _ e)) ?_)|(refine oC 10 ?_; refine dcA (f := 10) rfl rfl  (.val (.bool true)) (by intro w e; exact gyA _ (hT2.ext e)) ?_))|(refine wNl hK ?_;clear hK K))|refine wG ?_|(refine wCR ?_;intro K hK)|fail)
        all_goals skip
        all_goals exact abA rfl rfl x2 rfl
    · rw [decide_eq_false c1, Bool.false_and] at hx
      repeat' (first|(refine oLA ?_;first|refine a0A rfl ?_|(refine oD 33 ?_; refine ayA rfl rfl rfl (by dsimp only [fits]; omega) ?_; rw [ehi])|(refine oD 38 ?_; refine ayA rfl rfl rfl (by dsimp only [fits]; omega) ?_; rw [ehi])|(refine cmA rfl rfl rfl ?_; rw [en])|(refine oD 39 ?_; refine cfA (c := spV .u64 (lo, hi)) rfl rfl rfl (fun w => run_build w _ _ _ (by kernel_rfl)) ?_)|(refine oD 40 ?_; refine drA rfl e9A rfl rfl (by decide) ?_)|refine wOp ?_|(refine wCm ?_ ?_<;>intro hc)|(refine oCv ?_;first|(refine oC 13 ?_; refine a3A (f := 13) rfl rfl rfl rfl  (.pred (lkA w2.heap.size tSp .u64 S)) (by intro u1 u2 w e hu1 hu2; (try obtain rfl : u1 = _ := hu1); (try obtain rfl : u2 = _ := hu2); exact (hrs _ e).mono (d2A e.size rfl)) ?_)|(refine oC 14 ?_; refine a1A (f := 14) rfl rfl rfl  (.pred (rsP TT TT p)) (by intro u1 w e hu1; (try obtain rfl : u1 = _ := hu1); exact hsps _ e _ hu1) ?_)|(refine oC 15 ?_; refine a1A (f := 15) rfl rfl rfl  (.val (.int .i64 n)) (by intro u1 w e hu1; (try obtain rfl : u1 = _ := hu1); exact hlen _ e) ?_)|(refine oC 16 ?_; refine a3A (f := 16) rfl rfl rfl rfl  (.val (.int .i64 n)) (by intro u1 u2 w e hu1 hu2; (try obtain rfl : u1 = _ := hu1); (try obtain rfl : u2 = _ := hu2); exact hrank _ e) ?_)|(refine oC 17 ?_; refine a3A (f := 17) rfl rfl rfl rfl  (.val (.bool true)) (by intro u1 u2 w e hu1 hu2; (try obtain rfl : u1 = _ := hu1); (try obtain rfl : u2 = _ := hu2); exact agA (by rw [decide_eq_true rfl]) (hsame _ e _ hu2)) ?_)|(refine oC 19 ?_; refine a1A (f := 19) rfl rfl rfl  (.pred (lkA w2.heap.size tSp .u64 S)) (by intro u1 w e hu1; (try obtain rfl : u1 = _ := hu1); exact (hruns _ e).mono (d2A e.size rfl)) ?_)|(refine oC 18 ?_; refine a3A (f := 18) rfl rfl rfl rfl  (.val (.bool true)) (by intro u1 u2 w e hu1 hu2; (try obtain rfl : u1 = _ := hu1); (try obtain rfl : u2 = _ := hu2); exact agA (by rw [decide_eq_true rfl]) (iaA _ _ _ S S (OwnP.slP hu1) (OwnP.slP hu2))) ?_)|(refine oC 20 ?_; refine a3A (f := 20) rfl rfl rfl rfl  (.val (.bool false)) (by intro u1 u2 w e hu1 hu2; (try obtain rfl : u1 = _ := hu1); (try obtain rfl : u2 = _ := hu2); exact agA (by rw [hx]) (hhas _ e)) ?_)|(refine oC 10 ?_; refine dcA (f := 10) rfl rfl  (.val (.bool true)) (by intro w e; exact gyA _ (hT2.ext e)) ?_))|(refine wNl hK ?_;clear hK K))|refine wG ?_|(refine wCR ?_;intro K hK)|fail)
      all_goals skip
      all_goals exact abA rfl rfl x2 rfl
end Go.Proofs.YtfcioiobhpcngaaGreatDoor
end
