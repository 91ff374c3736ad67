import Derived.Test.YtjiacignpmabcaaDoorW8

set_option linter.unusedSimpArgs false
set_option linter.unusedVariables false
set_option maxRecDepth 3000
namespace Go.Proofs.YtjiacignpmabcaaDoor
open Go.LA Go.ArrP Go.RowKit

/-- W without its j lowest bits. -/
def Cut (W j x : Nat) : Prop := x < 18446744073709551616 ∧ ∀ b, x.testBit b = (W.testBit b && decide (j ≤ cnt (fun i => W.testBit i) b))
theorem cut_low {W j x : Nat} (hW : W < 18446744073709551616) (h : Cut W j x) (hj : j < pop64 W) : x ≠ 0 ∧ W.testBit (Lib.ctz 64 x) = true ∧ cnt (fun i => W.testBit i) (Lib.ctz 64 x) = j ∧ Lib.ctz 64 x < 64 ∧ Cut W (j + 1) (x &&& (x - 1)) := by
  obtain ⟨hx, hb⟩ := h
  obtain ⟨b, g1, g2, g3, -⟩ := listS_get (fun i => W.testBit i) 64 j hj
  have hxb : x.testBit b = true := by rw [hb, g3]; simp [g2]
  have h0 : x ≠ 0 := fun e => by rw [e, Nat.zero_testBit] at hxb; cases hxb
  obtain ⟨m, -, hc64⟩ := low_split h0 hx
  have lb := low_bit h0 hx
  obtain ⟨c, hc⟩ : ∃ c, c = Lib.ctz 64 x := ⟨_, rfl⟩
  rw [← hc] at hc64 lb ⊢
  have hxc := (lb 0).1.1
  have hWc : W.testBit c = true ∧ j ≤ cnt (fun i => W.testBit i) c := by rw [hb] at hxc; simpa using hxc
  have hcj : cnt (fun i => W.testBit i) c = j := by
    rcases Nat.lt_or_ge j (cnt (fun i => W.testBit i) c) with h1 | h1
    · obtain ⟨d, d1, d2, d3, -⟩ := listS_get (fun i => W.testBit i) c j h1
      have := (lb d).1.2 d1
      rw [hb, d3] at this; simp [d2] at this
    · omega
  refine ⟨h0, hWc.1, hcj, hc64, Nat.lt_of_le_of_lt Nat.and_le_left hx, fun d => ?_⟩
  rw [(lb d).2, hb]
  cases hd : W.testBit d
  · simp
  · rw [Bool.true_and, Bool.true_and]
    by_cases e : d = c
    · subst e; rw [hcj, decide_eq_false (show ¬ j + 1 ≤ j by omega)]; simp
    · rw [decide_eq_true (show d ≠ c from e), Bool.and_true, decide_eq_decide]
      constructor
      · intro h1
        rcases Nat.lt_or_ge d c with h2 | h2
        · have := cnt_mono (fun i => W.testBit i) (m := d + 1) c h2
          simp only [cnt, hd, if_true] at this; omega
        · have := cnt_mono (fun i => W.testBit i) (m := c + 1) d (by omega)
          simp only [cnt, hWc.1, if_true] at this; omega
      · omega
/-- The k-th number of words, or none. -/
def selS (ws : List Int) (k : Int) : Int × Bool := if 0 ≤ k ∧ k < cnt (wbit ws) (64 * min ws.length 1024) then ((listS (wbit ws) (64 * min ws.length 1024)).getD k.toNat 0, true) else (0, false)
end Go.Proofs.YtjiacignpmabcaaDoor
