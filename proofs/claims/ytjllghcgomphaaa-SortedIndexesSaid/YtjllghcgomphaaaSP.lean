/- Rows sorted by their ids: plain lists, no program in sight. -/
import Derived.WalkKit
set_option linter.unusedSimpArgs false
set_option linter.unusedVariables false
namespace Go.SrtP

/-- One row more. -/
def stepS (many : Int) (es : List Int) (k : Nat) (id : Int) : Option (List Int) :=
  if id = es.length ∧ id < many then some (es ++ [(k : Int) + 1]) else if id = (es.length : Int) - 1 ∧ 0 ≤ id then some (es.set id.toNat ((k : Int) + 1)) else none
def runS (many : Int) (ids : List Int) : Nat → Option (List Int)
  | 0 => some []
  | k + 1 => (runS many ids k).bind fun es => stepS many es k (ids.getD k 0)
def ofS (ids : List Int) (many : Int) : Option (List Int) :=
  if many < 0 ∨ 16777216 < many ∨ 16777216 < (ids.length : Int) then none else (runS many ids ids.length).bind fun es => if (es.length : Int) = many then some es else none

theorem runS_none {many : Int} {ids : List Int} {k : Nat} (h : runS many ids k = none) : ∀ m, k ≤ m → runS many ids m = none := by
  intro m hm
  induction m with
  | zero => obtain rfl : k = 0 := by omega
            exact h
  | succ m ih =>
    rcases Nat.lt_or_ge m k with h1 | h1
    · obtain rfl : k = m + 1 := by omega
      exact h
    · simp [runS, ih h1]
theorem runS_len {many : Int} {ids : List Int} : ∀ {k : Nat} {es : List Int}, runS many ids k = some es → es.length ≤ k ∧ (0 ≤ many → (es.length : Int) ≤ many)
  | 0, es, h => by simp [runS] at h; subst h; simp
  | k + 1, es, h => by
    simp only [runS, Option.bind_eq_some_iff] at h
    obtain ⟨es', h1, h2⟩ := h
    have ih := runS_len h1
    simp only [stepS] at h2
    split at h2
    · obtain rfl := Option.some.inj h2; simp; omega
    · split at h2
      · obtain rfl := Option.some.inj h2; simp; omega
      · cases h2
theorem ofS_none {ids : List Int} {many : Int} {k : Nat} (hk : k ≤ ids.length) (h : runS many ids k = none) : ofS ids many = none := by
  simp [ofS, runS_none h _ hk]
def beg (ends : List Int) (j : Nat) : Int := if j = 0 then 0 else ends.getD (j - 1) 0
theorem beg_succ (ends : List Int) (j : Nat) : beg ends (j + 1) = ends.getD j 0 := by simp [beg]
theorem getD_app {es : List Int} {x : Int} {j : Nat} (h : j < es.length) : (es ++ [x]).getD j 0 = es.getD j 0 := by
  simp [List.getD, List.getElem?_append_left h]
theorem getD_last {es : List Int} {x : Int} : (es ++ [x]).getD es.length 0 = x := by simp [List.getD]
theorem getD_set_ne {es : List Int} {x : Int} {i j : Nat} (h : i ≠ j) : (es.set i x).getD j 0 = es.getD j 0 := by
  simp [List.getD, List.getElem?_set, h]
theorem getD_set_eq {es : List Int} {x : Int} {i : Nat} (h : i < es.length) : (es.set i x).getD i 0 = x := by
  simp [List.getD, List.getElem?_set, h]
/-- The ends of the rows so far. -/
structure Good (ids : List Int) (k : Nat) (es : List Int) : Prop where
  last : beg es es.length = k
  up : ∀ j, j < es.length → beg es j < es.getD j 0
  row : ∀ j, j < es.length → ∀ i : Nat, beg es j ≤ i → (i : Int) < es.getD j 0 → ids.getD i 0 = j
theorem good_run {many : Int} {ids : List Int} : ∀ {k : Nat} {es : List Int}, runS many ids k = some es → Good ids k es
  | 0, es, h => by simp [runS] at h; subst h; exact ⟨rfl, fun j hj => by simp at hj, fun j hj => by simp at hj⟩
  | k + 1, es, h => by
    simp only [runS, Option.bind_eq_some_iff] at h
    obtain ⟨es', h1, h2⟩ := h
    have ih := good_run h1
    simp only [stepS] at h2
    split at h2
    · rename_i hid
      obtain rfl := Option.some.inj h2
      have hb : ∀ j, j ≤ es'.length → beg (es' ++ [(k : Int) + 1]) j = beg es' j := fun j hj => by
        simp only [beg]; split
        · rfl
        · exact getD_app (by omega)
      refine ⟨?_, fun j hj => ?_, fun j hj i h3 h4 => ?_⟩
      · simp only [List.length_append, List.length_cons, List.length_nil, Nat.zero_add, beg_succ, getD_last]; omega
      · simp only [List.length_append, List.length_cons, List.length_nil, Nat.zero_add] at hj
        rw [hb j (by omega)]
        rcases Nat.lt_or_ge j es'.length with hj' | hj'
        · rw [getD_app hj']; exact ih.up j hj'
        · obtain rfl : j = es'.length := by omega
          rw [getD_last, ih.last]; omega
      · simp only [List.length_append, List.length_cons, List.length_nil, Nat.zero_add] at hj
        rw [hb j (by omega)] at h3
        rcases Nat.lt_or_ge j es'.length with hj' | hj'
        · rw [getD_app hj'] at h4; exact ih.row j hj' i h3 h4
        · obtain rfl : j = es'.length := by omega
          rw [getD_last] at h4; rw [ih.last] at h3
          obtain rfl : i = k := by omega
          exact hid.1
    · split at h2
      · rename_i hid
        obtain rfl := Option.some.inj h2
        have e0 : (ids.getD k 0).toNat = es'.length - 1 := by omega
        have hp : 0 < es'.length := by omega
        rw [e0]
        have hb : ∀ j, j < es'.length → beg (es'.set (es'.length - 1) ((k : Int) + 1)) j = beg es' j := fun j hj => by
          simp only [beg]; split
          · rfl
          · exact getD_set_ne (by omega)
        have hl : es'.getD (es'.length - 1) 0 = k := by
          have := ih.last; simp only [beg] at this; rwa [if_neg (by omega)] at this
        have hu := ih.up (es'.length - 1) (by omega)
        rw [hl] at hu
        refine ⟨?_, fun j hj => ?_, fun j hj i h3 h4 => ?_⟩
        · simp only [List.length_set, beg]; rw [if_neg (by omega), getD_set_eq (by omega)]; omega
        · rw [List.length_set] at hj
          rw [hb j hj]
          rcases Nat.lt_or_ge j (es'.length - 1) with hj' | hj'
          · rw [getD_set_ne (by omega)]; exact ih.up j hj
          · obtain rfl : j = es'.length - 1 := by omega
            rw [getD_set_eq (by omega)]; omega
        · rw [List.length_set] at hj
          rw [hb j hj] at h3
          rcases Nat.lt_or_ge j (es'.length - 1) with hj' | hj'
          · rw [getD_set_ne (by omega)] at h4; exact ih.row j hj i h3 h4
          · obtain rfl : j = es'.length - 1 := by omega
            rw [getD_set_eq (by omega)] at h4
            rcases Int.lt_or_le i k with h5 | h5
            · exact ih.row _ hj i h3 (by rw [hl]; exact h5)
            · obtain rfl : i = k := by omega
              omega
      · cases h2
theorem ofS_some {ids : List Int} {many : Int} {es : List Int} (h : ofS ids many = some es) : Good ids ids.length es ∧ (es.length : Int) = many ∧ 0 ≤ many ∧ many ≤ 16777216 ∧ ids.length ≤ 16777216 ∧ runS many ids ids.length = some es := by
  simp only [ofS] at h
  split at h
  · cases h
  · rename_i hn
    simp only [Option.bind_eq_some_iff] at h
    obtain ⟨es', h1, h2⟩ := h
    split at h2
    · rename_i hl
      obtain rfl := Option.some.inj h2
      exact ⟨good_run h1, hl, by omega, by omega, by omega, h1⟩
    · cases h2
theorem Good.beg_nonneg {ids : List Int} {k : Nat} {es : List Int} (h : Good ids k es) : ∀ j, j ≤ es.length → 0 ≤ beg es j
  | 0, _ => by simp [beg]
  | j + 1, hj => by rw [beg_succ]; have := h.up j (by omega); have := h.beg_nonneg j (by omega); omega
theorem Good.mono {ids : List Int} {k : Nat} {es : List Int} (h : Good ids k es) : ∀ j i, i ≤ j → j ≤ es.length → beg es i ≤ beg es j
  | 0, i, h1, _ => by obtain rfl : i = 0 := by omega
                      exact Int.le_refl _
  | j + 1, i, h1, hj => by
    rcases Nat.lt_or_ge j i with h2 | h2
    · obtain rfl : i = j + 1 := by omega
      exact Int.le_refl _
    · have := h.mono j i h2 (by omega); have := h.up j (by omega); rw [beg_succ]; omega
theorem Good.le {ids : List Int} {k : Nat} {es : List Int} (h : Good ids k es) {j : Nat} (hj : j < es.length) : es.getD j 0 ≤ k := by
  rw [← beg_succ, ← h.last]; exact h.mono _ _ (by omega) (Nat.le_refl _)
end Go.SrtP
