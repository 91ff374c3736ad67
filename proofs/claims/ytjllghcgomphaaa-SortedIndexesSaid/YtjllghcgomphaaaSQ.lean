/- Rows by their ids, as the document's answer tells them: plain lists, no program in sight. -/
import Derived.Test.YtjllghcgomphaaaSP
set_option linter.unusedSimpArgs false
set_option linter.unusedVariables false
namespace Go.SrtP

/-- The rows whose id is from lo on, below hi: the first one, and the place behind the last one. -/
def betTo (ids : List Int) (lo hi : Int) : Nat → Int × Int
  | 0 => (0, 0)
  | k + 1 => if lo ≤ ids.getD k 0 ∧ ids.getD k 0 < hi then (if (betTo ids lo hi k).2 = 0 then (k : Int) else (betTo ids lo hi k).1, (k : Int) + 1) else betTo ids lo hi k
theorem betTo_none {ids : List Int} {lo hi : Int} : ∀ n, (∀ i, i < n → ¬ (lo ≤ ids.getD i 0 ∧ ids.getD i 0 < hi)) → betTo ids lo hi n = (0, 0)
  | 0, _ => rfl
  | n + 1, h => by
    rw [betTo, if_neg (h n (by omega)), betTo_none n (fun i hi => h i (by omega))]
theorem betTo_some {ids : List Int} {lo hi : Int} {A B : Nat} (hAB : A < B) : ∀ n, (∀ i, i < n → ((lo ≤ ids.getD i 0 ∧ ids.getD i 0 < hi) ↔ (A ≤ i ∧ i < B))) →
    betTo ids lo hi n = if n ≤ A then (0, 0) else ((A : Int), ((min n B : Nat) : Int))
  | 0, _ => by simp [betTo]
  | n + 1, h => by
    have ih := betTo_some hAB n (fun i hi => h i (by omega))
    have hn := h n (by omega)
    rw [betTo, ih]
    by_cases hp : lo ≤ ids.getD n 0 ∧ ids.getD n 0 < hi
    · have hq := hn.1 hp
      have hA : ¬ n + 1 ≤ A := by omega
      rw [if_pos hp]
      by_cases h1 : n ≤ A
      · rw [if_pos h1, if_neg hA]
        dsimp only
        rw [if_pos rfl]
        refine Prod.ext ?_ ?_ <;> dsimp only <;> omega
      · rw [if_neg h1, if_neg hA]
        dsimp only
        rw [if_neg (by omega)]
        refine Prod.ext rfl ?_
        dsimp only; omega
    · have hq := fun h' => hp (hn.2 h')
      rw [if_neg hp]
      by_cases h1 : n ≤ A
      · by_cases h2 : n + 1 ≤ A
        · rw [if_pos h1, if_pos h2]
        · exact absurd ⟨by omega, by omega⟩ hq
      · rw [if_neg h1, if_neg (by omega)]
        refine Prod.ext rfl ?_
        dsimp only
        have : ¬ n < B := fun h' => hq ⟨by omega, h'⟩
        omega
/-- Each row is one of some id's. -/
theorem Good.tile {ids : List Int} {n : Nat} {es : List Int} (h : Good ids n es) (i : Nat) : ∀ m, m ≤ es.length → (i : Int) < beg es m → ∃ j, j < m ∧ beg es j ≤ i ∧ (i : Int) < es.getD j 0
  | 0, _, hi => by simp [beg] at hi; omega
  | m + 1, hm, hi => by
    by_cases h1 : (i : Int) < beg es m
    · obtain ⟨j, h2, h3⟩ := h.tile i m (by omega) h1
      exact ⟨j, by omega, h3⟩
    · rw [beg_succ] at hi
      exact ⟨m, by omega, by omega, hi⟩
theorem Good.bet {ids : List Int} {n : Nat} {es : List Int} (h : Good ids n es) (lo hi : Int) :
    betTo ids lo hi n = if min hi (es.length : Int) ≤ max lo 0 then (0, 0) else (beg es (max lo 0).toNat, es.getD (min hi (es.length : Int) - 1).toNat 0) := by
  have hrow : ∀ i, i < n → ∃ j, j < es.length ∧ beg es j ≤ i ∧ (i : Int) < es.getD j 0 ∧ ids.getD i 0 = j := fun i hi => by
    obtain ⟨j, h1, h2, h3⟩ := h.tile i es.length (Nat.le_refl _) (by rw [h.last]; omega)
    exact ⟨j, h1, h2, h3, h.row j h1 i h2 h3⟩
  by_cases hc : min hi (es.length : Int) ≤ max lo 0
  · rw [if_pos hc]
    refine betTo_none n fun i hi => ?_
    obtain ⟨j, h1, h2, h3, h4⟩ := hrow i hi
    rw [h4]; omega
  · rw [if_neg hc]
    obtain ⟨a, ha⟩ : ∃ a : Nat, max lo 0 = a := ⟨(max lo 0).toNat, by omega⟩
    obtain ⟨b, hb⟩ : ∃ b : Nat, min hi (es.length : Int) = (b : Int) + 1 := ⟨(min hi (es.length : Int) - 1).toNat, by omega⟩
    rw [ha, hb, show ((b : Int) + 1 - 1).toNat = b by omega, Int.toNat_natCast]
    have hbl : b < es.length := by omega
    have hab : a ≤ b := by omega
    have h0 := h.beg_nonneg a (by omega)
    have hu := h.up a (by omega)
    have hm : es.getD a 0 ≤ es.getD b 0 := by
      rw [← beg_succ, ← beg_succ]; exact h.mono (b + 1) (a + 1) (by omega) (by omega)
    have hB := h.le hbl
    obtain ⟨A, hA⟩ := Int.eq_ofNat_of_zero_le h0
    obtain ⟨B, hB'⟩ := Int.eq_ofNat_of_zero_le (show 0 ≤ es.getD b 0 by omega)
    rw [betTo_some (A := A) (B := B) (by omega) n (fun i hi => ?_)]
    · rw [if_neg (by omega), hA, hB']
      refine Prod.ext rfl ?_
      dsimp only; omega
    · obtain ⟨j, h1, h2, h3, h4⟩ := hrow i hi
      rw [h4]
      constructor
      · intro hl
        have m1 : beg es a ≤ beg es j := h.mono j a (by omega) (by omega)
        have m2 : beg es (j + 1) ≤ beg es (b + 1) := h.mono (b + 1) (j + 1) (by omega) (by omega)
        rw [beg_succ, beg_succ] at m2
        omega
      · intro hl
        refine ⟨?_, ?_⟩
        · refine Int.not_lt.1 fun hlt => ?_
          have m1 : beg es (j + 1) ≤ beg es a := h.mono a (j + 1) (by omega) (by omega)
          rw [beg_succ] at m1; omega
        · refine Int.not_le.1 fun hle => ?_
          have m1 : beg es (b + 1) ≤ beg es j := h.mono j (b + 1) (by omega) (by omega)
          rw [beg_succ] at m1; omega

/-- The ids by rows. -/
def idsS (es : List Int) : Nat → List Int
  | 0 => []
  | k + 1 => idsS es k ++ List.replicate (es.getD k 0 - beg es k).toNat (k : Int)
def Up (es : List Int) : Prop := ∀ j, j < es.length → beg es j < es.getD j 0
theorem Up.nonneg {es : List Int} (h : Up es) : ∀ j, j ≤ es.length → 0 ≤ beg es j
  | 0, _ => by simp [beg]
  | j + 1, hj => by rw [beg_succ]; have := h j (by omega); have := h.nonneg j (by omega); omega
theorem idsS_len {es : List Int} (h : Up es) : ∀ k, k ≤ es.length → ((idsS es k).length : Int) = beg es k
  | 0, _ => rfl
  | k + 1, hk => by
    have h1 := idsS_len h k (by omega)
    have h2 := h k (by omega)
    rw [idsS, List.length_append, List.length_replicate, beg_succ]; omega
theorem idsS_row {es : List Int} (h : Up es) : ∀ k, k ≤ es.length → ∀ j, j < k → ∀ i : Nat, beg es j ≤ i → (i : Int) < es.getD j 0 → (idsS es k).getD i 0 = j
  | 0, _, j, hj, _, _, _ => by omega
  | k + 1, hk, j, hj, i, h1, h2 => by
    have hl := idsS_len h k (by omega)
    have hn := h.nonneg k (by omega)
    rw [idsS]
    by_cases e : j = k
    · subst e
      rw [List.getD, List.getElem?_append_right (by omega), List.getElem?_replicate, if_pos (by omega)]; rfl
    · have ih := idsS_row h k (by omega) j (by omega) i h1 h2
      have hjk : es.getD j 0 ≤ beg es k := by
        have : ∀ m, j + 1 ≤ m → m ≤ k → es.getD j 0 ≤ beg es m := by
          intro m h3 h4
          induction m with
          | zero => omega
          | succ m ihm =>
            rcases Nat.lt_or_ge j m with h5 | h5
            · have := ihm (by omega) (by omega); have := h m (by omega); rw [beg_succ]; omega
            · obtain rfl : j = m := by omega
              rw [beg_succ]; exact Int.le_refl _
        exact this k (by omega) (Nat.le_refl _)
      rw [List.getD, List.getElem?_append_left (by omega)]; exact ih
theorem idsS_good {es : List Int} (h : Up es) : Good (idsS es es.length) (idsS es es.length).length es :=
  ⟨(idsS_len h _ (Nat.le_refl _)).symm, h, fun j hj i h1 h2 => idsS_row h _ (Nat.le_refl _) j hj i h1 h2⟩

/-- How many ids have come so far, as the document's answer counts them. -/
def nextTo (ids : List Int) : Nat → Option Nat
  | 0 => some 0
  | k + 1 => (nextTo ids k).bind fun n => if ids.getD k 0 = n then some (n + 1) else if ids.getD k 0 = (n : Int) - 1 then some n else none
def InM (ids : List Int) (many : Int) : Prop := ∀ i, i < ids.length → 0 ≤ ids.getD i 0 ∧ ids.getD i 0 < many
instance (ids : List Int) (many : Int) : Decidable (InM ids many) := by unfold InM; infer_instance
theorem runS_next {ids : List Int} {many : Int} (h : InM ids many) : ∀ k, k ≤ ids.length → (runS many ids k).map List.length = nextTo ids k
  | 0, _ => rfl
  | k + 1, hk => by
    have ih := runS_next h k (by omega)
    have hi := h k (by omega)
    cases hr : runS many ids k with
    | none => rw [hr] at ih; simp only [runS, hr, nextTo, ← ih]; rfl
    | some es =>
      rw [hr] at ih
      simp only [runS, hr, nextTo, ← ih, Option.bind_some, Option.map_some, stepS]
      by_cases h1 : ids.getD k 0 = (es.length : Int)
      · rw [if_pos ⟨h1, by omega⟩, if_pos h1]; simp
      · rw [if_neg (fun h' => h1 h'.1), if_neg h1]
        by_cases h2 : ids.getD k 0 = (es.length : Int) - 1
        · rw [if_pos ⟨h2, hi.1⟩, if_pos h2]; simp
        · rw [if_neg (fun h' => h2 h'.1), if_neg h2]; rfl
theorem nextTo_none {ids : List Int} {k : Nat} (h : nextTo ids k = none) : ∀ m, k ≤ m → nextTo ids m = none := by
  intro m hm
  induction m with
  | zero => obtain rfl : k = 0 := by omega
            exact h
  | succ m ih =>
    rcases Nat.lt_or_ge m k with h1 | h1
    · obtain rfl : k = m + 1 := by omega
      exact h
    · simp [nextTo, ih h1]
theorem nextTo_le {ids : List Int} : ∀ {k n : Nat}, nextTo ids k = some n → n ≤ k
  | 0, n, h => by simp [nextTo] at h; omega
  | k + 1, n, h => by
    simp only [nextTo, Option.bind_eq_some_iff] at h
    obtain ⟨n', h1, h2⟩ := h
    have := nextTo_le h1
    split at h2
    · cases h2; omega
    · split at h2
      · cases h2; omega
      · cases h2
theorem ofS_in {ids : List Int} {many : Int} {es : List Int} (h : ofS ids many = some es) : InM ids many := fun i hi => by
  obtain ⟨hg, hm, -⟩ := ofS_some h
  obtain ⟨j, h1, h2, h3⟩ := hg.tile i es.length (Nat.le_refl _) (by rw [hg.last]; omega)
  rw [hg.row j h1 i h2 h3]; omega
/-- When the rows may be. -/
theorem ofS_may {ids : List Int} {many : Int} : (ofS ids many).isSome = true ↔ (0 ≤ many ∧ many ≤ 16777216 ∧ (ids.length : Int) ≤ 16777216) ∧ InM ids many ∧ ∃ n, nextTo ids ids.length = some n ∧ (n : Int) = many := by
  constructor
  · intro h
    obtain ⟨es, he⟩ := Option.isSome_iff_exists.1 h
    obtain ⟨hg, hm, h0, h1, h2, hr⟩ := ofS_some he
    refine ⟨⟨h0, h1, by omega⟩, ofS_in he, es.length, ?_, hm⟩
    rw [← runS_next (ofS_in he) _ (Nat.le_refl _), hr]; rfl
  · rintro ⟨h1, h2, n, h3, h4⟩
    rw [← runS_next h2 _ (Nat.le_refl _)] at h3
    simp only [ofS]
    rw [if_neg (by omega)]
    cases hr : runS many ids ids.length with
    | none => rw [hr] at h3; cases h3
    | some es =>
      rw [hr] at h3
      simp only [Option.map_some, Option.some.injEq] at h3
      simp only [Option.bind_some]
      rw [if_pos (by omega)]; rfl
end Go.SrtP
