/- Arrays as marks: plain law. -/
import Derived.Test.YtjiacignpmabcaaDoorMk
set_option linter.unusedSimpArgs false
set_option linter.unusedVariables false
namespace Go.LA
open Go.RowKit Go.ArrP

def withS (xs : List Int) (x : Int) : List Int := if foundS xs x = true then xs else xs.take (bsS xs x) ++ [x] ++ xs.drop (bsS xs x)
theorem withS_inc {xs : List Int} {x : Int} (h : Inc xs) : Inc (withS xs x) := by
  unfold withS
  split
  · exact h
  · rename_i hf
    rw [found_iff x h, decide_eq_true_eq] at hf
    obtain ⟨g1, g2⟩ := bsS_spec x h
    have g3 := bsS_le xs x
    have ht : Inc (xs.take (bsS xs x)) := h.sublist (List.take_sublist _ _)
    have hd : Inc (xs.drop (bsS xs x)) := h.sublist (List.drop_sublist _ _)
    have hlt : ∀ z ∈ xs.take (bsS xs x), z < x := fun z hz => by
      obtain ⟨k, hk, rfl⟩ := List.getElem_of_mem hz
      rw [List.length_take] at hk
      have := g1 k (by omega)
      rw [getD_eq (by omega)] at this
      rw [List.getElem_take]; exact this
    have hgt : ∀ z ∈ xs.drop (bsS xs x), x < z := fun z hz => by
      obtain ⟨k, hk, rfl⟩ := List.getElem_of_mem hz
      rw [List.length_drop] at hk
      have := g2 (bsS xs x + k) (by omega) (by omega)
      rw [getD_eq (by omega)] at this
      rw [List.getElem_drop]
      have hne : x ≠ xs[bsS xs x + k] := fun e => hf (by rw [e]; exact List.getElem_mem _)
      omega
    refine List.pairwise_append.2 ⟨List.pairwise_append.2 ⟨ht, List.pairwise_singleton _ _, fun a ha b hb => ?_⟩, hd, fun a ha b hb => ?_⟩
    · simp at hb; subst hb; exact hlt a ha
    · rcases List.mem_append.1 ha with ha | ha
      · have := hlt a ha; have := hgt b hb; omega
      · simp at ha; subst ha; exact hgt b hb
theorem withS_mem {xs : List Int} {x : Int} (h : Inc xs) (z : Int) : z ∈ withS xs x ↔ z ∈ xs ∨ z = x := by
  unfold withS
  split
  · rename_i hf
    rw [found_iff x h, decide_eq_true_eq] at hf
    exact ⟨.inl, fun h => h.elim id (fun e => e ▸ hf)⟩
  · rw [List.mem_append, List.mem_append]
    conv => rhs; rw [← List.take_append_drop (bsS xs x) xs]
    rw [List.mem_append]
    simp only [List.mem_singleton]
    constructor
    · rintro ((h | h) | h)
      · exact .inl (.inl h)
      · exact .inr h
      · exact .inl (.inr h)
    · rintro ((h | h) | h)
      · exact .inl (.inl h)
      · exact .inr h
      · exact .inl (.inr h)
def addM (p : Nat → Bool) (x : Nat) (i : Nat) : Bool := p i || decide (i = x)
theorem withS_eq {xs : List Int} {x : Int} (h : Inc xs) (hl : Low xs) (h0 : 0 ≤ x) (h1 : x < 65536) : withS xs x = listS (addM (memb xs) x.toNat) 65536 := by
  refine inc_ext (withS_inc h) (listS_inc _ _) fun z => ?_
  rw [withS_mem h, listS_mem]
  constructor
  · rintro (hz | rfl)
    · have := hl z hz
      exact ⟨z.toNat, by omega, by simp only [addM, memb, show ((z.toNat : Nat) : Int) = z by omega]; simp [hz], by omega⟩
    · exact ⟨z.toNat, by omega, by simp [addM], by omega⟩
  · rintro ⟨i, g1, g2, rfl⟩
    simp only [addM, memb, Bool.or_eq_true, decide_eq_true_eq] at g2
    rcases g2 with g2 | g2
    · exact .inl g2
    · right; omega
theorem withS_len (xs : List Int) (x : Int) : (withS xs x).length ≤ xs.length + 1 := by
  unfold withS
  split
  · omega
  · simp only [List.length_append, List.length_take, List.length_drop, List.length_singleton]; omega
theorem or_eq {xs ys : List Int} (h : Inc xs) (h' : Inc ys) (hl : Low xs) (hl' : Low ys) : mergeS fOr xs ys = listS (fun i => memb xs i || memb ys i) 65536 := by
  refine inc_ext (merge_inc _ _ _ h h') (listS_inc _ _) fun z => ?_
  rw [mem_or h h', listS_mem]
  constructor
  · intro hz
    have : 0 ≤ z ∧ z < 65536 := hz.elim (hl z) (hl' z)
    exact ⟨z.toNat, by omega, by simp only [memb, show ((z.toNat : Nat) : Int) = z by omega]; simpa using hz, by omega⟩
  · rintro ⟨i, g1, g2, rfl⟩
    simpa [memb] using g2
/-- Runs of an array. -/
theorem runAt_listS (p : Nat → Bool) {m : Nat} (hm : m < 65536) (hp : p m = true) : runAt (listS p 65536) (cnt p m) = startsS p m := by
  have hx := listS_at p 65536 m hm hp
  have hs : startsS p m = (m == 0 || !p (m - 1)) := by simp [startsS, hp]
  rw [hs]
  simp only [runAt, hx]
  by_cases h0 : m = 0
  · subst h0; simp [cnt]
  · have e0 : (m == 0) = false := by simpa using h0
    rw [e0, Bool.false_or]
    cases hq : p (m - 1)
    · rw [Bool.not_false, decide_eq_true_eq]
      by_cases hk : cnt p m = 0
      · exact .inl hk
      · right
        obtain ⟨j, g1, g2, g3, g4⟩ := listS_get p 65536 (cnt p m - 1) (by have := cnt_mono p (m := m) 65536 (by omega); omega)
        rw [g4]
        have : j ≠ m - 1 := fun e => by rw [e, hq] at g2; cases g2
        have : j < m := by
          rcases Nat.lt_or_ge j m with h | h
          · exact h
          · have := cnt_mono p (m := m) j h; omega
        omega
    · rw [Bool.not_true, decide_eq_false_iff_not]
      have hc : cnt p m = cnt p (m - 1) + 1 := by
        conv => lhs; rw [show m = (m - 1) + 1 by omega]
        simp [cnt, hq]
      have hy := listS_at p 65536 (m - 1) (by omega) hq
      rintro (h | h)
      · omega
      · rw [hc, Nat.add_sub_cancel, hy] at h; omega
theorem runsTo_listS (p : Nat → Bool) : ∀ m, m ≤ 65536 → runsTo (listS p 65536) (cnt p m) = cnt (startsS p) m
  | 0, _ => rfl
  | m + 1, hm => by
    have ih := runsTo_listS p m (by omega)
    cases hp : p m
    · have : startsS p m = false := by simp [startsS, hp]
      simp only [cnt, hp, this, Bool.false_eq_true, if_false, Nat.add_zero]; exact ih
    · simp only [cnt, hp, if_true]
      rw [runsTo_succ, ih, runAt_listS p (by omega) hp]
theorem runsS_listS (p : Nat → Bool) : runsS (listS p 65536) = cnt (startsS p) 65536 := by
  unfold runsS; rw [listS_len]; exact runsTo_listS p 65536 (Nat.le_refl _)
theorem runsS_eq {xs : List Int} (h : Inc xs) (hl : Low xs) : runsS xs = cnt (startsS (memb xs)) 65536 := by
  conv => lhs; rw [← listS_memb h hl]
  exact runsS_listS _
theorem runAt_eq {xs : List Int} (h : Inc xs) (hl : Low xs) {k : Nat} (hk : k < xs.length) : runAt xs k = true ↔ (xs.getD k 0 = 0 ∨ ¬ (xs.getD k 0 - 1) ∈ xs) := by
  have e := listS_memb h hl
  have hk' : k < cnt (memb xs) 65536 := by rw [← listS_len, e]; exact hk
  obtain ⟨m, g1, g2, g3, g4⟩ := listS_get (memb xs) 65536 k hk'
  have hr := runAt_listS (memb xs) g1 g2
  rw [g3, e] at hr
  rw [e] at g4
  have hs : startsS (memb xs) m = (m == 0 || !memb xs (m - 1)) := by simp [startsS, g2]
  rw [hr, g4, hs]
  simp only [Bool.or_eq_true, beq_iff_eq, Bool.not_eq_true', memb, decide_eq_false_iff_not]
  by_cases h0 : m = 0
  · simp [h0]
  · rw [show ((m - 1 : Nat) : Int) = (m : Int) - 1 by omega]
    constructor
    · rintro (h | h)
      · exact absurd h h0
      · exact .inr h
    · rintro (h | h)
      · omega
      · exact .inr h
theorem starts_add (p : Nat → Bool) (x : Nat) : cnt (startsS (addM p x)) 65536 ≤ cnt (startsS p) 65536 + 1 ∧ cnt (startsS p) 65536 ≤ cnt (startsS (addM p x)) 65536 + 1 := by
  have one : ∀ k, cnt (fun i => decide (i = k)) 65536 ≤ 1 := fun k => by rw [cnt_one (k := k) 65536 (fun _ _ => rfl)]; split <;> omega
  constructor
  · have := cnt_sub_le (p := startsS (addM p x)) (q := startsS p) (r := fun i => decide (i = x)) 65536 (fun i _ hi => by
      simp only [startsS, addM, Bool.and_eq_true, Bool.or_eq_true, decide_eq_true_eq, beq_iff_eq, Bool.not_eq_true', Bool.or_eq_false_iff] at hi ⊢
      obtain ⟨h1, h2⟩ := hi
      rcases h1 with h1 | h1
      · left; exact ⟨h1, h2.imp id (fun h => h.1)⟩
      · exact .inr h1)
    have := one x; omega
  · have := cnt_sub_le (p := startsS p) (q := startsS (addM p x)) (r := fun i => decide (i = x + 1)) 65536 (fun i _ hi => by
      simp only [startsS, addM, Bool.and_eq_true, Bool.or_eq_true, decide_eq_true_eq, beq_iff_eq, Bool.not_eq_true', Bool.or_eq_false_iff, decide_eq_false_iff_not] at hi ⊢
      obtain ⟨h1, h2⟩ := hi
      by_cases e : i = x + 1
      · exact .inr e
      · left
        refine ⟨.inl h1, ?_⟩
        rcases h2 with h2 | h2
        · exact .inl h2
        · by_cases h0 : i = 0
          · exact .inl h0
          · exact .inr ⟨h2, by omega⟩)
    have := one (x + 1); omega
theorem starts_or (p q : Nat → Bool) : cnt (startsS (fun i => p i || q i)) 65536 ≤ cnt (startsS p) 65536 + cnt (startsS q) 65536 :=
  cnt_sub_le 65536 (fun i _ hi => by
    simp only [startsS, Bool.and_eq_true, Bool.or_eq_true, beq_iff_eq, Bool.not_eq_true', Bool.or_eq_false_iff] at hi ⊢
    obtain ⟨h1, h2⟩ := hi
    rcases h1 with h1 | h1
    · left; exact ⟨h1, h2.imp id (fun h => h.1)⟩
    · right; exact ⟨h1, h2.imp id (fun h => h.2)⟩)
theorem runs_more {xs : List Int} {x : Int} (h : Inc xs) (hl : Low xs) (h0 : 0 ≤ x) (h1 : x < 65536) : runsS (withS xs x) ≤ runsS xs + 1 ∧ runsS xs ≤ runsS (withS xs x) + 1 := by
  rw [withS_eq h hl h0 h1, runsS_listS, runsS_eq h hl]
  exact starts_add _ _
theorem runs_or {xs ys : List Int} (h : Inc xs) (h' : Inc ys) (hl : Low xs) (hl' : Low ys) : runsS (mergeS fOr xs ys) ≤ runsS xs + runsS ys := by
  rw [or_eq h h' hl hl', runsS_listS, runsS_eq h hl, runsS_eq h' hl']
  exact starts_or _ _
/-! ### With and Find -/
theorem find_low {xs : List Int} {x : Int} (h : Inc xs) (hl : Low xs) (h0 : 0 ≤ x) (h1 : x < 65536) : bsS (withS xs x) x = bsS xs x := by
  obtain ⟨n, rfl⟩ := Int.eq_ofNat_of_zero_le h0
  rw [withS_eq h hl h0 h1, bsS_listS _ _ (by omega)]
  conv => rhs; rw [← listS_memb h hl]
  rw [bsS_listS _ _ (by omega)]
  exact cnt_congr _ (fun i hi => by simp only [addM, Int.toNat_natCast]; rw [decide_eq_false (by omega)]; simp)
theorem with_found {xs : List Int} {x : Int} (h : Inc xs) : foundS (withS xs x) x = true := by
  rw [found_iff x (withS_inc h), decide_eq_true_eq, withS_mem h]; exact .inr rfl
theorem with_len {xs : List Int} {x : Int} : (withS xs x).length = xs.length + if foundS xs x then 0 else 1 := by
  have g3 := bsS_le xs x
  unfold withS
  split
  · simp
  · simp only [List.length_append, List.length_take, List.length_drop, List.length_singleton]; omega
theorem with_now {xs : List Int} {x y : Int} (h : Inc xs) (hne : x ≠ y) : foundS (withS xs x) y = foundS xs y := by
  rw [found_iff y (withS_inc h), found_iff y h, decide_eq_decide, withS_mem h]
  exact ⟨fun h => h.elim id (fun e => absurd e.symm hne), .inl⟩
theorem found_at {xs : List Int} {y : Int} (h : foundS xs y = true) : bsS xs y < xs.length ∧ xs.getD (bsS xs y) 0 = y := by
  simpa [foundS] using h
end Go.LA
