/- The numbers of a row that stay when some are taken out. -/
import Derived.Test.YtjiacignpmabcaaDoorMk
set_option linter.unusedSimpArgs false
set_option linter.unusedVariables false
namespace Go.ArrP
open Go.LA
def keepS (q : Nat → Bool) (xs : List Int) : List Int := xs.filter (fun x => !q x.toNat)
/-- Where the first one stands that goes. -/
def fstQ (q : Nat → Bool) : List Int → Nat
  | [] => 0
  | x :: r => if q x.toNat then 0 else fstQ q r + 1
theorem fstQ_le (q : Nat → Bool) : ∀ xs, fstQ q xs ≤ xs.length
  | [] => Nat.le_refl _
  | x :: r => by
    have := fstQ_le q r
    unfold fstQ; split
    · simp
    · simp only [List.length_cons]; omega
theorem fstQ_before (q : Nat → Bool) : ∀ (xs : List Int) (j : Nat), j < fstQ q xs → q (xs.getD j 0).toNat = false
  | [], j, h => by simp [fstQ] at h
  | x :: r, 0, h => by
    unfold fstQ at h
    split at h
    · omega
    · rename_i hq; simpa using hq
  | x :: r, j + 1, h => by
    unfold fstQ at h
    split at h
    · omega
    · simpa using fstQ_before q r j (by omega)
theorem fstQ_at (q : Nat → Bool) : ∀ (xs : List Int), fstQ q xs < xs.length → q (xs.getD (fstQ q xs) 0).toNat = true
  | [], h => by simp at h
  | x :: r, h => by
    unfold fstQ at h ⊢
    by_cases hq : q x.toNat = true
    · simp [hq]
    · simp only [hq, Bool.false_eq_true, if_false] at h ⊢
      simpa using fstQ_at q r (by simpa using h)
theorem keepS_all (q : Nat → Bool) {xs : List Int} (h : fstQ q xs = xs.length) : keepS q xs = xs := by
  unfold keepS
  rw [List.filter_eq_self]
  intro x hx
  obtain ⟨j, hj, rfl⟩ := List.getElem_of_mem hx
  have := fstQ_before q xs j (by omega)
  rw [List.getD_eq_getElem?_getD, List.getElem?_eq_getElem hj] at this
  simpa using this
theorem keepS_pre (q : Nat → Bool) (xs : List Int) : keepS q (xs.take (fstQ q xs)) = xs.take (fstQ q xs) := by
  unfold keepS
  rw [List.filter_eq_self]
  intro x hx
  obtain ⟨j, hj, rfl⟩ := List.getElem_of_mem hx
  have hj' : j < fstQ q xs := by simp at hj; omega
  have := fstQ_before q xs j hj'
  have hl : j < xs.length := by have := fstQ_le q xs; omega
  rw [List.getD_eq_getElem?_getD, List.getElem?_eq_getElem hl] at this
  simpa using this
theorem keepS_step (q : Nat → Bool) {xs : List Int} {j : Nat} (hj : j < xs.length) : keepS q (xs.take (j + 1)) = keepS q (xs.take j) ++ if q (xs.getD j 0).toNat then [] else [xs.getD j 0] := by
  unfold keepS
  rw [List.take_succ_eq_append_getElem hj, List.filter_append, List.getD_eq_getElem?_getD, List.getElem?_eq_getElem hj]
  cases hq : q xs[j].toNat <;> simp [hq]
theorem keepS_len (q : Nat → Bool) (xs : List Int) : (keepS q xs).length ≤ xs.length := List.length_filter_le _ _
/-- What stands in the row on the way. -/
structure Mid (q : Nat → Bool) (xs ys : List Int) (i j : Nat) : Prop where
  len : ys.length = xs.length
  lt : i < j
  le : j ≤ xs.length
  pre : ys.take i = keepS q (xs.take j)
  rest : ys.drop j = xs.drop j
theorem Mid.cur {q : Nat → Bool} {xs ys : List Int} {i j : Nat} (h : Mid q xs ys i j) (hj : j < xs.length) : ys.getD j 0 = xs.getD j 0 := by
  have := congrArg (fun l => l.getD 0 0) h.rest
  simpa [List.getD_eq_getElem?_getD, List.getElem?_drop] using this
theorem Mid.start (q : Nat → Bool) {xs : List Int} (h : fstQ q xs < xs.length) : Mid q xs xs (fstQ q xs) (fstQ q xs + 1) :=
  ⟨rfl, by omega, by omega, by rw [keepS_step q h, fstQ_at q xs h, keepS_pre]; simp, rfl⟩
theorem Mid.skip {q : Nat → Bool} {xs ys : List Int} {i j : Nat} (h : Mid q xs ys i j) (hj : j < xs.length) (hq : q (xs.getD j 0).toNat = true) : Mid q xs ys i (j + 1) :=
  ⟨h.len, by have := h.lt; omega, by omega, by rw [keepS_step q hj, hq, h.pre]; simp, by
    have := congrArg (List.drop 1) h.rest
    simpa [List.drop_drop, Nat.add_comm] using this⟩
theorem Mid.put {q : Nat → Bool} {xs ys : List Int} {i j : Nat} (h : Mid q xs ys i j) (hj : j < xs.length) (hq : q (xs.getD j 0).toNat = false) : Mid q xs (ys.set i (xs.getD j 0)) (i + 1) (j + 1) := by
  have hlt := h.lt
  have hil : i < ys.length := by have := h.len; omega
  refine ⟨by simpa using h.len, by omega, by omega, ?_, ?_⟩
  · rw [keepS_step q hj, hq, ← h.pre]
    rw [List.take_succ_eq_append_getElem (by simpa using hil), List.getElem_set_self]
    simp [List.take_set_of_le]
  · rw [List.drop_set_of_lt (by omega)]
    have := congrArg (List.drop 1) h.rest
    simpa [List.drop_drop, Nat.add_comm] using this
theorem Mid.fin {q : Nat → Bool} {xs ys : List Int} {i : Nat} (h : Mid q xs ys i xs.length) : ys.take i = keepS q xs := by
  have := h.pre; rwa [List.take_length] at this
/-- Of the numbers of a set those that are in another one too. -/
theorem keepS_set (p q : Nat → Bool) : ∀ n, keepS (fun i => !q i) (listS p n) = listS (fun i => p i && q i) n
  | 0 => rfl
  | n + 1 => by
    have ih := keepS_set p q n
    unfold keepS at ih ⊢
    simp only [listS, List.filter_append, ih]
    by_cases hp : p n = true
    · by_cases hq : q n = true
      · simp [hp, hq]
      · simp [hp, hq]
    · simp [hp]
end Go.ArrP
