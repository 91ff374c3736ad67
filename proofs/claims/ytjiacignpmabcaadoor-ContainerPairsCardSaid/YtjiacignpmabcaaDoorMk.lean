/- Sets of numbers below 65536 as marks: plain law, and an array of marks in memory. -/
import Derived.Test.YtjiacignpmabcaaDoorWk
import Derived.Test.YtjiacignpmabcaaDoorArrP
import Derived.Laws.Tables
set_option linter.unusedSimpArgs false
set_option linter.unusedVariables false
namespace Go.LA
open Go.RowKit Go.ArrP

/-! ### How many, and which -/
def cnt (p : Nat → Bool) : Nat → Nat
  | 0 => 0
  | n + 1 => cnt p n + if p n then 1 else 0
def listS (p : Nat → Bool) : Nat → List Int
  | 0 => []
  | n + 1 => listS p n ++ if p n then [(n : Int)] else []
theorem cnt_le (p : Nat → Bool) : ∀ n, cnt p n ≤ n
  | 0 => Nat.le_refl _
  | n + 1 => by have := cnt_le p n; simp only [cnt]; split <;> omega
theorem cnt_mono (p : Nat → Bool) {m : Nat} : ∀ n, m ≤ n → cnt p m ≤ cnt p n
  | 0, h => by obtain rfl : m = 0 := by omega
               exact Nat.le_refl _
  | n + 1, h => by
    rcases Nat.lt_or_ge n m with h1 | h1
    · obtain rfl : m = n + 1 := by omega
      exact Nat.le_refl _
    · have := cnt_mono p n h1; simp only [cnt]; omega
theorem listS_len (p : Nat → Bool) : ∀ n, (listS p n).length = cnt p n
  | 0 => rfl
  | n + 1 => by simp only [listS, cnt, List.length_append, listS_len p n]; split <;> rfl
theorem listS_mem (p : Nat → Bool) (z : Int) : ∀ n, z ∈ listS p n ↔ ∃ i : Nat, i < n ∧ p i = true ∧ z = i
  | 0 => by simp [listS]
  | n + 1 => by
    simp only [listS, List.mem_append, listS_mem p z n]
    constructor
    · rintro (⟨i, h1, h2, h3⟩ | h)
      · exact ⟨i, by omega, h2, h3⟩
      · split at h
        · rename_i hp; simp at h; exact ⟨n, by omega, hp, h⟩
        · simp at h
    · rintro ⟨i, h1, h2, h3⟩
      by_cases e : i = n
      · subst e; right; simp [h2, h3]
      · left; exact ⟨i, by omega, h2, h3⟩
theorem listS_inc (p : Nat → Bool) : ∀ n, Inc (listS p n)
  | 0 => inc_nil
  | n + 1 => by
    have ih := listS_inc p n
    simp only [listS]
    split
    · refine List.pairwise_append.2 ⟨ih, List.pairwise_singleton _ _, fun a ha b hb => ?_⟩
      obtain ⟨i, h1, h2, h3⟩ := (listS_mem p a n).1 ha
      simp at hb; omega
    · simpa using ih
theorem cnt_congr {p q : Nat → Bool} : ∀ n, (∀ i, i < n → p i = q i) → cnt p n = cnt q n
  | 0, _ => rfl
  | n + 1, h => by simp only [cnt, cnt_congr n (fun i hi => h i (by omega)), h n (by omega)]
theorem listS_congr {p q : Nat → Bool} : ∀ n, (∀ i, i < n → p i = q i) → listS p n = listS q n
  | 0, _ => rfl
  | n + 1, h => by simp only [listS, listS_congr n (fun i hi => h i (by omega)), h n (by omega)]
theorem cnt_add {p q r : Nat → Bool} : ∀ n, (∀ i, i < n → (if p i then 1 else 0 : Nat) = (if q i then 1 else 0) + if r i then 1 else 0) → cnt p n = cnt q n + cnt r n
  | 0, _ => rfl
  | n + 1, h => by simp only [cnt, cnt_add n (fun i hi => h i (by omega)), h n (by omega)]; omega
theorem cnt_sub_le {p q r : Nat → Bool} : ∀ n, (∀ i, i < n → p i = true → q i = true ∨ r i = true) → cnt p n ≤ cnt q n + cnt r n
  | 0, _ => Nat.zero_le _
  | n + 1, h => by
    have ih := cnt_sub_le n (fun i hi => h i (by omega))
    have h1 := h n (by omega)
    simp only [cnt]
    cases hp : p n
    · simp only [Bool.false_eq_true, if_false]; split <;> split <;> omega
    · rcases h1 hp with h2 | h2 <;> simp only [h2, if_true] <;> split <;> omega
theorem cnt_zero {p : Nat → Bool} : ∀ n, (∀ i, i < n → p i = false) → cnt p n = 0
  | 0, _ => rfl
  | n + 1, h => by simp [cnt, cnt_zero n (fun i hi => h i (by omega)), h n (by omega)]
theorem cnt_one {p : Nat → Bool} {k : Nat} : ∀ n, (∀ i, i < n → p i = decide (i = k)) → cnt p n = if k < n then 1 else 0
  | 0, _ => by simp [cnt]
  | n + 1, h => by
    simp only [cnt, cnt_one n (fun i hi => h i (by omega)), h n (by omega), decide_eq_true_eq]
    by_cases e : n = k
    · subst e; simp
    · rw [if_neg e]
      by_cases h1 : k < n
      · rw [if_pos h1, if_pos (by omega)]
      · rw [if_neg h1, if_neg (by omega)]
/-- Numbers below a place. -/
theorem cnt_low (p : Nat → Bool) (m : Nat) : ∀ n, m ≤ n → cnt (fun i => p i && decide (i < m)) n = cnt p m
  | 0, h => by obtain rfl : m = 0 := by omega
               rfl
  | n + 1, h => by
    rcases Nat.lt_or_ge n m with h1 | h1
    · obtain rfl : m = n + 1 := by omega
      exact cnt_congr _ (fun i hi => by simp [hi])
    · simp only [cnt, cnt_low p m n h1]
      have e : ¬ n < m := by omega
      simp [e]
def memb (xs : List Int) (i : Nat) : Bool := decide ((i : Int) ∈ xs)
def Low (xs : List Int) : Prop := ∀ x ∈ xs, 0 ≤ x ∧ x < 65536
theorem listS_memb {xs : List Int} (h : Inc xs) (hl : Low xs) : listS (memb xs) 65536 = xs := by
  refine inc_ext (listS_inc _ _) h fun z => ?_
  rw [listS_mem]
  constructor
  · rintro ⟨i, h1, h2, rfl⟩; simpa [memb] using h2
  · intro hz
    have := hl z hz
    exact ⟨z.toNat, by omega, by simp only [memb]; rw [show ((z.toNat : Nat) : Int) = z by omega]; simpa using hz, by omega⟩
theorem memb_listS (p : Nat → Bool) {i : Nat} (hi : i < 65536) : memb (listS p 65536) i = p i := by
  simp only [memb]
  rw [Bool.eq_iff_iff, decide_eq_true_eq, listS_mem]
  constructor
  · rintro ⟨j, h1, h2, h3⟩
    obtain rfl : i = j := by omega
    exact h2
  · exact fun h => ⟨i, hi, h, rfl⟩
theorem listS_low (p : Nat → Bool) : Low (listS p 65536) := fun x hx => by
  obtain ⟨i, h1, _, h3⟩ := (listS_mem p x _).1 hx
  omega
theorem listS_eq {p q : Nat → Bool} (h : listS p 65536 = listS q 65536) {i : Nat} (hi : i < 65536) : p i = q i := by
  rw [← memb_listS p hi, h, memb_listS q hi]
def startsS (p : Nat → Bool) (i : Nat) : Bool := p i && (i == 0 || !p (i - 1))
/-- The k-th number. -/
theorem listS_at (p : Nat → Bool) : ∀ (n i : Nat), i < n → p i = true → (listS p n).getD (cnt p i) 0 = i
  | 0, i, h, _ => by omega
  | n + 1, i, h, hp => by
    simp only [listS]
    rcases Nat.lt_or_ge i n with h1 | h1
    · have ih := listS_at p n i h1 hp
      have hlt : cnt p i < (listS p n).length := by
        rw [listS_len]
        have := cnt_mono p (m := i + 1) n (by omega)
        simp only [cnt, hp, if_true] at this; omega
      rw [List.getD, List.getElem?_append_left hlt]; exact ih
    · obtain rfl : i = n := by omega
      rw [List.getD, List.getElem?_append_right (by rw [listS_len]; exact Nat.le_refl _), listS_len, hp]; simp
theorem listS_get (p : Nat → Bool) : ∀ (n k : Nat), k < cnt p n → ∃ i : Nat, i < n ∧ p i = true ∧ cnt p i = k ∧ (listS p n).getD k 0 = i
  | 0, k, h => by simp [cnt] at h
  | n + 1, k, h => by
    by_cases h1 : k < cnt p n
    · obtain ⟨i, h2, h3, h4, h5⟩ := listS_get p n k h1
      exact ⟨i, by omega, h3, h4, by rw [← h4]; exact listS_at p (n + 1) i (by omega) h3⟩
    · cases hp : p n
      · simp [cnt, hp] at h; omega
      · simp only [cnt, hp, if_true] at h
        have : cnt p n = k := by omega
        exact ⟨n, by omega, hp, this, by rw [← this]; exact listS_at p (n + 1) n (by omega) hp⟩
/-- Binary search in an array finds how many are below. -/
theorem bsS_uniq {xs : List Int} (x : Int) (h : Inc xs) {i : Nat} (hi : i ≤ xs.length) (h1 : ∀ k, k < i → xs.getD k 0 < x) (h2 : ∀ k, i ≤ k → k < xs.length → x ≤ xs.getD k 0) : bsS xs x = i := by
  obtain ⟨g1, g2⟩ := bsS_spec x h
  have g3 := bsS_le xs x
  rcases Nat.lt_trichotomy (bsS xs x) i with h3 | h3 | h3
  · have a := h1 (bsS xs x) h3; have b := g2 (bsS xs x) (Nat.le_refl _) (by omega); omega
  · exact h3
  · have a := g1 i h3; have b := h2 i (Nat.le_refl _) (by omega); omega
theorem getD_listS (p : Nat → Bool) {n k : Nat} (h : k < cnt p n) : ∃ i : Nat, i < n ∧ p i = true ∧ cnt p i = k ∧ (listS p n).getD k 0 = i := listS_get p n k h
theorem bsS_listS (p : Nat → Bool) (x : Nat) (hx : x ≤ 65536) : bsS (listS p 65536) x = cnt p x := by
  refine bsS_uniq x (listS_inc _ _) (by rw [listS_len]; exact cnt_mono p _ hx) (fun k hk => ?_) (fun k h1 h2 => ?_)
  · obtain ⟨i, g1, g2, g3, g4⟩ := listS_get p 65536 k (Nat.lt_of_lt_of_le hk (cnt_mono p _ hx))
    rw [g4]
    rcases Nat.lt_or_ge i x with h | h
    · omega
    · have := cnt_mono p (m := x) i h; omega
  · rw [listS_len] at h2
    obtain ⟨i, g1, g2, g3, g4⟩ := listS_get p 65536 k h2
    rw [g4]
    rcases Nat.lt_or_ge i x with h | h
    · have := cnt_mono p (m := i + 1) x h
      simp only [cnt, g2, if_true] at this; omega
    · omega

/-! ### An array of marks -/
def marks (p : Nat → Bool) : Array Value := ((List.range 65536).map (fun i => Value.bool (p i))).toArray
theorem marks_size (p : Nat → Bool) : (marks p).size = 65536 := by simp [marks]
theorem marks_get (p : Nat → Bool) {i : Nat} (h : i < 65536) : (marks p)[i]? = some (.bool (p i)) := by
  simp [marks, List.getElem?_range h]
theorem marks_congr {p q : Nat → Bool} (h : ∀ i, i < 65536 → p i = q i) : marks p = marks q := by
  have h1 : ∀ i ∈ List.range 65536, Value.bool (p i) = Value.bool (q i) := fun i hi => by rw [h i (List.mem_range.1 hi)]
  exact congrArg List.toArray (List.map_congr_left h1)
theorem marks_set (p : Nat → Bool) {i : Nat} (b : Bool) (h : i < 65536) : (marks p).setIfInBounds i (.bool b) = marks (fun j => if j = i then b else p j) := by
  refine Array.ext (by rw [Array.size_setIfInBounds, marks_size, marks_size]) fun j h1 h2 => ?_
  have hj : j < 65536 := by rw [marks_size] at h2; exact h2
  have e1 : (marks (fun j => if j = i then b else p j))[j]? = some (.bool (if j = i then b else p j)) := marks_get _ hj
  have e2 : ((marks p).setIfInBounds i (.bool b))[j]? = some (.bool (if j = i then b else p j)) := by
    by_cases e : j = i
    · subst e; simp [marks_size, h]
    · rw [Array.getElem?_setIfInBounds_ne (by omega), marks_get p hj]; simp [e]
  rw [Array.getElem?_eq_getElem h1] at e2
  rw [Array.getElem?_eq_getElem h2] at e1
  exact Option.some.inj (e2.trans e1.symm)
def fl0 : List Value := [.bool false, .bool false, .bool false, .bool false, .bool false, .bool false, .bool false, .bool false, .bool false, .bool false, .bool false, .bool false, .bool false, .bool false, .bool false, .bool false, .bool false, .bool false, .bool false, .bool false, .bool false, .bool false, .bool false, .bool false, .bool false, .bool false, .bool false, .bool false, .bool false, .bool false, .bool false, .bool false, .bool false, .bool false, .bool false, .bool false, .bool false, .bool false, .bool false, .bool false, .bool false, .bool false, .bool false, .bool false, .bool false, .bool false, .bool false, .bool false, .bool false, .bool false, .bool false, .bool false, .bool false, .bool false, .bool false, .bool false, .bool false, .bool false, .bool false, .bool false, .bool false, .bool false, .bool false, .bool false]
def fl1 : List Value := List.append fl0 fl0
def fl2 : List Value := List.append fl1 fl1
def fl3 : List Value := List.append fl2 fl2
def fl4 : List Value := List.append fl3 fl3
def fl5 : List Value := List.append fl4 fl4
def fl6 : List Value := List.append fl5 fl5
def fl7 : List Value := List.append fl6 fl6
def fl8 : List Value := List.append fl7 fl7
def fl9 : List Value := List.append fl8 fl8
def fl10 : List Value := List.append fl9 fl9
theorem rep2 {l : List Value} {n m : Nat} {a : Value} (h : l = List.replicate n a) (hm : n + n = m) : List.append l l = List.replicate m a := by
  subst h; subst hm; show List.replicate n a ++ List.replicate n a = _; rw [List.replicate_append_replicate]
theorem fl10_eq : fl10 = List.replicate 65536 (.bool false) := by
  have h0 : fl0 = List.replicate 64 (.bool false) := rfl
  exact rep2 (rep2 (rep2 (rep2 (rep2 (rep2 (rep2 (rep2 (rep2 (rep2 h0 rfl) rfl) rfl) rfl) rfl) rfl) rfl) rfl) rfl) rfl
theorem range_rep (n : Nat) (a : Value) : (List.range n).map (fun _ => a) = List.replicate n a := by
  refine List.ext_getElem (by simp) fun i h1 h2 => by simp
theorem marks_none : marks (fun _ => false) = fl10.toArray := by
  rw [fl10_eq, ← range_rep]
  rfl
/-- A pointer to marks. -/
def MkI (base e : Nat) (w : World) (v : Value) (p : Nat → Bool) : Prop := ∃ b, v = .pointer (some ⟨b, 0, none⟩) ∧ base ≤ b ∧ w.heap[b]? = some (.cells (marks p) e (0, 0))
theorem MkI.ext {base e : Nat} {w w' : World} {v : Value} {p : Nat → Bool} (h : MkI base e w v p) (x : Ext w w') : MkI base e w' v p := by
  obtain ⟨b, h1, h2, h3⟩ := h
  exact ⟨b, h1, h2, x.block h3⟩
theorem MkI.base {base base' e : Nat} {w : World} {v : Value} {p : Nat → Bool} (h : MkI base e w v p) (hb : base' ≤ base) : MkI base' e w v p := by
  obtain ⟨b, h1, h2, h3⟩ := h
  exact ⟨b, h1, Nat.le_trans hb h2, h3⟩
def mkI (base e : Nat) (p : Nat → Bool) : AV := ⟨fun v w => MkI base e w v p, fun _ _ _ x h => h.ext x⟩
theorem ret_mk {w : World} {base base' e : Nat} {p : Nat → Bool} (hb : base' ≤ base) (en : Ending) (w' : World) (h : Ret w (.pred (mkI base e p)) en w') : Ret w (.pred (mkI base' e p)) en w' := by
  obtain ⟨v, h1, h2, h3⟩ := h
  exact ⟨v, h1, h2, MkI.base h3 hb⟩

/-! ### All but some blocks is as it was -/
structure Fr (R : Nat → Prop) (w w' : World) : Prop where
  os : w'.os = w.os
  tape : w'.tape = w.tape
  output : w'.output = w.output
  size : w.heap.size ≤ w'.heap.size
  block : ∀ k, k < w.heap.size → ¬ R k → w'.heap[k]? = w.heap[k]?
theorem Fr.of {R : Nat → Prop} {w w' : World} (e : Ext w w') : Fr R w w' := ⟨e.os, e.tape, e.output, e.size, fun k hk _ => Below.block e k hk⟩
theorem Fr.trans {R : Nat → Prop} {w w' w'' : World} (h : Fr R w w') (h' : Fr R w' w'') : Fr R w w'' :=
  ⟨h'.os.trans h.os, h'.tape.trans h.tape, h'.output.trans h.output, Nat.le_trans h.size h'.size, fun k hk hn => (h'.block k (Nat.lt_of_lt_of_le hk h.size) hn).trans (h.block k hk hn)⟩
theorem Fr.mono {R R' : Nat → Prop} {w w' : World} (h : Fr R w w') (hr : ∀ k, R k → R' k) : Fr R' w w' := ⟨h.os, h.tape, h.output, h.size, fun k hk hn => h.block k hk (fun h' => hn (hr k h'))⟩
theorem Fr.setRow {R : Nat → Prop} {w w' : World} (h : Fr R w w') {b : Nat} (hb : R b) (cs : Array Value) : Fr R w (w'.setRow b cs) :=
  ⟨h.os, h.tape, h.output, by simpa using h.size, fun k hk hn => (setRow_other w' b k cs (fun e => hn (e ▸ hb))).trans (h.block k hk hn)⟩
theorem Fr.ext {R : Nat → Prop} {w0 w w' : World} (e : Ext w0 w) (h : Fr R w w') (hr : ∀ k, R k → w0.heap.size ≤ k) : Ext w0 w' :=
  ⟨h.os.trans e.os, h.tape.trans e.tape, h.output.trans e.output, Nat.le_trans e.size h.size, fun k hk => (h.block k (Nat.lt_of_lt_of_le hk e.size) (fun h' => by have := hr k h'; omega)).trans (Below.block e k hk)⟩
theorem Fr.at {R : Nat → Prop} {w w' : World} (h : Fr R w w') {b : Nat} {o : Obj} (hb : w.heap[b]? = some o) (hn : ¬ R b) : w'.heap[b]? = some o :=
  (h.block b (Array.getElem?_eq_some_iff.1 hb).1 hn).trans hb
theorem Fr.own {R : Nat → Prop} {w w' : World} (h : Fr R w w') {base e s n : Nat} {v : Value} {cs : List Value} (ho : Own base e s w v n cs) (hn : ∀ k, v.ownBlock = some k → ¬ R k) : Own base e s w' v n cs := by
  refine ⟨ho.1, ?_⟩
  rcases ho.2 with h0 | ⟨g, cap, cur, rfl, hb, hg, r⟩
  · exact .inl h0
  · exact .inr ⟨g, cap, cur, rfl, hb, h.at hg (hn g rfl), r⟩
theorem Fr.marks {R : Nat → Prop} {w w' : World} (h : Fr R w w') {base e : Nat} {v : Value} {p : Nat → Bool} (hm : MkI base e w v p) (hn : ∀ k, base ≤ k → ¬ R k) : MkI base e w' v p := by
  obtain ⟨b, h1, h2, h3⟩ := hm
  exact ⟨b, h1, h2, h.at h3 (hn b h2)⟩
theorem row_at {k : IntKind} {cur : Array Value} {xs : List Int} (h : cur.toList.take xs.length = xs.map (Value.int k)) {i : Nat} (hi : i < xs.length) : cur[i]? = some (.int k (xs.getD i 0)) := by
  have h1 := congrArg (fun l => l[i]?) h
  simp only [List.getElem?_take, if_pos hi, List.getElem?_map, List.getElem?_eq_getElem hi, Option.map_some] at h1
  rw [← Array.getElem?_toList, h1]
  simp [List.getD, List.getElem?_eq_getElem hi]
end Go.LA
attribute [irreducible] Go.LA.marks
