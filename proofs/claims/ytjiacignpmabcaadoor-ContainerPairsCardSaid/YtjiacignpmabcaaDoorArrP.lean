/- Rows of numbers in order, as lists: what the functions of package arrays reckon. -/
import Init
namespace Go.ArrP

/-- In rising order. -/
def Inc (xs : List Int) : Prop := xs.Pairwise (· < ·)
instance (xs : List Int) : Decidable (Inc xs) := inferInstanceAs (Decidable (xs.Pairwise (· < ·)))

theorem getD_eq {xs : List Int} {i : Nat} (h : i < xs.length) : xs.getD i 0 = xs[i] := by simp [List.getD, h]

theorem mem_getD {xs : List Int} {i : Nat} (h : i < xs.length) : xs.getD i 0 ∈ xs := by rw [getD_eq h]; exact List.getElem_mem h
theorem all_getD {xs : List Int} {p : Int → Prop} (h : ∀ i, i < xs.length → p (xs.getD i 0)) : ∀ z ∈ xs, p z := fun z hz => by
  obtain ⟨i, hi, he⟩ := List.getElem_of_mem hz
  have := h i hi
  rw [getD_eq hi, he] at this; exact this
theorem inc_of {xs : List Int} (h : ∀ i, 1 ≤ i → i < xs.length → xs.getD (i - 1) 0 < xs.getD i 0) : Inc xs := by
  unfold Inc
  rw [List.pairwise_iff_getElem]
  intro i j hi hj hij
  induction j with
  | zero => omega
  | succ j ih =>
    have h1 := h (j + 1) (by omega) hj
    rw [getD_eq hj, show j + 1 - 1 = j from rfl, getD_eq (by omega)] at h1
    rcases Nat.lt_or_ge i j with h2 | h2
    · exact Int.lt_trans (ih (by omega) h2) h1
    · obtain rfl : i = j := by omega
      exact h1
theorem Inc.at {xs : List Int} (h : Inc xs) {i j : Nat} (hij : i < j) (hj : j < xs.length) : xs.getD i 0 < xs.getD j 0 := by
  rw [getD_eq hj, getD_eq (by omega)]
  exact (List.pairwise_iff_getElem.1 h) i j (by omega) hj hij

theorem inc_nil : Inc [] := List.Pairwise.nil
theorem inc_cons {x : Int} {xs : List Int} : Inc (x :: xs) ↔ (∀ y ∈ xs, x < y) ∧ Inc xs := List.pairwise_cons

/-- Two rows in order with the same numbers are the same. -/
theorem inc_ext : ∀ {xs ys : List Int}, Inc xs → Inc ys → (∀ x, x ∈ xs ↔ x ∈ ys) → xs = ys
  | [], [], _, _, _ => rfl
  | [], y :: ys, _, _, h => by have := (h y).2 (by simp); cases this
  | x :: xs, [], _, _, h => by have := (h x).1 (by simp); cases this
  | x :: xs, y :: ys, hx, hy, h => by
    obtain ⟨hx1, hx2⟩ := inc_cons.1 hx
    obtain ⟨hy1, hy2⟩ := inc_cons.1 hy
    have e : x = y := by
      have h1 := (h x).1 (by simp)
      have h2 := (h y).2 (by simp)
      simp only [List.mem_cons] at h1 h2
      rcases h1 with h1 | h1
      · exact h1
      · rcases h2 with h2 | h2
        · exact h2.symm
        · have := hy1 x h1; have := hx1 y h2; omega
    subst e
    congr 1
    refine inc_ext hx2 hy2 fun z => ⟨fun hz => ?_, fun hz => ?_⟩
    · have := (h z).1 (by simp [hz])
      simp only [List.mem_cons] at this
      rcases this with rfl | h'
      · have := hx1 z hz; omega
      · exact h'
    · have := (h z).2 (by simp [hz])
      simp only [List.mem_cons] at this
      rcases this with rfl | h'
      · have := hy1 z hz; omega
      · exact h'

/-! ### Both, either .. -/
def mergeS (f : Bool → Bool → Bool) : List Int → List Int → List Int
  | [], [] => []
  | x :: a, [] => (if f true false then [x] else []) ++ mergeS f a []
  | [], y :: b => (if f false true then [y] else []) ++ mergeS f [] b
  | x :: a, y :: b =>
    if x < y then (if f true false then [x] else []) ++ mergeS f a (y :: b)
    else if y < x then (if f false true then [y] else []) ++ mergeS f (x :: a) b
    else (if f true true then [y] else []) ++ mergeS f a b
termination_by a b => a.length + b.length

theorem mem_if {p : Bool} {x z : Int} : z ∈ (if p then [x] else []) ↔ p = true ∧ z = x := by
  cases p <;> simp

theorem merge_len (f : Bool → Bool → Bool) (a b : List Int) : (mergeS f a b).length ≤ a.length + b.length := by
  have hif : ∀ (p : Bool) (x : Int), (if p then [x] else []).length ≤ 1 := fun p x => by cases p <;> simp
  fun_induction mergeS f a b with
  | case1 => simp
  | case2 x a ih => have := hif (f true false) x; simp only [List.length_append, List.length_cons, List.length_nil] at *; omega
  | case3 y b ih => have := hif (f false true) y; simp only [List.length_append, List.length_cons, List.length_nil] at *; omega
  | case4 x a y b h ih => have := hif (f true false) x; simp only [List.length_append, List.length_cons] at *; omega
  | case5 x a y b h h' ih => have := hif (f false true) y; simp only [List.length_append, List.length_cons] at *; omega
  | case6 x a y b h h' ih => have := hif (f true true) y; simp only [List.length_append, List.length_cons] at *; omega

/-- What comes is of the one or the other. -/
theorem merge_sub (f : Bool → Bool → Bool) (a b : List Int) : ∀ z ∈ mergeS f a b, z ∈ a ∨ z ∈ b := by
  fun_induction mergeS f a b with
  | case1 => intro z hz; cases hz
  | case2 x a ih => intro z hz; rw [List.mem_append, mem_if] at hz; rcases hz with ⟨_, rfl⟩ | hz; · simp
                    · rcases ih z hz with h | h <;> simp_all
  | case3 y b ih => intro z hz; rw [List.mem_append, mem_if] at hz; rcases hz with ⟨_, rfl⟩ | hz; · simp
                    · rcases ih z hz with h | h <;> simp_all
  | case4 x a y b h ih => intro z hz; rw [List.mem_append, mem_if] at hz; rcases hz with ⟨_, rfl⟩ | hz; · simp
                          · rcases ih z hz with h | h <;> simp_all
  | case5 x a y b h h' ih => intro z hz; rw [List.mem_append, mem_if] at hz; rcases hz with ⟨_, rfl⟩ | hz; · simp
                             · rcases ih z hz with h | h <;> simp_all
  | case6 x a y b h h' ih => intro z hz; rw [List.mem_append, mem_if] at hz; rcases hz with ⟨_, rfl⟩ | hz; · simp
                             · rcases ih z hz with h | h <;> simp_all

theorem merge_mem (f : Bool → Bool → Bool) (hf : f false false = false) (a b : List Int) : Inc a → Inc b → ∀ z, z ∈ mergeS f a b ↔ f (decide (z ∈ a)) (decide (z ∈ b)) = true := by
  fun_induction mergeS f a b with
  | case1 => intro _ _ z; simp [hf]
  | case2 x a ih =>
    intro ha hb z
    obtain ⟨h1, h2⟩ := inc_cons.1 ha
    rw [List.mem_append, mem_if, ih h2 hb]
    by_cases e : z = x
    · subst e
      have : z ∉ a := fun h => by have := h1 z h; omega
      simp [this, hf]
    · simp [e]
  | case3 y b ih =>
    intro ha hb z
    obtain ⟨h1, h2⟩ := inc_cons.1 hb
    rw [List.mem_append, mem_if, ih ha h2]
    by_cases e : z = y
    · subst e
      have : z ∉ b := fun h => by have := h1 z h; omega
      simp [this, hf]
    · simp [e]
  | case4 x a y b h ih =>
    intro ha hb z
    obtain ⟨h1, h2⟩ := inc_cons.1 ha
    obtain ⟨h3, h4⟩ := inc_cons.1 hb
    rw [List.mem_append, mem_if, ih h2 hb]
    by_cases e : z = x
    · subst e
      have n1 : z ∉ a := fun h => by have := h1 z h; omega
      have n2 : z ∉ y :: b := fun h' => by
        simp only [List.mem_cons] at h'
        rcases h' with h' | h'
        · omega
        · have := h3 z h'; omega
      simp only [n1, n2, List.mem_cons, true_or, decide_true, decide_false, hf]; simp
    · simp [e]
  | case5 x a y b h h' ih =>
    intro ha hb z
    obtain ⟨h1, h2⟩ := inc_cons.1 ha
    obtain ⟨h3, h4⟩ := inc_cons.1 hb
    rw [List.mem_append, mem_if, ih ha h4]
    by_cases e : z = y
    · subst e
      have n1 : z ∉ b := fun h => by have := h3 z h; omega
      have n2 : z ∉ x :: a := fun h' => by
        simp only [List.mem_cons] at h'
        rcases h' with h' | h'
        · omega
        · have := h1 z h'; omega
      simp only [n1, n2, List.mem_cons, true_or, decide_true, decide_false, hf]; simp
    · simp [e]
  | case6 x a y b h h' ih =>
    intro ha hb z
    obtain ⟨h1, h2⟩ := inc_cons.1 ha
    obtain ⟨h3, h4⟩ := inc_cons.1 hb
    obtain rfl : x = y := by omega
    rw [List.mem_append, mem_if, ih h2 h4]
    by_cases e : z = x
    · subst e
      have n1 : z ∉ a := fun h => by have := h1 z h; omega
      have n2 : z ∉ b := fun h => by have := h3 z h; omega
      simp [n1, n2, hf]
    · simp [e]

theorem inc_if_append {p : Bool} {x : Int} {l : List Int} (h : Inc l) (hx : ∀ z ∈ l, x < z) : Inc ((if p then [x] else []) ++ l) := by
  cases p
  · simpa using h
  · exact inc_cons.2 ⟨hx, h⟩

theorem merge_inc (f : Bool → Bool → Bool) (a b : List Int) : Inc a → Inc b → Inc (mergeS f a b) := by
  fun_induction mergeS f a b with
  | case1 => intro _ _; exact inc_nil
  | case2 x a ih =>
    intro ha hb
    obtain ⟨h1, h2⟩ := inc_cons.1 ha
    exact inc_if_append (ih h2 hb) fun z hz => by rcases merge_sub f _ _ z hz with h | h; · exact h1 z h
                                                  · cases h
  | case3 y b ih =>
    intro ha hb
    obtain ⟨h1, h2⟩ := inc_cons.1 hb
    exact inc_if_append (ih ha h2) fun z hz => by rcases merge_sub f _ _ z hz with h | h; · cases h
                                                  · exact h1 z h
  | case4 x a y b h ih =>
    intro ha hb
    obtain ⟨h1, h2⟩ := inc_cons.1 ha
    obtain ⟨h3, h4⟩ := inc_cons.1 hb
    exact inc_if_append (ih h2 hb) fun z hz => by
      rcases merge_sub f _ _ z hz with h' | h'
      · exact h1 z h'
      · simp only [List.mem_cons] at h'
        rcases h' with rfl | h'
        · exact h
        · have := h3 z h'; omega
  | case5 x a y b h h' ih =>
    intro ha hb
    obtain ⟨h1, h2⟩ := inc_cons.1 ha
    obtain ⟨h3, h4⟩ := inc_cons.1 hb
    exact inc_if_append (ih ha h4) fun z hz => by
      rcases merge_sub f _ _ z hz with h'' | h''
      · simp only [List.mem_cons] at h''
        rcases h'' with rfl | h''
        · exact h'
        · have := h1 z h''; omega
      · exact h3 z h''
  | case6 x a y b h h' ih =>
    intro ha hb
    obtain ⟨h1, h2⟩ := inc_cons.1 ha
    obtain ⟨h3, h4⟩ := inc_cons.1 hb
    obtain rfl : x = y := by omega
    exact inc_if_append (ih h2 h4) fun z hz => by
      rcases merge_sub f _ _ z hz with h'' | h''
      · exact h1 z h''
      · exact h3 z h''

theorem merge_A (f : Bool → Bool → Bool) {a b : List Int} (ha : 0 < a.length) (hb : b.length = 0) : mergeS f a b = (if f true false then [a.getD 0 0] else []) ++ mergeS f (a.drop 1) b := by
  cases a with
  | nil => simp at ha
  | cons x a =>
    obtain rfl : b = [] := List.eq_nil_of_length_eq_zero hb
    simp [mergeS]
theorem merge_B (f : Bool → Bool → Bool) {a b : List Int} (ha : a.length = 0) (hb : 0 < b.length) : mergeS f a b = (if f false true then [b.getD 0 0] else []) ++ mergeS f a (b.drop 1) := by
  cases b with
  | nil => simp at hb
  | cons x b =>
    obtain rfl : a = [] := List.eq_nil_of_length_eq_zero ha
    simp [mergeS]
theorem merge_lt (f : Bool → Bool → Bool) {a b : List Int} (ha : 0 < a.length) (hb : 0 < b.length) (h : a.getD 0 0 < b.getD 0 0) : mergeS f a b = (if f true false then [a.getD 0 0] else []) ++ mergeS f (a.drop 1) b := by
  cases a with
  | nil => simp at ha
  | cons x a =>
    cases b with
    | nil => simp at hb
    | cons y b =>
      simp only [List.getD_cons_zero] at h
      simp [mergeS, h]
theorem merge_gt (f : Bool → Bool → Bool) {a b : List Int} (ha : 0 < a.length) (hb : 0 < b.length) (h : b.getD 0 0 < a.getD 0 0) : mergeS f a b = (if f false true then [b.getD 0 0] else []) ++ mergeS f a (b.drop 1) := by
  cases a with
  | nil => simp at ha
  | cons x a =>
    cases b with
    | nil => simp at hb
    | cons y b =>
      simp only [List.getD_cons_zero] at h
      have h' : ¬ x < y := by omega
      simp [mergeS, h, h']
theorem merge_eq (f : Bool → Bool → Bool) {a b : List Int} (ha : 0 < a.length) (hb : 0 < b.length) (h : a.getD 0 0 = b.getD 0 0) : mergeS f a b = (if f true true then [b.getD 0 0] else []) ++ mergeS f (a.drop 1) (b.drop 1) := by
  cases a with
  | nil => simp at ha
  | cons x a =>
    cases b with
    | nil => simp at hb
    | cons y b =>
      simp only [List.getD_cons_zero] at h
      subst h
      have h' : ¬ x < x := by omega
      simp [mergeS]
def fAnd (a b : Bool) : Bool := a && b
def fOr (_ _ : Bool) : Bool := true
def fNot (_ b : Bool) : Bool := !b
def fXor (a b : Bool) : Bool := !(a == b)

def fOr' (a b : Bool) : Bool := a || b
theorem merge_congr (f g : Bool → Bool → Bool) (h1 : f true false = g true false) (h2 : f false true = g false true) (h3 : f true true = g true true) (a b : List Int) : mergeS f a b = mergeS g a b := by
  fun_induction mergeS f a b with
  | case1 => simp [mergeS]
  | case2 x a ih => rw [mergeS, ih, h1]
  | case3 y b ih => rw [mergeS, ih, h2]
  | case4 x a y b h ih => rw [mergeS, if_pos h, ih, h1]
  | case5 x a y b h h' ih => rw [mergeS, if_neg h, if_pos h', ih, h2]
  | case6 x a y b h h' ih => rw [mergeS, if_neg h, if_neg h', ih, h3]
theorem merge_or (a b : List Int) : mergeS fOr a b = mergeS fOr' a b := merge_congr fOr fOr' rfl rfl rfl a b

section
variable {a b : List Int} (ha : Inc a) (hb : Inc b)
include ha hb
theorem mem_and (z : Int) : z ∈ mergeS fAnd a b ↔ z ∈ a ∧ z ∈ b := by rw [merge_mem fAnd rfl a b ha hb]; simp [fAnd]
theorem mem_or (z : Int) : z ∈ mergeS fOr a b ↔ z ∈ a ∨ z ∈ b := by rw [merge_or, merge_mem fOr' rfl a b ha hb]; simp [fOr']
theorem mem_xor (z : Int) : z ∈ mergeS fXor a b ↔ ¬ (z ∈ a ↔ z ∈ b) := by rw [merge_mem fXor rfl a b ha hb]; simp [fXor]
end
def fNot' (a b : Bool) : Bool := a && !b
theorem merge_not (f : Bool → Bool → Bool) (hf : f = fNot) (a b : List Int) : mergeS f a b = mergeS fNot' a b := by subst hf; exact merge_congr fNot fNot' rfl rfl rfl a b
theorem mem_not {a b : List Int} (ha : Inc a) (hb : Inc b) (z : Int) : z ∈ mergeS fNot a b ↔ z ∈ a ∧ ¬ z ∈ b := by
  rw [merge_not fNot rfl, merge_mem fNot' rfl a b ha hb]; simp [fNot']

theorem and_comm' {a b : List Int} (ha : Inc a) (hb : Inc b) : mergeS fAnd a b = mergeS fAnd b a :=
  inc_ext (merge_inc _ _ _ ha hb) (merge_inc _ _ _ hb ha) fun z => by rw [mem_and ha hb, mem_and hb ha]; exact And.comm
theorem or_comm' {a b : List Int} (ha : Inc a) (hb : Inc b) : mergeS fOr a b = mergeS fOr b a :=
  inc_ext (merge_inc _ _ _ ha hb) (merge_inc _ _ _ hb ha) fun z => by rw [mem_or ha hb, mem_or hb ha]; exact Or.comm
theorem xor_comm' {a b : List Int} (ha : Inc a) (hb : Inc b) : mergeS fXor a b = mergeS fXor b a :=
  inc_ext (merge_inc _ _ _ ha hb) (merge_inc _ _ _ hb ha) fun z => by rw [mem_xor ha hb, mem_xor hb ha, @Iff.comm (z ∈ a)]
/-- Both and just one are either. -/
theorem law_or {a b : List Int} (ha : Inc a) (hb : Inc b) : mergeS fOr (mergeS fAnd a b) (mergeS fXor a b) = mergeS fOr a b :=
  inc_ext (merge_inc _ _ _ (merge_inc _ _ _ ha hb) (merge_inc _ _ _ ha hb)) (merge_inc _ _ _ ha hb) fun z => by
    rw [mem_or (merge_inc _ _ _ ha hb) (merge_inc _ _ _ ha hb), mem_and ha hb, mem_xor ha hb, mem_or ha hb]
    by_cases h1 : z ∈ a <;> by_cases h2 : z ∈ b <;> simp [h1, h2]
/-- The rest and both are the whole. -/
theorem law_whole {a b : List Int} (ha : Inc a) (hb : Inc b) : mergeS fOr (mergeS fNot a b) (mergeS fAnd a b) = a :=
  inc_ext (merge_inc _ _ _ (merge_inc _ _ _ ha hb) (merge_inc _ _ _ ha hb)) ha fun z => by
    rw [mem_or (merge_inc _ _ _ ha hb) (merge_inc _ _ _ ha hb), mem_and ha hb, mem_not ha hb]
    by_cases h1 : z ∈ a <;> by_cases h2 : z ∈ b <;> simp [h1, h2]
theorem law_none {a b : List Int} (ha : Inc a) (hb : Inc b) : mergeS fAnd (mergeS fNot a b) b = [] :=
  inc_ext (merge_inc _ _ _ (merge_inc _ _ _ ha hb) hb) inc_nil fun z => by
    rw [mem_and (merge_inc _ _ _ ha hb) hb, mem_not ha hb]
    by_cases h2 : z ∈ b <;> simp [h2]
theorem law_back {a b : List Int} (ha : Inc a) (hb : Inc b) : mergeS fXor (mergeS fXor a b) b = a :=
  inc_ext (merge_inc _ _ _ (merge_inc _ _ _ ha hb) hb) ha fun z => by
    rw [mem_xor (merge_inc _ _ _ ha hb) hb, mem_xor ha hb]
    by_cases h1 : z ∈ a <;> by_cases h2 : z ∈ b <;> simp [h1, h2]
theorem law_len (a b : List Int) : (mergeS fAnd a b).length + (mergeS fOr a b).length = a.length + b.length := by
  fun_induction mergeS fAnd a b with
  | case1 => simp [mergeS]
  | case2 x a ih => rw [mergeS]; simp [fAnd, fOr] at *; omega
  | case3 y b ih => rw [mergeS]; simp [fAnd, fOr] at *; omega
  | case4 x a y b h ih => rw [mergeS, if_pos h]; simp [fAnd, fOr] at *; omega
  | case5 x a y b h h' ih => rw [mergeS, if_neg h, if_pos h']; simp [fAnd, fOr] at *; omega
  | case6 x a y b h h' ih => rw [mergeS, if_neg h, if_neg h']; simp [fAnd, fOr] at *; omega

theorem sub_not {a b : List Int} (ha : Inc a) (hb : Inc b) : (mergeS fNot a b).length = 0 ↔ ∀ z ∈ a, z ∈ b := by
  rw [List.length_eq_zero_iff, List.eq_nil_iff_forall_not_mem]
  constructor
  · intro h z hz
    have := h z
    rw [mem_not ha hb] at this
    exact Classical.byContradiction fun h' => this ⟨hz, h'⟩
  · intro h z hz
    rw [mem_not ha hb] at hz
    exact hz.2 (h z hz.1)
theorem sub_and {a b : List Int} (ha : Inc a) (hb : Inc b) : mergeS fAnd a b = a ↔ ∀ z ∈ a, z ∈ b := by
  constructor
  · intro h z hz
    rw [← h, mem_and ha hb] at hz; exact hz.2
  · intro h
    exact inc_ext (merge_inc _ _ _ ha hb) ha fun z => by rw [mem_and ha hb]; exact ⟨And.left, fun hz => ⟨hz, h z hz⟩⟩
theorem sub_or {a b : List Int} (ha : Inc a) (hb : Inc b) : mergeS fOr a b = b ↔ ∀ z ∈ a, z ∈ b := by
  constructor
  · intro h z hz
    rw [← h, mem_or ha hb]; exact .inl hz
  · intro h
    exact inc_ext (merge_inc _ _ _ ha hb) hb fun z => by rw [mem_or ha hb]; exact ⟨fun hz => hz.elim (h z) id, .inr⟩

/-! ### A number looked for -/
def bsGo (xs : List Int) (x : Int) (i j : Nat) : Nat :=
  if i < j then (if xs.getD ((i + j) / 2) 0 < x then bsGo xs x ((i + j) / 2 + 1) j else bsGo xs x i ((i + j) / 2)) else i
termination_by j - i
def bsS (xs : List Int) (x : Int) : Nat := bsGo xs x 0 xs.length
def lowS (xs : List Int) (x : Int) : Nat := (xs.filter (fun y => decide (y < x))).length

theorem bsGo_le (xs : List Int) (x : Int) (i j : Nat) : i ≤ j → i ≤ bsGo xs x i j ∧ bsGo xs x i j ≤ j := by
  fun_induction bsGo xs x i j with
  | case1 i j h h' ih => intro _; have := ih (by omega); omega
  | case2 i j h h' ih => intro _; have := ih (by omega); omega
  | case3 i j h => intro _; omega
theorem bsS_le (xs : List Int) (x : Int) : bsS xs x ≤ xs.length := (bsGo_le xs x 0 xs.length (Nat.zero_le _)).2

theorem bsGo_spec (xs : List Int) (x : Int) (hs : Inc xs) (i j : Nat) : i ≤ j → j ≤ xs.length → (∀ k, k < i → xs.getD k 0 < x) → (∀ k, j ≤ k → k < xs.length → x ≤ xs.getD k 0) →
    (∀ k, k < bsGo xs x i j → xs.getD k 0 < x) ∧ (∀ k, bsGo xs x i j ≤ k → k < xs.length → x ≤ xs.getD k 0) := by
  fun_induction bsGo xs x i j with
  | case1 i j h h' ih =>
    intro h1 h2 h3 h4
    refine ih (by omega) h2 (fun k hk => ?_) h4
    rcases Nat.lt_or_ge k ((i + j) / 2) with h5 | h5
    · exact Int.lt_trans (hs.at h5 (by omega)) h'
    · obtain rfl : k = (i + j) / 2 := by omega
      exact h'
  | case2 i j h h' ih =>
    intro h1 h2 h3 h4
    refine ih (by omega) (by omega) h3 (fun k hk hk' => ?_)
    rcases Nat.lt_or_ge ((i + j) / 2) k with h5 | h5
    · have := hs.at h5 hk'; omega
    · obtain rfl : k = (i + j) / 2 := by omega
      omega
  | case3 i j h => intro h1 h2 h3 h4; exact ⟨h3, fun k hk hk' => h4 k (by omega) hk'⟩
theorem bsS_spec {xs : List Int} (x : Int) (hs : Inc xs) : (∀ k, k < bsS xs x → xs.getD k 0 < x) ∧ (∀ k, bsS xs x ≤ k → k < xs.length → x ≤ xs.getD k 0) :=
  bsGo_spec xs x hs 0 xs.length (Nat.zero_le _) (Nat.le_refl _) (fun k hk => by omega) (fun k hk hk' => by omega)

/-- Whether it is there. -/
def foundS (xs : List Int) (x : Int) : Bool := decide (bsS xs x < xs.length ∧ xs.getD (bsS xs x) 0 = x)
theorem found_iff {xs : List Int} (x : Int) (hs : Inc xs) : foundS xs x = decide (x ∈ xs) := by
  obtain ⟨h1, h2⟩ := bsS_spec x hs
  unfold foundS
  rw [decide_eq_decide]
  constructor
  · rintro ⟨h3, h4⟩
    rw [getD_eq h3] at h4
    exact h4 ▸ List.getElem_mem h3
  · intro hm
    obtain ⟨k, hk, he⟩ := List.getElem_of_mem hm
    have hge : ¬ k < bsS xs x := fun h => by have := h1 k h; rw [getD_eq hk] at this; omega
    have hlt : bsS xs x < xs.length := by omega
    refine ⟨hlt, ?_⟩
    have h3 := h2 (bsS xs x) (Nat.le_refl _) hlt
    rcases Nat.lt_or_ge (bsS xs x) k with h4 | h4
    · have := hs.at h4 hk; rw [getD_eq hk] at this; omega
    · obtain rfl : k = bsS xs x := by omega
      rw [getD_eq hk]; exact he

/-! ### Runs -/
/-- Does a run begin at place i? -/
def runAt (xs : List Int) (i : Nat) : Bool := decide (i = 0 ∨ xs.getD i 0 ≠ (xs.getD (i - 1) 0 + 1) % 65536)
/-- How many runs begin ahead of place k. -/
def runsTo (xs : List Int) (k : Nat) : Nat := ((List.range k).filter (runAt xs)).length
def runsS (xs : List Int) : Nat := runsTo xs xs.length
theorem runsTo_succ (xs : List Int) (k : Nat) : runsTo xs (k + 1) = runsTo xs k + if runAt xs k then 1 else 0 := by
  unfold runsTo
  rw [List.range_succ, List.filter_append, List.length_append]
  cases h : runAt xs k <;> simp [h]
theorem runsTo_le (xs : List Int) (k : Nat) : runsTo xs k ≤ k := by
  unfold runsTo
  have := List.length_filter_le (runAt xs) (List.range k)
  simpa using this
end Go.ArrP
