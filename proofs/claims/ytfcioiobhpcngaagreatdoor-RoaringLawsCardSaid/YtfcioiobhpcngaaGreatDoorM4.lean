import Init
import Derived.Laws.Tables
import Derived.Lib.TrailingZeros
import Derived.Test.YtfcioiobhpcngaaGreatDoorM3
section
namespace Go.ArrP
def Inc (xs : List Int) : Prop := xs.Pairwise (· < ·)
instance (xs : List Int) : Decidable (Inc xs) := inferInstanceAs (Decidable (xs.Pairwise (· < ·)))
theorem getD_eq {xs : List Int} {i : Nat} (h : i < xs.length) : xs.getD i 0 = xs[i] := by simp [List.getD, h]
theorem mem_getD {xs : List Int} {i : Nat} (h : i < xs.length) : xs.getD i 0 ∈ xs := by rw [getD_eq h]; exact List.getElem_mem h
theorem inc_of {xs : List Int} (h : ∀ i, 1 ≤ i → i < xs.length → xs.getD (i - 1) 0 < xs.getD i 0) : Inc xs := by
  unfold Inc
  rw [List.pairwise_iff_getElem]
  intro i j hi hj hij
  induction j with
  | zero => omega
  | succ j ih =>
    have h1 := h (j + 1) (by omega) hj
    rw [getD_eq hj, show j + 1 - 1 = j from rfl, getD_eq (by omega)] at h1
    rcases Nat.lt_or_ge i j with h2 | h2
    · exact Int.lt_trans (ih (by omega) h2) h1
    · obtain rfl : i = j := by omega
      exact h1
theorem Inc.at {xs : List Int} (h : Inc xs) {i j : Nat} (hij : i < j) (hj : j < xs.length) : xs.getD i 0 < xs.getD j 0 := by
  rw [getD_eq hj, getD_eq (by omega)]
  exact (List.pairwise_iff_getElem.1 h) i j (by omega) hj hij
theorem inc_nil : Inc [] := List.Pairwise.nil
theorem inc_cons {x : Int} {xs : List Int} : Inc (x :: xs) ↔ (∀ y ∈ xs, x < y) ∧ Inc xs := List.pairwise_cons
theorem inc_ext : ∀ {xs ys : List Int}, Inc xs → Inc ys → (∀ x, x ∈ xs ↔ x ∈ ys) → xs = ys
  | [], [], _, _, _ => rfl
  | [], y :: ys, _, _, h => by have := (h y).2 (by simp); cases this
  | x :: xs, [], _, _, h => by have := (h x).1 (by simp); cases this
  | x :: xs, y :: ys, hx, hy, h => by
    obtain ⟨hx1, hx2⟩ := inc_cons.1 hx
    obtain ⟨hy1, hy2⟩ := inc_cons.1 hy
    have e : x = y := by
      have h1 := (h x).1 (by simp)
      have h2 := (h y).2 (by simp)
      simp only [List.mem_cons] at h1 h2
      rcases h1 with h1 | h1
      · exact h1
      · rcases h2 with h2 | h2
        · exact h2.symm
        · have := hy1 x h1; have := hx1 y h2; omega
    subst e
    congr 1
    refine inc_ext hx2 hy2 fun z => ⟨fun hz => ?_, fun hz => ?_⟩
    · have := (h z).1 (by simp [hz])
      simp only [List.mem_cons] at this
      rcases this with rfl | h'
      · have := hx1 z hz; omega
      · exact h'
    · have := (h z).2 (by simp [hz])
      simp only [List.mem_cons] at this
      rcases this with rfl | h'
      · have := hy1 z hz; omega
      · exact h'
def mergeS (f : Bool → Bool → Bool) : List Int → List Int → List Int
  | [], [] => []
  | x :: a, [] => (if f true false then [x] else []) ++ mergeS f a []
  | [], y :: b => (if f false true then [y] else []) ++ mergeS f [] b
  | x :: a, y :: b =>
    if x < y then (if f true false then [x] else []) ++ mergeS f a (y :: b)
    else if y < x then (if f false true then [y] else []) ++ mergeS f (x :: a) b
    else (if f true true then [y] else []) ++ mergeS f a b
termination_by a b => a.length + b.length
theorem mem_if {p : Bool} {x z : Int} : z ∈ (if p then [x] else []) ↔ p = true ∧ z = x := by
  cases p <;> simp
theorem merge_sub (f : Bool → Bool → Bool) (a b : List Int) : ∀ z ∈ mergeS f a b, z ∈ a ∨ z ∈ b := by
  fun_induction mergeS f a b with
  | case1 => intro z hz; cases hz
  | case2 x a ih => intro z hz; rw [List.mem_append, mem_if] at hz; rcases hz with ⟨_, rfl⟩ | hz; · simp
                    · rcases ih z hz with h | h <;> simp_all
  | case3 y b ih => intro z hz; rw [List.mem_append, mem_if] at hz; rcases hz with ⟨_, rfl⟩ | hz; · simp
                    · rcases ih z hz with h | h <;> simp_all
  | case4 x a y b h ih => intro z hz; rw [List.mem_append, mem_if] at hz; rcases hz with ⟨_, rfl⟩ | hz; · simp
                          · rcases ih z hz with h | h <;> simp_all
  | case5 x a y b h h' ih => intro z hz; rw [List.mem_append, mem_if] at hz; rcases hz with ⟨_, rfl⟩ | hz; · simp
                             · rcases ih z hz with h | h <;> simp_all
  | case6 x a y b h h' ih => intro z hz; rw [List.mem_append, mem_if] at hz; rcases hz with ⟨_, rfl⟩ | hz; · simp
                             · rcases ih z hz with h | h <;> simp_all
theorem merge_mem (f : Bool → Bool → Bool) (hf : f false false = false) (a b : List Int) : Inc a → Inc b → ∀ z, z ∈ mergeS f a b ↔ f (decide (z ∈ a)) (decide (z ∈ b)) = true := by
  fun_induction mergeS f a b with
  | case1 => intro _ _ z; simp [hf]
  | case2 x a ih =>
    intro ha hb z
    obtain ⟨h1, h2⟩ := inc_cons.1 ha
    rw [List.mem_append, mem_if, ih h2 hb]
    by_cases e : z = x
    · subst e
      have : z ∉ a := fun h => by have := h1 z h; omega
      simp [this, hf]
    · simp [e]
  | case3 y b ih =>
    intro ha hb z
    obtain ⟨h1, h2⟩ := inc_cons.1 hb
    rw [List.mem_append, mem_if, ih ha h2]
    by_cases e : z = y
    · subst e
      have : z ∉ b := fun h => by have := h1 z h; omega
      simp [this, hf]
    · simp [e]
  | case4 x a y b h ih =>
    intro ha hb z
    obtain ⟨h1, h2⟩ := inc_cons.1 ha
    obtain ⟨h3, h4⟩ := inc_cons.1 hb
    rw [List.mem_append, mem_if, ih h2 hb]
    by_cases e : z = x
    · subst e
      have n1 : z ∉ a := fun h => by have := h1 z h; omega
      have n2 : z ∉ y :: b := fun h' => by
        simp only [List.mem_cons] at h'
        rcases h' with h' | h'
        · omega
        · have := h3 z h'; omega
      simp only [n1, n2, List.mem_cons, true_or, decide_true, decide_false, hf]; simp
    · simp [e]
  | case5 x a y b h h' ih =>
    intro ha hb z
    obtain ⟨h1, h2⟩ := inc_cons.1 ha
    obtain ⟨h3, h4⟩ := inc_cons.1 hb
    rw [List.mem_append, mem_if, ih ha h4]
    by_cases e : z = y
    · subst e
      have n1 : z ∉ b := fun h => by have := h3 z h; omega
      have n2 : z ∉ x :: a := fun h' => by
        simp only [List.mem_cons] at h'
        rcases h' with h' | h'
        · omega
        · have := h1 z h'; omega
      simp only [n1, n2, List.mem_cons, true_or, decide_true, decide_false, hf]; simp
    · simp [e]
  | case6 x a y b h h' ih =>
    intro ha hb z
    obtain ⟨h1, h2⟩ := inc_cons.1 ha
    obtain ⟨h3, h4⟩ := inc_cons.1 hb
    obtain rfl : x = y := by omega
    rw [List.mem_append, mem_if, ih h2 h4]
    by_cases e : z = x
    · subst e
      have n1 : z ∉ a := fun h => by have := h1 z h; omega
      have n2 : z ∉ b := fun h => by have := h3 z h; omega
      simp [n1, n2, hf]
    · simp [e]
theorem inc_if_append {p : Bool} {x : Int} {l : List Int} (h : Inc l) (hx : ∀ z ∈ l, x < z) : Inc ((if p then [x] else []) ++ l) := by
  cases p
  · simpa using h
  · exact inc_cons.2 ⟨hx, h⟩
theorem merge_inc (f : Bool → Bool → Bool) (a b : List Int) : Inc a → Inc b → Inc (mergeS f a b) := by
  fun_induction mergeS f a b with
  | case1 => intro _ _; exact inc_nil
  | case2 x a ih =>
    intro ha hb
    obtain ⟨h1, h2⟩ := inc_cons.1 ha
    exact inc_if_append (ih h2 hb) fun z hz => by rcases merge_sub f _ _ z hz with h | h; · exact h1 z h
                                                  · cases h
  | case3 y b ih =>
    intro ha hb
    obtain ⟨h1, h2⟩ := inc_cons.1 hb
    exact inc_if_append (ih ha h2) fun z hz => by rcases merge_sub f _ _ z hz with h | h; · cases h
                                                  · exact h1 z h
  | case4 x a y b h ih =>
    intro ha hb
    obtain ⟨h1, h2⟩ := inc_cons.1 ha
    obtain ⟨h3, h4⟩ := inc_cons.1 hb
    exact inc_if_append (ih h2 hb) fun z hz => by
      rcases merge_sub f _ _ z hz with h' | h'
      · exact h1 z h'
      · simp only [List.mem_cons] at h'
        rcases h' with rfl | h'
        · exact h
        · have := h3 z h'; omega
  | case5 x a y b h h' ih =>
    intro ha hb
    obtain ⟨h1, h2⟩ := inc_cons.1 ha
    obtain ⟨h3, h4⟩ := inc_cons.1 hb
    exact inc_if_append (ih ha h4) fun z hz => by
      rcases merge_sub f _ _ z hz with h'' | h''
      · simp only [List.mem_cons] at h''
        rcases h'' with rfl | h''
        · exact h'
        · have := h1 z h''; omega
      · exact h3 z h''
  | case6 x a y b h h' ih =>
    intro ha hb
    obtain ⟨h1, h2⟩ := inc_cons.1 ha
    obtain ⟨h3, h4⟩ := inc_cons.1 hb
    obtain rfl : x = y := by omega
    exact inc_if_append (ih h2 h4) fun z hz => by
      rcases merge_sub f _ _ z hz with h'' | h''
      · exact h1 z h''
      · exact h3 z h''
theorem merge_A (f : Bool → Bool → Bool) {a b : List Int} (ha : 0 < a.length) (hb : b.length = 0) : mergeS f a b = (if f true false then [a.getD 0 0] else []) ++ mergeS f (a.drop 1) b := by
  cases a with
  | nil => simp at ha
  | cons x a =>
    obtain rfl : b = [] := List.eq_nil_of_length_eq_zero hb
    simp [mergeS]
theorem merge_B (f : Bool → Bool → Bool) {a b : List Int} (ha : a.length = 0) (hb : 0 < b.length) : mergeS f a b = (if f false true then [b.getD 0 0] else []) ++ mergeS f a (b.drop 1) := by
  cases b with
  | nil => simp at hb
  | cons x b =>
    obtain rfl : a = [] := List.eq_nil_of_length_eq_zero ha
    simp [mergeS]
theorem merge_lt (f : Bool → Bool → Bool) {a b : List Int} (ha : 0 < a.length) (hb : 0 < b.length) (h : a.getD 0 0 < b.getD 0 0) : mergeS f a b = (if f true false then [a.getD 0 0] else []) ++ mergeS f (a.drop 1) b := by
  cases a with
  | nil => simp at ha
  | cons x a =>
    cases b with
    | nil => simp at hb
    | cons y b =>
      simp only [List.getD_cons_zero] at h
      simp [mergeS, h]
theorem merge_gt (f : Bool → Bool → Bool) {a b : List Int} (ha : 0 < a.length) (hb : 0 < b.length) (h : b.getD 0 0 < a.getD 0 0) : mergeS f a b = (if f false true then [b.getD 0 0] else []) ++ mergeS f a (b.drop 1) := by
  cases a with
  | nil => simp at ha
  | cons x a =>
    cases b with
    | nil => simp at hb
    | cons y b =>
      simp only [List.getD_cons_zero] at h
      have h' : ¬ x < y := by omega
      simp [mergeS, h, h']
theorem merge_eq (f : Bool → Bool → Bool) {a b : List Int} (ha : 0 < a.length) (hb : 0 < b.length) (h : a.getD 0 0 = b.getD 0 0) : mergeS f a b = (if f true true then [b.getD 0 0] else []) ++ mergeS f (a.drop 1) (b.drop 1) := by
  cases a with
  | nil => simp at ha
  | cons x a =>
    cases b with
    | nil => simp at hb
    | cons y b =>
      simp only [List.getD_cons_zero] at h
      subst h
      have h' : ¬ x < x := by omega
      simp [mergeS]
def fAnd (a b : Bool) : Bool := a && b
def fOr (_ _ : Bool) : Bool := true
def fNot (_ b : Bool) : Bool := !b
def fXor (a b : Bool) : Bool := !(a == b)
def fOr' (a b : Bool) : Bool := a || b
theorem merge_congr (f g : Bool → Bool → Bool) (h1 : f true false = g true false) (h2 : f false true = g false true) (h3 : f true true = g true true) (a b : List Int) : mergeS f a b = mergeS g a b := by
  fun_induction mergeS f a b with
  | case1 => simp [mergeS]
  | case2 x a ih => rw [mergeS, ih, h1]
  | case3 y b ih => rw [mergeS, ih, h2]
  | case4 x a y b h ih => rw [mergeS, if_pos h, ih, h1]
  | case5 x a y b h h' ih => rw [mergeS, if_neg h, if_pos h', ih, h2]
  | case6 x a y b h h' ih => rw [mergeS, if_neg h, if_neg h', ih, h3]
theorem merge_or (a b : List Int) : mergeS fOr a b = mergeS fOr' a b := merge_congr fOr fOr' rfl rfl rfl a b
section
variable {a b : List Int} (ha : Inc a) (hb : Inc b)
include ha hb
theorem mem_and (z : Int) : z ∈ mergeS fAnd a b ↔ z ∈ a ∧ z ∈ b := by rw [merge_mem fAnd rfl a b ha hb]; simp [fAnd]
theorem mem_or (z : Int) : z ∈ mergeS fOr a b ↔ z ∈ a ∨ z ∈ b := by rw [merge_or, merge_mem fOr' rfl a b ha hb]; simp [fOr']
theorem mem_xor (z : Int) : z ∈ mergeS fXor a b ↔ ¬ (z ∈ a ↔ z ∈ b) := by rw [merge_mem fXor rfl a b ha hb]; simp [fXor]
end
def fNot' (a b : Bool) : Bool := a && !b
theorem merge_not (f : Bool → Bool → Bool) (hf : f = fNot) (a b : List Int) : mergeS f a b = mergeS fNot' a b := by subst hf; exact merge_congr fNot fNot' rfl rfl rfl a b
theorem mem_not {a b : List Int} (ha : Inc a) (hb : Inc b) (z : Int) : z ∈ mergeS fNot a b ↔ z ∈ a ∧ ¬ z ∈ b := by
  rw [merge_not fNot rfl, merge_mem fNot' rfl a b ha hb]; simp [fNot']
def bsGo (xs : List Int) (x : Int) (i j : Nat) : Nat :=
  if i < j then (if xs.getD ((i + j) / 2) 0 < x then bsGo xs x ((i + j) / 2 + 1) j else bsGo xs x i ((i + j) / 2)) else i
termination_by j - i
def bsS (xs : List Int) (x : Int) : Nat := bsGo xs x 0 xs.length
theorem bsGo_le (xs : List Int) (x : Int) (i j : Nat) : i ≤ j → i ≤ bsGo xs x i j ∧ bsGo xs x i j ≤ j := by
  fun_induction bsGo xs x i j with
  | case1 i j h h' ih => intro _; have := ih (by omega); omega
  | case2 i j h h' ih => intro _; have := ih (by omega); omega
  | case3 i j h => intro _; omega
theorem bsS_le (xs : List Int) (x : Int) : bsS xs x ≤ xs.length := (bsGo_le xs x 0 xs.length (Nat.zero_le _)).2
theorem bsGo_spec (xs : List Int) (x : Int) (hs : Inc xs) (i j : Nat) : i ≤ j → j ≤ xs.length → (∀ k, k < i → xs.getD k 0 < x) → (∀ k, j ≤ k → k < xs.length → x ≤ xs.getD k 0) →
    (∀ k, k < bsGo xs x i j → xs.getD k 0 < x) ∧ (∀ k, bsGo xs x i j ≤ k → k < xs.length → x ≤ xs.getD k 0) := by
  fun_induction bsGo xs x i j with
  | case1 i j h h' ih =>
    intro h1 h2 h3 h4
    refine ih (by omega) h2 (fun k hk => ?_) h4
    rcases Nat.lt_or_ge k ((i + j) / 2) with h5 | h5
    · exact Int.lt_trans (hs.at h5 (by omega)) h'
    · obtain rfl : k = (i + j) / 2 := by omega
      exact h'
  | case2 i j h h' ih =>
    intro h1 h2 h3 h4
    refine ih (by omega) (by omega) h3 (fun k hk hk' => ?_)
    rcases Nat.lt_or_ge ((i + j) / 2) k with h5 | h5
    · have := hs.at h5 hk'; omega
    · obtain rfl : k = (i + j) / 2 := by omega
      omega
  | case3 i j h => intro h1 h2 h3 h4; exact ⟨h3, fun k hk hk' => h4 k (by omega) hk'⟩
theorem bsS_spec {xs : List Int} (x : Int) (hs : Inc xs) : (∀ k, k < bsS xs x → xs.getD k 0 < x) ∧ (∀ k, bsS xs x ≤ k → k < xs.length → x ≤ xs.getD k 0) :=
  bsGo_spec xs x hs 0 xs.length (Nat.zero_le _) (Nat.le_refl _) (fun k hk => by omega) (fun k hk hk' => by omega)
def foundS (xs : List Int) (x : Int) : Bool := decide (bsS xs x < xs.length ∧ xs.getD (bsS xs x) 0 = x)
theorem found_iff {xs : List Int} (x : Int) (hs : Inc xs) : foundS xs x = decide (x ∈ xs) := by
  obtain ⟨h1, h2⟩ := bsS_spec x hs
  unfold foundS
  rw [decide_eq_decide]
  constructor
  · rintro ⟨h3, h4⟩
    rw [getD_eq h3] at h4
    exact h4 ▸ List.getElem_mem h3
  · intro hm
    obtain ⟨k, hk, he⟩ := List.getElem_of_mem hm
    have hge : ¬ k < bsS xs x := fun h => by have := h1 k h; rw [getD_eq hk] at this; omega
    have hlt : bsS xs x < xs.length := by omega
    refine ⟨hlt, ?_⟩
    have h3 := h2 (bsS xs x) (Nat.le_refl _) hlt
    rcases Nat.lt_or_ge (bsS xs x) k with h4 | h4
    · have := hs.at h4 hk; rw [getD_eq hk] at this; omega
    · obtain rfl : k = bsS xs x := by omega
      rw [getD_eq hk]; exact he
def runAt (xs : List Int) (i : Nat) : Bool := decide (i = 0 ∨ xs.getD i 0 ≠ (xs.getD (i - 1) 0 + 1) % 65536)
def runsTo (xs : List Int) (k : Nat) : Nat := ((List.range k).filter (runAt xs)).length
def runsS (xs : List Int) : Nat := runsTo xs xs.length
theorem runsTo_succ (xs : List Int) (k : Nat) : runsTo xs (k + 1) = runsTo xs k + if runAt xs k then 1 else 0 := by
  unfold runsTo
  rw [List.range_succ, List.filter_append, List.length_append]
  cases h : runAt xs k <;> simp [h]
theorem runsTo_le (xs : List Int) (k : Nat) : runsTo xs k ≤ k := by
  unfold runsTo
  have := List.length_filter_le (runAt xs) (List.range k)
  simpa using this
end Go.ArrP
end
section
set_option linter.unusedSimpArgs false
set_option linter.unusedVariables false
namespace Go.LA
open Go.RowKit Go.ArrP
def cnt (p : Nat → Bool) : Nat → Nat
  | 0 => 0
  | n + 1 => cnt p n + if p n then 1 else 0
def listS (p : Nat → Bool) : Nat → List Int
  | 0 => []
  | n + 1 => listS p n ++ if p n then [(n : Int)] else []
theorem cnt_le (p : Nat → Bool) : ∀ n, cnt p n ≤ n
  | 0 => Nat.le_refl _
  | n + 1 => by have := cnt_le p n; simp only [cnt]; split <;> omega
theorem cnt_mono (p : Nat → Bool) {m : Nat} : ∀ n, m ≤ n → cnt p m ≤ cnt p n
  | 0, h => by obtain rfl : m = 0 := by omega
               exact Nat.le_refl _
  | n + 1, h => by
    rcases Nat.lt_or_ge n m with h1 | h1
    · obtain rfl : m = n + 1 := by omega
      exact Nat.le_refl _
    · have := cnt_mono p n h1; simp only [cnt]; omega
theorem listS_len (p : Nat → Bool) : ∀ n, (listS p n).length = cnt p n
  | 0 => rfl
  | n + 1 => by simp only [listS, cnt, List.length_append, listS_len p n]; split <;> rfl
theorem listS_mem (p : Nat → Bool) (z : Int) : ∀ n, z ∈ listS p n ↔ ∃ i : Nat, i < n ∧ p i = true ∧ z = i
  | 0 => by simp [listS]
  | n + 1 => by
    simp only [listS, List.mem_append, listS_mem p z n]
    constructor
    · rintro (⟨i, h1, h2, h3⟩ | h)
      · exact ⟨i, by omega, h2, h3⟩
      · split at h
        · rename_i hp; simp at h; exact ⟨n, by omega, hp, h⟩
        · simp at h
    · rintro ⟨i, h1, h2, h3⟩
      by_cases e : i = n
      · subst e; right; simp [h2, h3]
      · left; exact ⟨i, by omega, h2, h3⟩
theorem listS_inc (p : Nat → Bool) : ∀ n, Inc (listS p n)
  | 0 => inc_nil
  | n + 1 => by
    have ih := listS_inc p n
    simp only [listS]
    split
    · refine List.pairwise_append.2 ⟨ih, List.pairwise_singleton _ _, fun a ha b hb => ?_⟩
      obtain ⟨i, h1, h2, h3⟩ := (listS_mem p a n).1 ha
      simp at hb; omega
    · simpa using ih
theorem cnt_congr {p q : Nat → Bool} : ∀ n, (∀ i, i < n → p i = q i) → cnt p n = cnt q n
  | 0, _ => rfl
  | n + 1, h => by simp only [cnt, cnt_congr n (fun i hi => h i (by omega)), h n (by omega)]
theorem listS_congr {p q : Nat → Bool} : ∀ n, (∀ i, i < n → p i = q i) → listS p n = listS q n
  | 0, _ => rfl
  | n + 1, h => by simp only [listS, listS_congr n (fun i hi => h i (by omega)), h n (by omega)]
theorem cnt_zero {p : Nat → Bool} : ∀ n, (∀ i, i < n → p i = false) → cnt p n = 0
  | 0, _ => rfl
  | n + 1, h => by simp [cnt, cnt_zero n (fun i hi => h i (by omega)), h n (by omega)]
def memb (xs : List Int) (i : Nat) : Bool := decide ((i : Int) ∈ xs)
def Low (xs : List Int) : Prop := ∀ x ∈ xs, 0 ≤ x ∧ x < 65536
theorem listS_memb {xs : List Int} (h : Inc xs) (hl : Low xs) : listS (memb xs) 65536 = xs := by
  refine inc_ext (listS_inc _ _) h fun z => ?_
  rw [listS_mem]
  constructor
  · rintro ⟨i, h1, h2, rfl⟩; simpa [memb] using h2
  · intro hz
    have := hl z hz
    exact ⟨z.toNat, by omega, by simp only [memb]; rw [show ((z.toNat : Nat) : Int) = z by omega]; simpa using hz, by omega⟩
theorem memb_listS (p : Nat → Bool) {i : Nat} (hi : i < 65536) : memb (listS p 65536) i = p i := by
  simp only [memb]
  rw [Bool.eq_iff_iff, decide_eq_true_eq, listS_mem]
  constructor
  · rintro ⟨j, h1, h2, h3⟩
    obtain rfl : i = j := by omega
    exact h2
  · exact fun h => ⟨i, hi, h, rfl⟩
theorem listS_low (p : Nat → Bool) : Low (listS p 65536) := fun x hx => by
  obtain ⟨i, h1, _, h3⟩ := (listS_mem p x _).1 hx
  omega
def startsS (p : Nat → Bool) (i : Nat) : Bool := p i && (i == 0 || !p (i - 1))
theorem listS_at (p : Nat → Bool) : ∀ (n i : Nat), i < n → p i = true → (listS p n).getD (cnt p i) 0 = i
  | 0, i, h, _ => by omega
  | n + 1, i, h, hp => by
    simp only [listS]
    rcases Nat.lt_or_ge i n with h1 | h1
    · have ih := listS_at p n i h1 hp
      have hlt : cnt p i < (listS p n).length := by
        rw [listS_len]
        have := cnt_mono p (m := i + 1) n (by omega)
        simp only [cnt, hp, if_true] at this; omega
      rw [List.getD, List.getElem?_append_left hlt]; exact ih
    · obtain rfl : i = n := by omega
      rw [List.getD, List.getElem?_append_right (by rw [listS_len]; exact Nat.le_refl _), listS_len, hp]; simp
theorem listS_get (p : Nat → Bool) : ∀ (n k : Nat), k < cnt p n → ∃ i : Nat, i < n ∧ p i = true ∧ cnt p i = k ∧ (listS p n).getD k 0 = i
  | 0, k, h => by simp [cnt] at h
  | n + 1, k, h => by
    by_cases h1 : k < cnt p n
    · obtain ⟨i, h2, h3, h4, h5⟩ := listS_get p n k h1
      exact ⟨i, by omega, h3, h4, by rw [← h4]; exact listS_at p (n + 1) i (by omega) h3⟩
    · cases hp : p n
      · simp [cnt, hp] at h; omega
      · simp only [cnt, hp, if_true] at h
        have : cnt p n = k := by omega
        exact ⟨n, by omega, hp, this, by rw [← this]; exact listS_at p (n + 1) n (by omega) hp⟩
theorem bsS_uniq {xs : List Int} (x : Int) (h : Inc xs) {i : Nat} (hi : i ≤ xs.length) (h1 : ∀ k, k < i → xs.getD k 0 < x) (h2 : ∀ k, i ≤ k → k < xs.length → x ≤ xs.getD k 0) : bsS xs x = i := by
  obtain ⟨g1, g2⟩ := bsS_spec x h
  have g3 := bsS_le xs x
  rcases Nat.lt_trichotomy (bsS xs x) i with h3 | h3 | h3
  · have a := h1 (bsS xs x) h3; have b := g2 (bsS xs x) (Nat.le_refl _) (by omega); omega
  · exact h3
  · have a := g1 i h3; have b := h2 i (Nat.le_refl _) (by omega); omega
theorem getD_listS (p : Nat → Bool) {n k : Nat} (h : k < cnt p n) : ∃ i : Nat, i < n ∧ p i = true ∧ cnt p i = k ∧ (listS p n).getD k 0 = i := listS_get p n k h
theorem bsS_listS (p : Nat → Bool) (x : Nat) (hx : x ≤ 65536) : bsS (listS p 65536) x = cnt p x := by
  refine bsS_uniq x (listS_inc _ _) (by rw [listS_len]; exact cnt_mono p _ hx) (fun k hk => ?_) (fun k h1 h2 => ?_)
  · obtain ⟨i, g1, g2, g3, g4⟩ := listS_get p 65536 k (Nat.lt_of_lt_of_le hk (cnt_mono p _ hx))
    rw [g4]
    rcases Nat.lt_or_ge i x with h | h
    · omega
    · have := cnt_mono p (m := x) i h; omega
  · rw [listS_len] at h2
    obtain ⟨i, g1, g2, g3, g4⟩ := listS_get p 65536 k h2
    rw [g4]
    rcases Nat.lt_or_ge i x with h | h
    · have := cnt_mono p (m := i + 1) x h
      simp only [cnt, g2, if_true] at this; omega
    · omega
def marks (p : Nat → Bool) : Array Value := ((List.range 65536).map (fun i => Value.bool (p i))).toArray
def MkI (base e : Nat) (w : World) (v : Value) (p : Nat → Bool) : Prop := ∃ b, v = .pointer (some ⟨b, 0, none⟩) ∧ base ≤ b ∧ w.heap[b]? = some (.cells (marks p) e (0, 0))
theorem MkI.ext {base e : Nat} {w w' : World} {v : Value} {p : Nat → Bool} (h : MkI base e w v p) (x : Ext w w') : MkI base e w' v p := by
  obtain ⟨b, h1, h2, h3⟩ := h
  exact ⟨b, h1, h2, x.block h3⟩
theorem MkI.base {base base' e : Nat} {w : World} {v : Value} {p : Nat → Bool} (h : MkI base e w v p) (hb : base' ≤ base) : MkI base' e w v p := by
  obtain ⟨b, h1, h2, h3⟩ := h
  exact ⟨b, h1, Nat.le_trans hb h2, h3⟩
structure Fr (R : Nat → Prop) (w w' : World) : Prop where
  os : w'.os = w.os
  tape : w'.tape = w.tape
  output : w'.output = w.output
  size : w.heap.size ≤ w'.heap.size
  block : ∀ k, k < w.heap.size → ¬ R k → w'.heap[k]? = w.heap[k]?
theorem Fr.of {R : Nat → Prop} {w w' : World} (e : Ext w w') : Fr R w w' := ⟨e.os, e.tape, e.output, e.size, fun k hk _ => Below.block e k hk⟩
theorem Fr.trans {R : Nat → Prop} {w w' w'' : World} (h : Fr R w w') (h' : Fr R w' w'') : Fr R w w'' :=
  ⟨h'.os.trans h.os, h'.tape.trans h.tape, h'.output.trans h.output, Nat.le_trans h.size h'.size, fun k hk hn => (h'.block k (Nat.lt_of_lt_of_le hk h.size) hn).trans (h.block k hk hn)⟩
theorem Fr.mono {R R' : Nat → Prop} {w w' : World} (h : Fr R w w') (hr : ∀ k, R k → R' k) : Fr R' w w' := ⟨h.os, h.tape, h.output, h.size, fun k hk hn => h.block k hk (fun h' => hn (hr k h'))⟩
theorem Fr.setRow {R : Nat → Prop} {w w' : World} (h : Fr R w w') {b : Nat} (hb : R b) (cs : Array Value) : Fr R w (w'.setRow b cs) :=
  ⟨h.os, h.tape, h.output, by simpa using h.size, fun k hk hn => (setRow_other w' b k cs (fun e => hn (e ▸ hb))).trans (h.block k hk hn)⟩
theorem Fr.ext {R : Nat → Prop} {w0 w w' : World} (e : Ext w0 w) (h : Fr R w w') (hr : ∀ k, R k → w0.heap.size ≤ k) : Ext w0 w' :=
  ⟨h.os.trans e.os, h.tape.trans e.tape, h.output.trans e.output, Nat.le_trans e.size h.size, fun k hk => (h.block k (Nat.lt_of_lt_of_le hk e.size) (fun h' => by have := hr k h'; omega)).trans (Below.block e k hk)⟩
theorem Fr.at {R : Nat → Prop} {w w' : World} (h : Fr R w w') {b : Nat} {o : Obj} (hb : w.heap[b]? = some o) (hn : ¬ R b) : w'.heap[b]? = some o :=
  (h.block b (Array.getElem?_eq_some_iff.1 hb).1 hn).trans hb
theorem Fr.own {R : Nat → Prop} {w w' : World} (h : Fr R w w') {base e s n : Nat} {v : Value} {cs : List Value} (ho : Own base e s w v n cs) (hn : ∀ k, v.ownBlock = some k → ¬ R k) : Own base e s w' v n cs := by
  refine ⟨ho.1, ?_⟩
  rcases ho.2 with h0 | ⟨g, cap, cur, rfl, hb, hg, r⟩
  · exact .inl h0
  · exact .inr ⟨g, cap, cur, rfl, hb, h.at hg (hn g rfl), r⟩
theorem row_at {k : IntKind} {cur : Array Value} {xs : List Int} (h : cur.toList.take xs.length = xs.map (Value.int k)) {i : Nat} (hi : i < xs.length) : cur[i]? = some (.int k (xs.getD i 0)) := by
  have h1 := congrArg (fun l => l[i]?) h
  simp only [List.getElem?_take, if_pos hi, List.getElem?_map, List.getElem?_eq_getElem hi, Option.map_some] at h1
  rw [← Array.getElem?_toList, h1]
  simp [List.getD, List.getElem?_eq_getElem hi]
end Go.LA
attribute [irreducible] Go.LA.marks
end
section
set_option linter.unusedSimpArgs false
set_option linter.unusedVariables false
namespace Go.LA
open Go.RowKit
theorem land_split (k a b c d : Nat) (ha : a < 2 ^ k) (hc : c < 2 ^ k) : (a + 2 ^ k * b) &&& (c + 2 ^ k * d) = (a &&& c) + 2 ^ k * (b &&& d) := by
  have hac : a &&& c < 2 ^ k := Nat.lt_of_le_of_lt Nat.and_le_left ha
  apply Nat.eq_of_testBit_eq
  intro i
  rw [Nat.testBit_and, Nat.add_comm a, Nat.add_comm c, Nat.add_comm (a &&& c), Nat.testBit_two_pow_mul_add _ ha, Nat.testBit_two_pow_mul_add _ hc, Nat.testBit_two_pow_mul_add _ hac]
  by_cases h : i < k
  · simp [h, Nat.testBit_and]
  · simp [h, Nat.testBit_and]
theorem land_split8 (a b c d : Nat) (ha : a < 256) (hc : c < 256) : (a + 256 * b) &&& (c + 256 * d) = (a &&& c) + 256 * (b &&& d) := land_split 8 a b c d ha hc
def y1 (m x : Nat) : Nat := (x / 2 &&& m) + (x &&& m)
def y2 (m x : Nat) : Nat := (x / 4 &&& m) + (x &&& m)
def y3 (m x : Nat) : Nat := (x / 16 + x) &&& m
theorem y1_split (a b m : Nat) (ha : a < 256) : y1 (85 + 256 * m) (a + 256 * b) = y1 85 a + 256 * y1 m b := by
  have e : (a + 256 * b) / 2 = (a / 2 + 128 * (b % 2)) + 256 * (b / 2) := by omega
  have f : ∀ c, c < 128 → ∀ t, t < 2 → (c + 128 * t) &&& 85 = c &&& 85 := by decide +kernel
  unfold y1
  rw [e, land_split8 _ _ _ _ (by omega) (by omega), land_split8 _ _ _ _ ha (by omega), f _ (by omega) _ (by omega)]
  omega
theorem y2_split (a b m : Nat) (ha : a < 256) : y2 (51 + 256 * m) (a + 256 * b) = y2 51 a + 256 * y2 m b := by
  have e : (a + 256 * b) / 4 = (a / 4 + 64 * (b % 4)) + 256 * (b / 4) := by omega
  have f : ∀ c, c < 64 → ∀ t, t < 4 → (c + 64 * t) &&& 51 = c &&& 51 := by decide +kernel
  unfold y2
  rw [e, land_split8 _ _ _ _ (by omega) (by omega), land_split8 _ _ _ _ ha (by omega), f _ (by omega) _ (by omega)]
  omega
theorem y3_split (a b m : Nat) (ha : a ≤ 68) (hb : b % 16 ≤ 4) : y3 (15 + 256 * m) (a + 256 * b) = y3 15 a + 256 * y3 m b := by
  have e : (a + 256 * b) / 16 + (a + 256 * b) = (a / 16 + a + 16 * (b % 16)) + 256 * (b / 16 + b) := by omega
  have f : ∀ c, c ≤ 72 → ∀ t, t ≤ 4 → (c + 16 * t) &&& 15 = c &&& 15 := by decide +kernel
  unfold y3
  rw [e, land_split8 _ _ _ _ (by omega) (by omega), f _ (by omega) _ (by omega)]
def pop8 (a : Nat) : Nat := cnt (fun i => a.testBit i) 8
theorem bytes_pop : ∀ a, a < 256 → y1 85 a < 256 ∧ y2 51 (y1 85 a) ≤ 68 ∧ y2 51 (y1 85 a) % 16 ≤ 4 ∧ y3 15 (y2 51 (y1 85 a)) = pop8 a := by decide +kernel
def mk8 (c : Nat) : Nat → Nat
  | 0 => 0
  | n + 1 => c + 256 * mk8 c n
def popB : Nat → Nat → Nat
  | 0, _ => 0
  | n + 1, x => pop8 (x % 256) + 256 * popB n (x / 256)
theorem swar : ∀ n x, x < 256 ^ n → y3 (mk8 15 n) (y2 (mk8 51 n) (y1 (mk8 85 n) x)) = popB n x ∧ y2 (mk8 51 n) (y1 (mk8 85 n) x) % 16 ≤ 4
  | 0, x, h => by
    have : x = 0 := by simpa using h
    subst this; exact ⟨rfl, by decide⟩
  | n + 1, x, h => by
    have hx : x / 256 < 256 ^ n := by rw [Nat.pow_succ] at h; omega
    obtain ⟨h1, h2⟩ := swar n (x / 256) hx
    obtain ⟨g1, g2, g3, g4⟩ := bytes_pop (x % 256) (by omega)
    have ex : x = x % 256 + 256 * (x / 256) := by omega
    have s1 : y1 (mk8 85 (n + 1)) x = y1 85 (x % 256) + 256 * y1 (mk8 85 n) (x / 256) := by
      conv => lhs; rw [ex]
      exact y1_split _ _ _ (by omega)
    have s2 : y2 (mk8 51 (n + 1)) (y1 (mk8 85 (n + 1)) x) = y2 51 (y1 85 (x % 256)) + 256 * y2 (mk8 51 n) (y1 (mk8 85 n) (x / 256)) := by
      rw [s1]; exact y2_split _ _ _ g1
    rw [s2]
    refine ⟨?_, by omega⟩
    have s3 := y3_split (y2 51 (y1 85 (x % 256))) (y2 (mk8 51 n) (y1 (mk8 85 n) (x / 256))) (mk8 15 n) g2 h2
    simp only [popB]
    rw [← g4, ← h1]
    exact s3
theorem pop8_le (a : Nat) : pop8 a ≤ 8 := cnt_le _ _
theorem cnt_shift (p : Nat → Bool) (m : Nat) : ∀ n, cnt p (m + n) = cnt p m + cnt (fun i => p (m + i)) n
  | 0 => rfl
  | n + 1 => by rw [← Nat.add_assoc]; simp only [cnt, cnt_shift p m n]; omega
def pop64 (x : Nat) : Nat := cnt (fun i => x.testBit i) 64
theorem cnt_byte (x n : Nat) : cnt (fun i => x.testBit i) (8 + n) = pop8 (x % 256) + cnt (fun i => (x / 256).testBit i) n := by
  rw [cnt_shift]
  congr 1
  · refine cnt_congr 8 fun i hi => ?_
    rw [show (256 : Nat) = 2 ^ 8 by rfl, Nat.testBit_mod_two_pow]; simp [hi]
  · refine cnt_congr n fun i hi => ?_
    rw [show x / 256 = x >>> 8 by rw [Nat.shiftRight_eq_div_pow], Nat.testBit_shiftRight]
theorem pop_sum (x : Nat) : pop64 x = pop8 (x % 256) + (pop8 (x / 256 % 256) + (pop8 (x / 256 / 256 % 256) + (pop8 (x / 256 / 256 / 256 % 256) + (pop8 (x / 256 / 256 / 256 / 256 % 256) + (pop8 (x / 256 / 256 / 256 / 256 / 256 % 256) + (pop8 (x / 256 / 256 / 256 / 256 / 256 / 256 % 256) + pop8 (x / 256 / 256 / 256 / 256 / 256 / 256 / 256 % 256))))))) := by
  unfold pop64
  rw [show 64 = 8 + 56 by rfl, cnt_byte, show 56 = 8 + 48 by rfl, cnt_byte, show 48 = 8 + 40 by rfl, cnt_byte, show 40 = 8 + 32 by rfl, cnt_byte, show 32 = 8 + 24 by rfl, cnt_byte, show 24 = 8 + 16 by rfl, cnt_byte, show 16 = 8 + 8 by rfl, cnt_byte, show cnt (fun i => (x / 256 / 256 / 256 / 256 / 256 / 256 / 256).testBit i) 8 = cnt (fun i => (x / 256 / 256 / 256 / 256 / 256 / 256 / 256).testBit i) (8 + 0) by rfl, cnt_byte]
  rfl
theorem dv1 (a q : Nat) (h : a < 256) : (a + 256 * q) / 256 = q := by omega
theorem dv2 (a q : Nat) (h : a < 65536) : (a + 65536 * q) / 65536 = q := by omega
theorem dv3 (a q : Nat) (h : a < 4294967296) : (a + 4294967296 * q) / 4294967296 = q := by omega
theorem lt1 {p0 : Nat} (h0 : p0 ≤ 8) : p0 < 256 := by omega
theorem lt2 {p0 p1 p2 : Nat} (h0 : p0 ≤ 8) (h1 : p1 ≤ 8) (h2 : p2 ≤ 8) : (p0 + p1) + 256 * (p1 + p2) < 65536 := by omega
theorem lt3 {p0 p1 p2 p3 p4 p5 p6 : Nat} (h0 : p0 ≤ 8) (h1 : p1 ≤ 8) (h2 : p2 ≤ 8) (h3 : p3 ≤ 8) (h4 : p4 ≤ 8) (h5 : p5 ≤ 8) (h6 : p6 ≤ 8) : (p0 + p1 + p2 + p3) + 256 * (p1 + p2 + p3 + p4) + 65536 * (p2 + p3 + p4 + p5) + 16777216 * (p3 + p4 + p5 + p6) < 4294967296 := by omega
theorem fin8 (p0 p1 p2 p3 p4 p5 p6 p7 q1 q2 q3 q4 q5 q6 z : Nat) (h0 : p0 ≤ 8) (h1 : p1 ≤ 8) (h2 : p2 ≤ 8) (h3 : p3 ≤ 8) (h4 : p4 ≤ 8) (h5 : p5 ≤ 8) (h6 : p6 ≤ 8) (h7 : p7 ≤ 8)
    (e6 : q6 = p6 + 256 * p7) (e5 : q5 = p5 + 256 * q6) (e4 : q4 = p4 + 256 * q5) (e3 : q3 = p3 + 256 * q4) (e2 : q2 = p2 + 256 * q3) (e1 : q1 = p1 + 256 * q2) (ez : z = p0 + 256 * q1) : (z + q1 + (q2 + q3) + (q4 + q5 + q6 + p7)) % 128 = p0 + (p1 + (p2 + (p3 + (p4 + (p5 + (p6 + p7)))))) := by omega
theorem bnd8 (p0 p1 p2 p3 p4 p5 p6 p7 q1 q2 q3 q4 q5 q6 z : Nat) (h0 : p0 ≤ 8) (h1 : p1 ≤ 8) (h2 : p2 ≤ 8) (h3 : p3 ≤ 8) (h4 : p4 ≤ 8) (h5 : p5 ≤ 8) (h6 : p6 ≤ 8) (h7 : p7 ≤ 8)
    (e6 : q6 = p6 + 256 * p7) (e5 : q5 = p5 + 256 * q6) (e4 : q4 = p4 + 256 * q5) (e3 : q3 = p3 + 256 * q4) (e2 : q2 = p2 + 256 * q3) (e1 : q1 = p1 + 256 * q2) (ez : z = p0 + 256 * q1) : q6 ≤ 2056 ∧ q5 ≤ 526344 ∧ q4 ≤ 134744072 ∧ q3 ≤ 34494482440 ∧ q2 ≤ 8830587504648 ∧ q1 ≤ 2260630401189896 ∧ z ≤ 578721382704613384 := by
  have b6 : q6 ≤ 2056 := by omega
  have b5 : q5 ≤ 526344 := by omega
  have b4 : q4 ≤ 134744072 := by omega
  have b3 : q3 ≤ 34494482440 := by omega
  have b2 : q2 ≤ 8830587504648 := by omega
  have b1 : q1 ≤ 2260630401189896 := by omega
  have bz : z ≤ 578721382704613384 := by omega
  exact ⟨b6, b5, b4, b3, b2, b1, bz⟩
theorem bnd2 {z : Nat} (bz : z ≤ 578721382704613384) : z < 18446744073709551616 := by omega
theorem bnd3 {z q1 : Nat} (bz : z ≤ 578721382704613384) (b1 : q1 ≤ 2260630401189896) : z + q1 < 18446744073709551616 := by omega
theorem bnd4 {z q1 q2 q3 : Nat} (bz : z ≤ 578721382704613384) (b1 : q1 ≤ 2260630401189896) (b2 : q2 ≤ 8830587504648) (b3 : q3 ≤ 34494482440) : z + q1 + (q2 + q3) < 18446744073709551616 := by omega
theorem bnd5 {z q1 q2 q3 q4 q5 q6 p7 : Nat} (bz : z ≤ 578721382704613384) (b1 : q1 ≤ 2260630401189896) (b2 : q2 ≤ 8830587504648) (b3 : q3 ≤ 34494482440) (b4 : q4 ≤ 134744072) (b5 : q5 ≤ 526344) (b6 : q6 ≤ 2056) (h7 : p7 ≤ 8) : z + q1 + (q2 + q3) + (q4 + q5 + q6 + p7) < 9223372036854775808 := by omega
theorem id2 (p0 p1 p2 q3 : Nat) : p0 + 256 * (p1 + 256 * (p2 + 256 * q3)) + (p1 + 256 * (p2 + 256 * q3)) = ((p0 + p1) + 256 * (p1 + p2)) + 65536 * ((p2 + 256 * q3) + q3) := by omega
theorem id5 (p2 p3 p4 q5 : Nat) : (p2 + 256 * (p3 + 256 * (p4 + 256 * q5))) + (p3 + 256 * (p4 + 256 * q5)) = (p2 + p3) + 256 * (p3 + p4) + 65536 * ((p4 + 256 * q5) + q5) := by omega
theorem id6 (p0 p1 p2 p3 p4 p5 p6 u : Nat) : ((p0 + p1) + 256 * (p1 + p2)) + 65536 * ((p2 + p3) + 256 * (p3 + p4) + 65536 * ((p4 + p5) + 256 * (p5 + p6) + 65536 * u)) + ((p2 + p3) + 256 * (p3 + p4) + 65536 * ((p4 + p5) + 256 * (p5 + p6) + 65536 * u)) =
    ((p0 + p1 + p2 + p3) + 256 * (p1 + p2 + p3 + p4) + 65536 * (p2 + p3 + p4 + p5) + 16777216 * (p3 + p4 + p5 + p6)) + 4294967296 * ((p4 + p5) + 256 * (p5 + p6) + 65536 * u + u) := by omega
theorem sums (p0 p1 p2 p3 p4 p5 p6 p7 q1 q2 q3 q4 q5 q6 z : Nat) (h0 : p0 ≤ 8) (h1 : p1 ≤ 8) (h2 : p2 ≤ 8) (h3 : p3 ≤ 8) (h4 : p4 ≤ 8) (h5 : p5 ≤ 8) (h6 : p6 ≤ 8) (h7 : p7 ≤ 8)
    (e6 : q6 = p6 + 256 * p7) (e5 : q5 = p5 + 256 * q6) (e4 : q4 = p4 + 256 * q5) (e3 : q3 = p3 + 256 * q4) (e2 : q2 = p2 + 256 * q3) (e1 : q1 = p1 + 256 * q2) (ez : z = p0 + 256 * q1) :
    z < 18446744073709551616 ∧ z + z / 256 < 18446744073709551616 ∧ (z + z / 256) + (z + z / 256) / 65536 < 18446744073709551616 ∧ ((z + z / 256) + (z + z / 256) / 65536) + ((z + z / 256) + (z + z / 256) / 65536) / 4294967296 < 9223372036854775808 ∧
    (((z + z / 256) + (z + z / 256) / 65536) + ((z + z / 256) + (z + z / 256) / 65536) / 4294967296) % 128 = p0 + (p1 + (p2 + (p3 + (p4 + (p5 + (p6 + p7)))))) := by
  obtain ⟨b6, b5, b4, b3, b2, b1, bz⟩ := bnd8 p0 p1 p2 p3 p4 p5 p6 p7 q1 q2 q3 q4 q5 q6 z h0 h1 h2 h3 h4 h5 h6 h7 e6 e5 e4 e3 e2 e1 ez
  have s1 : z / 256 = q1 := by rw [ez]; exact dv1 _ _ (lt1 h0)
  rw [s1]
  have i2 : z + q1 = ((p0 + p1) + 256 * (p1 + p2)) + 65536 * (q2 + q3) := by rw [ez, e1, e2]; exact id2 _ _ _ _
  have s2 : (z + q1) / 65536 = q2 + q3 := by rw [i2]; exact dv2 _ _ (lt2 h0 h1 h2)
  rw [s2]
  have j1 : q2 + q3 = (p2 + p3) + 256 * (p3 + p4) + 65536 * (q4 + q5) := by rw [e2, e3, e4]; exact id5 _ _ _ _
  have j2 : q4 + q5 = (p4 + p5) + 256 * (p5 + p6) + 65536 * (q6 + p7) := by rw [e4, e5, e6]; exact id5 _ _ _ _
  have i3 : z + q1 + (q2 + q3) = ((p0 + p1 + p2 + p3) + 256 * (p1 + p2 + p3 + p4) + 65536 * (p2 + p3 + p4 + p5) + 16777216 * (p3 + p4 + p5 + p6)) + 4294967296 * (q4 + q5 + q6 + p7) := by
    rw [i2, j1, show q4 + q5 + q6 + p7 = (q4 + q5) + (q6 + p7) by rw [Nat.add_assoc], j2]; exact id6 _ _ _ _ _ _ _ _
  have s3 : (z + q1 + (q2 + q3)) / 4294967296 = q4 + q5 + q6 + p7 := by rw [i3]; exact dv3 _ _ (lt3 h0 h1 h2 h3 h4 h5 h6)
  rw [s3]
  exact ⟨bnd2 bz, bnd3 bz b1, bnd4 bz b1 b2 b3, bnd5 bz b1 b2 b3 b4 b5 b6 h7, fin8 p0 p1 p2 p3 p4 p5 p6 p7 q1 q2 q3 q4 q5 q6 z h0 h1 h2 h3 h4 h5 h6 h7 e6 e5 e4 e3 e2 e1 ez⟩
theorem ones_plain (x : Nat) (hx : x < 18446744073709551616) {z : Nat} (hz : z = y3 1085102592571150095 (y2 3689348814741910323 (y1 6148914691236517205 x))) :
    z < 18446744073709551616 ∧ z + z / 256 < 18446744073709551616 ∧ (z + z / 256) + (z + z / 256) / 65536 < 18446744073709551616 ∧ ((z + z / 256) + (z + z / 256) / 65536) + ((z + z / 256) + (z + z / 256) / 65536) / 4294967296 < 9223372036854775808 ∧
    (((z + z / 256) + (z + z / 256) / 65536) + ((z + z / 256) + (z + z / 256) / 65536) / 4294967296) % 128 = pop64 x := by
  have h := (swar 8 x (by omega)).1
  have m1 : mk8 15 8 = 1085102592571150095 := by decide +kernel
  have m2 : mk8 51 8 = 3689348814741910323 := by decide +kernel
  have m3 : mk8 85 8 = 6148914691236517205 := by decide +kernel
  rw [m1, m2, m3] at h
  rw [h] at hz
  simp only [popB, Nat.mul_zero, Nat.add_zero] at hz
  have := sums _ _ _ _ _ _ _ _ _ _ _ _ _ _ z (pop8_le (x % 256)) (pop8_le (x / 256 % 256)) (pop8_le (x / 256 / 256 % 256)) (pop8_le (x / 256 / 256 / 256 % 256)) (pop8_le (x / 256 / 256 / 256 / 256 % 256)) (pop8_le (x / 256 / 256 / 256 / 256 / 256 % 256)) (pop8_le (x / 256 / 256 / 256 / 256 / 256 / 256 % 256)) (pop8_le (x / 256 / 256 / 256 / 256 / 256 / 256 / 256 % 256)) rfl rfl rfl rfl rfl rfl hz
  rw [pop_sum]
  exact this
end Go.LA
end
