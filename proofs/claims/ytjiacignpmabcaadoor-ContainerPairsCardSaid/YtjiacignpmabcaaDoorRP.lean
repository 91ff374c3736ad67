/- Runs of a set: plain law. -/
import Derived.Test.YtjiacignpmabcaaDoorMk
set_option linter.unusedSimpArgs false
set_option linter.unusedVariables false
namespace Go.LA
open Go.RowKit Go.ArrP

abbrev Rn := Int × Int
/-- Is the number just below there? -/
def bel (p : Nat → Bool) : Nat → Bool
  | 0 => false
  | n + 1 => p n
/-- Where the run begins that is open at a place. -/
def frm (p : Nat → Bool) : Nat → Nat
  | 0 => 0
  | n + 1 => if p n && !bel p n then n else frm p n
/-- The runs that end ahead of a place. -/
def rnC (p : Nat → Bool) : Nat → List Rn
  | 0 => []
  | n + 1 => rnC p n ++ if !p n && bel p n then [((frm p n : Int), (n : Int) - frm p n - 1)] else []
/-- With the one that is open there. -/
def opn (p : Nat → Bool) (T : Nat) : List Rn := rnC p T ++ if bel p T then [((frm p T : Int), (T : Int) - frm p T - 1)] else []
def runsL (p : Nat → Bool) : List Rn := opn p 65536

theorem frm_lt (p : Nat → Bool) : ∀ T, bel p T = true → frm p T < T
  | 0, h => by cases h
  | T + 1, h => by
    have hp : p T = true := h
    simp only [frm, hp, Bool.true_and]
    cases hb : bel p T
    · simp
    · have := frm_lt p T hb
      simp; omega
theorem opn_more {p : Nat → Bool} {T : Nat} (h : p T = true) (hb : bel p T = true) : opn p (T + 1) = rnC p T ++ [((frm p T : Int), (T : Int) - frm p T)] := by
  have h1 : bel p (T + 1) = true := h
  have h2 : frm p (T + 1) = frm p T := by simp [frm, h, hb]
  have h3 : rnC p (T + 1) = rnC p T := by simp [rnC, h]
  unfold opn
  rw [h1, h2, h3, if_pos rfl]
  congr 3
  omega
theorem opn_at {p : Nat → Bool} {T : Nat} (hb : bel p T = true) : opn p T = rnC p T ++ [((frm p T : Int), (T : Int) - frm p T - 1)] := by
  unfold opn; rw [hb, if_pos rfl]
theorem opn_off {p : Nat → Bool} {T : Nat} (hb : bel p T = false) : opn p T = rnC p T := by
  unfold opn; rw [hb]; simp
theorem opn_new {p : Nat → Bool} {T : Nat} (h : p T = true) (hb : bel p T = false) : opn p (T + 1) = opn p T ++ [((T : Int), 0)] := by
  have h1 : bel p (T + 1) = true := h
  have h2 : frm p (T + 1) = T := by simp [frm, h, hb]
  have h3 : rnC p (T + 1) = rnC p T := by simp [rnC, h]
  rw [opn_off hb, opn_at h1, h2, h3]
  congr 3
  omega
theorem opn_no {p : Nat → Bool} {T : Nat} (h : p T = false) : opn p (T + 1) = opn p T := by
  have h1 : bel p (T + 1) = false := h
  rw [opn_off h1, rnC, h]
  cases hb : bel p T
  · rw [opn_off hb]; simp
  · rw [opn_at hb]; simp
theorem bel_congr {p q : Nat → Bool} : ∀ T, (∀ i, i < T → p i = q i) → bel p T = bel q T
  | 0, _ => rfl
  | T + 1, h => h T (by omega)
theorem frm_congr {p q : Nat → Bool} : ∀ T, (∀ i, i < T → p i = q i) → frm p T = frm q T
  | 0, _ => rfl
  | T + 1, h => by
    simp only [frm, h T (by omega), bel_congr T (fun i hi => h i (by omega)), frm_congr T (fun i hi => h i (by omega))]
theorem rnC_congr {p q : Nat → Bool} : ∀ T, (∀ i, i < T → p i = q i) → rnC p T = rnC q T
  | 0, _ => rfl
  | T + 1, h => by
    simp only [rnC, h T (by omega), bel_congr T (fun i hi => h i (by omega)), frm_congr T (fun i hi => h i (by omega)), rnC_congr T (fun i hi => h i (by omega))]
theorem opn_congr {p q : Nat → Bool} (T : Nat) (h : ∀ i, i < T → p i = q i) : opn p T = opn q T := by
  unfold opn; rw [bel_congr T h, frm_congr T h, rnC_congr T h]
theorem runsL_congr {p q : Nat → Bool} (h : ∀ i, i < 65536 → p i = q i) : runsL p = runsL q := opn_congr 65536 h

/-! ### Sums over runs -/
def sumR (g : Rn → Int) : List Rn → Int
  | [] => 0
  | x :: r => g x + sumR g r
theorem sumR_app (g : Rn → Int) : ∀ a b, sumR g (a ++ b) = sumR g a + sumR g b
  | [], b => by simp [sumR]
  | x :: a, b => by simp only [List.cons_append, sumR, sumR_app g a b]; omega
def lenR (rs : List Rn) : Int := sumR (fun x => x.2 + 1) rs
def rankR (rs : List Rn) (x : Int) : Int := sumR (fun y => min (max (x - y.1) 0) (y.2 + 1)) rs
theorem len_opn (p : Nat → Bool) : ∀ T, lenR (opn p T) = cnt p T
  | 0 => rfl
  | T + 1 => by
    have ih := len_opn p T
    unfold lenR at ih ⊢
    simp only [cnt]
    cases h : p T
    · rw [opn_no h]; simpa using ih
    · cases hb : bel p T
      · rw [opn_new h hb, sumR_app, ih]; simp [sumR]
      · rw [opn_at hb, sumR_app] at ih
        rw [opn_more h hb, sumR_app]
        simp only [sumR, if_true] at ih ⊢
        omega
theorem rank_opn (p : Nat → Bool) (x : Int) : ∀ T : Nat, rankR (opn p T) x = cnt p (min (max x 0) T).toNat
  | 0 => by rw [show (min (max x 0) ((0 : Nat) : Int)).toNat = 0 by omega]; rfl
  | T + 1 => by
    have ih := rank_opn p x T
    unfold rankR at ih ⊢
    by_cases hx : x ≤ T
    · rw [show (min (max x 0) ((T + 1 : Nat) : Int)).toNat = (min (max x 0) (T : Int)).toNat by omega, ← ih]
      cases h : p T
      · rw [opn_no h]
      · cases hb : bel p T
        · rw [opn_new h hb, sumR_app]; simp only [sumR]; omega
        · have := frm_lt p T hb
          rw [opn_more h hb, opn_at hb, sumR_app, sumR_app]; simp only [sumR]; omega
    · rw [show (min (max x 0) ((T + 1 : Nat) : Int)).toNat = T + 1 by omega]
      rw [show (min (max x 0) (T : Int)).toNat = T by omega] at ih
      simp only [cnt]
      cases h : p T
      · rw [opn_no h, ih]; simp
      · cases hb : bel p T
        · rw [opn_new h hb, sumR_app, ih]; simp only [sumR, if_true]; omega
        · have := frm_lt p T hb
          rw [opn_at hb, sumR_app] at ih
          rw [opn_more h hb, sumR_app]; simp only [sumR, if_true] at ih ⊢; omega
theorem many_opn (p : Nat → Bool) : ∀ T, (opn p T).length = cnt (startsS p) T
  | 0 => rfl
  | T + 1 => by
    have ih := many_opn p T
    have hs : startsS p T = (p T && !bel p T) := by cases T <;> rfl
    simp only [cnt, hs]
    cases h : p T
    · rw [opn_no h, ih]; simp
    · cases hb : bel p T
      · rw [opn_new h hb, List.length_append, ih]; rfl
      · rw [opn_at hb] at ih
        rw [opn_more h hb]; simpa using ih

/-! ### The list -/
def rngL (f m : Int) : List Int := (List.range (m + 1).toNat).map (fun j => f + ((j : Nat) : Int))
def listR : List Rn → List Int
  | [] => []
  | x :: r => rngL x.1 x.2 ++ listR r
theorem listR_app : ∀ a b, listR (a ++ b) = listR a ++ listR b
  | [], b => rfl
  | x :: a, b => by simp only [List.cons_append, listR, listR_app a b, List.append_assoc]
theorem rngL_len (f m : Int) : (rngL f m).length = (m + 1).toNat := by simp [rngL]
theorem rngL_succ (f : Int) (j : Nat) : rngL f j = rngL f ((j : Int) - 1) ++ [f + j] := by
  unfold rngL
  rw [show ((j : Int) + 1).toNat = j + 1 by omega, show ((j : Int) - 1 + 1).toNat = j by omega, List.range_succ, List.map_append]
  rfl
theorem listR_len : ∀ rs : List Rn, (∀ x ∈ rs, 0 ≤ x.2) → ((listR rs).length : Int) = lenR rs
  | [], _ => rfl
  | x :: r, h => by
    have ih := listR_len r (fun y hy => h y (List.mem_cons_of_mem _ hy))
    have := h x (List.mem_cons_self ..)
    unfold lenR at ih ⊢
    simp only [listR, sumR, List.length_append, rngL_len]
    omega
theorem list_opn (p : Nat → Bool) : ∀ T, listR (opn p T) = listS p T
  | 0 => rfl
  | T + 1 => by
    have ih := list_opn p T
    simp only [listS]
    cases h : p T
    · rw [opn_no h, ih]; simp
    · cases hb : bel p T
      · rw [opn_new h hb, listR_app, ih]; simp [listR, rngL]
      · have := frm_lt p T hb
        rw [opn_at hb, listR_app] at ih
        rw [opn_more h hb, listR_app, if_pos rfl, ← ih]
        simp only [listR, List.append_nil]
        rw [List.append_assoc]
        congr 1
        obtain ⟨j, hj⟩ : ∃ j : Nat, (T : Int) - frm p T = j := ⟨T - frm p T, by omega⟩
        rw [show (T : Int) - frm p T - 1 = (j : Int) - 1 by omega, hj, rngL_succ]
        congr 2; omega
theorem selR_get : ∀ (f m : Int) (k : Nat), (k : Int) ≤ m → (rngL f m).getD k 0 = f + k := by
  intro f m k hk
  unfold rngL
  rw [List.getD, List.getElem?_map, List.getElem?_range (by omega)]
  rfl
/-- The k-th number. -/
def selR : List Rn → Int → Int × Bool
  | [], _ => (0, false)
  | x :: r, k => if k ≤ x.2 then (if k < 0 then (0, false) else (x.1 + k, true)) else selR r (k - (x.2 + 1))
theorem selR_eq : ∀ (rs : List Rn) (k : Int), (∀ x ∈ rs, 0 ≤ x.2) → selR rs k = if 0 ≤ k ∧ k < lenR rs then ((listR rs).getD k.toNat 0, true) else (0, false)
  | [], k, _ => by
    have hL : lenR [] = 0 := rfl
    rw [if_neg (by rw [hL]; omega)]; rfl
  | x :: r, k, h => by
    have h0 := h x (List.mem_cons_self ..)
    have hr : ∀ y ∈ r, 0 ≤ y.2 := fun y hy => h y (List.mem_cons_of_mem _ hy)
    have hl := listR_len r hr
    have ih := selR_eq r (k - (x.2 + 1)) hr
    have hL : lenR (x :: r) = x.2 + 1 + lenR r := rfl
    simp only [selR]
    by_cases h1 : k ≤ x.2
    · rw [if_pos h1]
      by_cases h2 : k < 0
      · rw [if_pos h2, if_neg (by omega)]
      · rw [if_neg h2, if_pos (by omega)]
        have hg := selR_get x.1 x.2 k.toNat (by omega)
        simp only [listR]
        rw [List.getD, List.getElem?_append_left (by rw [rngL_len]; omega)]
        rw [List.getD] at hg
        rw [hg]; congr 1; omega
    · rw [if_neg h1, ih]
      by_cases h3 : k - (x.2 + 1) < lenR r
      · rw [if_pos (by omega), if_pos (by omega)]
        congr 1
        simp only [listR]
        conv => rhs; rw [List.getD, List.getElem?_append_right (by rw [rngL_len]; omega), rngL_len]
        rw [List.getD]; congr 2; omega
      · rw [if_neg (by omega), if_neg (by omega)]

/-! ### Right runs -/
def fst (rs : List Rn) (k : Nat) : Int := (rs.getD k (0, 0)).1
def mor (rs : List Rn) (k : Nat) : Int := (rs.getD k (0, 0)).2
def lst (rs : List Rn) : Nat → Int
  | 0 => 0
  | k + 1 => fst rs k + mor rs k + 2
def Right (rs : List Rn) : Prop := ∀ k, k < rs.length → lst rs k ≤ fst rs k ∧ fst rs k + mor rs k + 1 ≤ 65536
def U16 (rs : List Rn) : Prop := ∀ x ∈ rs, 0 ≤ x.1 ∧ x.1 < 65536 ∧ 0 ≤ x.2 ∧ x.2 < 65536
def inR (rs : List Rn) (i : Nat) : Bool := rs.any (fun x => decide (x.1 ≤ i) && decide ((i : Int) ≤ x.1 + x.2))
noncomputable instance (rs : List Rn) : Decidable (Right rs) := Classical.propDecidable _
theorem U16.at {rs : List Rn} (h : U16 rs) (k : Nat) : 0 ≤ fst rs k ∧ fst rs k < 65536 ∧ 0 ≤ mor rs k ∧ mor rs k < 65536 := by
  unfold fst mor
  by_cases hk : k < rs.length
  · have : rs.getD k (0, 0) = rs[k] := by simp [List.getD, hk]
    rw [this]; exact h _ (List.getElem_mem hk)
  · have : rs.getD k (0, 0) = (0, 0) := by simp [List.getD, List.getElem?_eq_none (by omega : rs.length ≤ k)]
    rw [this]; decide
theorem take_run {rs : List Rn} {k : Nat} (hk : k < rs.length) : rs.take (k + 1) = rs.take k ++ [(fst rs k, mor rs k)] := by
  rw [List.take_succ_eq_append_getElem hk]
  have : rs.getD k (0, 0) = rs[k] := by simp [List.getD, hk]
  unfold fst mor; rw [this]
theorem inR_app (a b : List Rn) (i : Nat) : inR (a ++ b) i = (inR a i || inR b i) := by unfold inR; rw [List.any_append]
theorem inR_one (f m : Int) (i : Nat) : inR [(f, m)] i = (decide (f ≤ i) && decide ((i : Int) ≤ f + m)) := by simp [inR]
theorem opn_flat {p : Nat → Bool} {a : Nat} : ∀ T, a ≤ T → (∀ i, a ≤ i → i < T → p i = false) → opn p T = opn p a
  | 0, h, _ => by obtain rfl : a = 0 := by omega
                  rfl
  | T + 1, h, hf => by
    rcases Nat.lt_or_ge T a with h1 | h1
    · obtain rfl : a = T + 1 := by omega
      rfl
    · rw [opn_no (hf T h1 (by omega)), opn_flat T h1 (fun i g1 g2 => hf i g1 (by omega))]
theorem right_pre {rs : List Rn} (hr : Right rs) (hu : U16 rs) : ∀ k, k ≤ rs.length → (∀ i : Nat, lst rs k ≤ (i : Int) + 1 → inR (rs.take k) i = false) ∧ (∀ T : Nat, lst rs k ≤ (T : Int) + 1 → opn (inR (rs.take k)) T = rs.take k)
  | 0, _ => ⟨fun i _ => rfl, fun T _ => by
      rw [List.take_zero]
      exact opn_flat (a := 0) T (Nat.zero_le _) (fun i _ _ => rfl)⟩
  | k + 1, hk => by
    obtain ⟨ih1, ih2⟩ := right_pre hr hu k (by omega)
    obtain ⟨g1, g2⟩ := hr k (by omega)
    obtain ⟨u1, u2, u3, u4⟩ := hu.at k
    obtain ⟨f, hf⟩ := Int.eq_ofNat_of_zero_le u1
    obtain ⟨m, hm⟩ := Int.eq_ofNat_of_zero_le u3
    have hl : lst rs (k + 1) = (f : Int) + m + 2 := by rw [← hf, ← hm]; rfl
    rw [hl, take_run (by omega), hf, hm]
    rw [hf] at g1
    have hq : ∀ i : Nat, inR (rs.take k ++ [((f : Int), (m : Int))]) i = (inR (rs.take k) i || (decide ((f : Int) ≤ i) && decide ((i : Int) ≤ f + m))) := fun i => by rw [inR_app, inR_one]
    obtain ⟨q, hqd⟩ : ∃ q, q = inR (rs.take k ++ [((f : Int), (m : Int))]) := ⟨_, rfl⟩
    rw [← hqd] at hq ⊢
    have hlow : ∀ i, i < f → q i = inR (rs.take k) i := fun i hi => by rw [hq, decide_eq_false (by omega : ¬ ((f : Int) ≤ i))]; simp
    have hin : ∀ i, f ≤ i → i ≤ f + m → q i = true := fun i h1 h2 => by rw [hq, decide_eq_true (by omega : (f : Int) ≤ i), decide_eq_true (by omega : (i : Int) ≤ f + m)]; simp
    have hhi : ∀ i, f + m < i → q i = false := fun i h1 => by rw [hq, ih1 i (by omega), decide_eq_false (by omega : ¬ (i : Int) ≤ f + m)]; simp
    have hof : opn q f = rs.take k := by rw [opn_congr f hlow]; exact ih2 f (by omega)
    have hbf : bel q f = false := by
      cases f with
      | zero => rfl
      | succ f' =>
        show q f' = false
        rw [hlow f' (by omega)]; exact ih1 f' (by omega)
    have key : ∀ j, j ≤ m → rnC q (f + 1 + j) = rs.take k ∧ frm q (f + 1 + j) = f ∧ bel q (f + 1 + j) = true := by
      intro j
      induction j with
      | zero =>
        intro _
        have hqf := hin f (Nat.le_refl _) (by omega)
        refine ⟨?_, by simp [frm, hqf, hbf], hqf⟩
        rw [opn_off hbf] at hof
        simp [rnC, hqf, hof]
      | succ j ih =>
        intro hj
        obtain ⟨a1, a2, a3⟩ := ih (by omega)
        have hqf := hin (f + 1 + j) (by omega) (by omega)
        refine ⟨?_, ?_, hqf⟩
        · show rnC q (f + 1 + j + 1) = _
          simp [rnC, hqf, a1]
        · show frm q (f + 1 + j + 1) = _
          simp [frm, hqf, a3, a2]
    refine ⟨fun i hi => hhi i (by omega), fun T hT => ?_⟩
    rw [opn_flat (a := f + 1 + m) T (by omega) (fun i h1 h2 => hhi i (by omega))]
    obtain ⟨a1, a2, a3⟩ := key m (Nat.le_refl _)
    rw [opn_at a3, a1, a2]
    congr 3
    omega
theorem right_L {rs : List Rn} (hr : Right rs) (hu : U16 rs) : runsL (inR rs) = rs := by
  have h := (right_pre hr hu rs.length (Nat.le_refl _)).2 65536 (by
    cases hl : rs.length with
    | zero => simp [lst]
    | succ n => have := hr n (by omega); simp only [lst]; omega)
  rw [List.take_length] at h; exact h
theorem inR_cut {rs : List Rn} (hr : Right rs) (hu : U16 rs) {i : Nat} (hi : 65536 ≤ i) : inR rs i = false := by
  have h := (right_pre hr hu rs.length (Nat.le_refl _)).1 i (by
    cases hl : rs.length with
    | zero => simp [lst]; omega
    | succ n => have := hr n (by omega); simp only [lst]; omega)
  rw [List.take_length] at h; exact h
theorem app_get {a : List Rn} {x : Rn} (k : Nat) : (a ++ [x]).getD k (0, 0) = if k < a.length then a.getD k (0, 0) else if k = a.length then x else (0, 0) := by
  by_cases h : k < a.length
  · rw [if_pos h, List.getD, List.getElem?_append_left h]; rfl
  · rw [if_neg h, List.getD, List.getElem?_append_right (by omega)]
    by_cases e : k = a.length
    · subst e; simp
    · rw [if_neg e, List.getElem?_eq_none (by simp; omega)]; rfl
theorem Right.snoc {a : List Rn} {f m : Int} (h : Right a) (h1 : lst a a.length ≤ f) (h2 : f + m + 1 ≤ 65536) : Right (a ++ [(f, m)]) := by
  have hl : ∀ k, k ≤ a.length → lst (a ++ [(f, m)]) k = lst a k := fun k hk => by
    cases k with
    | zero => rfl
    | succ k => simp only [lst, fst, mor]; rw [app_get, if_pos (by omega)]
  intro k hk
  rw [List.length_append] at hk
  have hk : k < a.length + 1 := hk
  rw [hl k (by omega)]
  unfold fst mor
  rw [app_get]
  by_cases e : k < a.length
  · rw [if_pos e]; exact h k e
  · obtain rfl : k = a.length := by omega
    rw [if_neg e, if_pos rfl]; exact ⟨h1, h2⟩
theorem U16.app {a b : List Rn} (ha : U16 a) (hb : U16 b) : U16 (a ++ b) := fun x hx => (List.mem_append.1 hx).elim (ha x) (hb x)
theorem U16.one {f m : Int} (h1 : 0 ≤ f) (h2 : f < 65536) (h3 : 0 ≤ m) (h4 : m < 65536) : U16 [(f, m)] := fun x hx => by
  rw [List.mem_singleton] at hx; subst hx; exact ⟨h1, h2, h3, h4⟩
/-- The runs of a set are right. -/
theorem rn_right (p : Nat → Bool) : ∀ T, T ≤ 65536 → (Right (rnC p T) ∧ U16 (rnC p T) ∧ lst (rnC p T) (rnC p T).length ≤ (if bel p T then (frm p T : Int) else (T : Int) + 1)) ∧ (Right (opn p T) ∧ U16 (opn p T))
  | 0, _ => ⟨⟨fun k hk => by simp [rnC] at hk, fun x hx => by simp [rnC] at hx, by simp [rnC, lst, bel]⟩, fun k hk => by simp [opn, rnC, bel] at hk, fun x hx => by simp [opn, rnC, bel] at hx⟩
  | T + 1, hT => by
    obtain ⟨⟨i1, i2, i3⟩, i4, i5⟩ := rn_right p T (by omega)
    have lastA : ∀ (a : List Rn) (f m : Int), lst (a ++ [(f, m)]) (a ++ [(f, m)]).length = f + m + 2 := fun a f m => by
      rw [List.length_append]
      show fst (a ++ [(f, m)]) a.length + mor (a ++ [(f, m)]) a.length + 2 = _
      unfold fst mor
      rw [app_get, if_neg (by omega), if_pos rfl]
    have A : Right (rnC p (T + 1)) ∧ U16 (rnC p (T + 1)) ∧ lst (rnC p (T + 1)) (rnC p (T + 1)).length ≤ (if bel p (T + 1) then (frm p (T + 1) : Int) else ((T + 1 : Nat) : Int) + 1) := by
      have hb1 : bel p (T + 1) = p T := rfl
      rw [hb1]
      cases h : p T
      · cases hb : bel p T
        · have e : rnC p (T + 1) = rnC p T := by simp [rnC, h, hb]
          rw [e]
          rw [hb] at i3
          refine ⟨i1, i2, ?_⟩
          simp only [Bool.false_eq_true, if_false] at i3 ⊢
          omega
        · have e : rnC p (T + 1) = rnC p T ++ [((frm p T : Int), (T : Int) - frm p T - 1)] := by simp [rnC, h, hb]
          have := frm_lt p T hb
          rw [hb, if_pos rfl] at i3
          rw [e]
          refine ⟨i1.snoc i3 (by omega), i2.app (U16.one (by omega) (by omega) (by omega) (by omega)), ?_⟩
          rw [lastA]
          simp only [Bool.false_eq_true, if_false]; omega
      · have e : rnC p (T + 1) = rnC p T := by simp [rnC, h]
        rw [e, if_pos rfl]
        refine ⟨i1, i2, ?_⟩
        cases hb : bel p T
        · have e2 : frm p (T + 1) = T := by simp [frm, h, hb]
          rw [hb] at i3
          simp only [Bool.false_eq_true, if_false] at i3
          rw [e2]
          -- the run ahead ended below T
          have hlt : lst (rnC p T) (rnC p T).length ≤ (T : Int) := by
            cases T with
            | zero => simp [rnC, lst]
            | succ T' =>
              have hp' : p T' = false := hb
              obtain ⟨⟨j1, j2, j3⟩, -, -⟩ := rn_right p T' (by omega)
              cases hb' : bel p T'
              · have e3 : rnC p (T' + 1) = rnC p T' := by simp [rnC, hp', hb']
                rw [hb'] at j3
                simp only [Bool.false_eq_true, if_false] at j3
                rw [e3]; omega
              · have e3 : rnC p (T' + 1) = rnC p T' ++ [((frm p T' : Int), (T' : Int) - frm p T' - 1)] := by simp [rnC, hp', hb']
                rw [e3, lastA]; omega
          exact hlt
        · have e2 : frm p (T + 1) = frm p T := by simp [frm, h, hb]
          rw [hb, if_pos rfl] at i3
          rw [e2]; exact i3
    refine ⟨A, ?_⟩
    obtain ⟨a1, a2, a3⟩ := A
    cases hb : bel p (T + 1)
    · rw [opn_off hb]; exact ⟨a1, a2⟩
    · have := frm_lt p (T + 1) hb
      rw [hb, if_pos rfl] at a3
      rw [opn_at hb]
      exact ⟨a1.snoc a3 (by omega), a2.app (U16.one (by omega) (by omega) (by omega) (by omega))⟩
theorem runs_right (p : Nat → Bool) : Right (runsL p) := (rn_right p 65536 (Nat.le_refl _)).2.1
theorem runs_u16 (p : Nat → Bool) : U16 (runsL p) := (rn_right p 65536 (Nat.le_refl _)).2.2
/-- What is in the runs of a set. -/
theorem inR_opn (p : Nat → Bool) : ∀ (T i : Nat), inR (opn p T) i = (decide (i < T) && p i)
  | 0, i => by simp [opn, rnC, bel, inR]
  | T + 1, i => by
    have ih := inR_opn p T i
    cases h : p T
    · rw [opn_no h, ih]
      by_cases e : i = T
      · subst e; simp [h]
      · rw [show decide (i < T + 1) = decide (i < T) by rw [decide_eq_decide]; omega]
    · cases hb : bel p T
      · rw [opn_new h hb, inR_app, ih, inR_one]
        by_cases e : i = T
        · subst e; simp [h]
        · rw [show decide (i < T + 1) = decide (i < T) by rw [decide_eq_decide]; omega]
          rcases Nat.lt_or_ge i T with h1 | h1
          · rw [decide_eq_false (by omega : ¬ ((T : Nat) : Int) ≤ i)]; simp
          · rw [decide_eq_false (by omega : ¬ (i : Int) ≤ ((T : Nat) : Int) + 0)]; simp
      · have := frm_lt p T hb
        rw [opn_at hb, inR_app, inR_one] at ih
        rw [opn_more h hb, inR_app, inR_one]
        by_cases e : i = T
        · subst e
          rw [decide_eq_true (by omega : ((frm p i : Nat) : Int) ≤ i), decide_eq_true (by omega : (i : Int) ≤ (frm p i : Int) + ((i : Int) - frm p i))]
          simp [h]
        · rw [show decide (i < T + 1) = decide (i < T) by rw [decide_eq_decide]; omega, ← ih]
          congr 2
          rw [decide_eq_decide]; omega
theorem inR_runs (p : Nat → Bool) {i : Nat} (hi : i < 65536) : inR (runsL p) i = p i := by
  unfold runsL; rw [inR_opn]; simp [hi]
theorem runs_inj {p q : Nat → Bool} (h : runsL p = runsL q) {i : Nat} (hi : i < 65536) : p i = q i := by
  rw [← inR_runs p hi, h, inR_runs q hi]

/-! ### Edges -/
def chg (p : Nat → Bool) (x : Nat) : Bool := p x != bel p x
def rowL : List Rn → List Int
  | [] => []
  | x :: r => x.1 :: (x.1 + x.2 + 1) :: rowL r
theorem rowL_app : ∀ a b, rowL (a ++ b) = rowL a ++ rowL b
  | [], b => rfl
  | x :: a, b => by simp only [List.cons_append, rowL, rowL_app a b]
theorem rowL_len : ∀ a, (rowL a).length = 2 * a.length
  | [] => rfl
  | x :: a => by simp only [rowL, List.length_cons, rowL_len a]; omega
theorem rowL_C (p : Nat → Bool) : ∀ T, rowL (rnC p T) ++ (if bel p T then [(frm p T : Int)] else []) = listS (chg p) T
  | 0 => rfl
  | T + 1 => by
    have ih := rowL_C p T
    have hc : chg p T = (p T != bel p T) := rfl
    have hb1 : bel p (T + 1) = p T := rfl
    simp only [listS, ← ih]
    cases h : p T
    · rw [h] at hc hb1
      rw [hb1]
      cases hb : bel p T
      · rw [hb] at hc
        rw [hc]; simp [rnC, h, hb]
      · rw [hb] at hc
        have e : rnC p (T + 1) = rnC p T ++ [((frm p T : Int), (T : Int) - frm p T - 1)] := by simp [rnC, h, hb]
        rw [hc, e, rowL_app]
        simp only [rowL, if_true, Bool.false_eq_true, if_false, List.append_nil, Bool.false_bne]
        rw [show (frm p T : Int) + ((T : Int) - frm p T - 1) + 1 = T by omega]
        simp
    · rw [h] at hc hb1
      rw [hb1]
      cases hb : bel p T
      · rw [hb] at hc
        rw [hc]; simp [rnC, frm, h, hb]
      · rw [hb] at hc
        rw [hc]; simp [rnC, frm, h, hb]
theorem row_runs {p : Nat → Bool} (hp : p 65536 = false) : rowL (runsL p) = listS (chg p) 65537 := by
  have h := rowL_C p 65537
  have hb : bel p 65537 = false := hp
  rw [hb] at h
  unfold runsL
  rw [← opn_no hp, opn_off hb, ← h]; simp
theorem runs_C {p : Nat → Bool} (hp : p 65536 = false) : runsL p = rnC p 65537 := by
  have hb : bel p 65537 = false := hp
  unfold runsL
  rw [← opn_no hp, opn_off hb]
theorem odd_chg (p : Nat → Bool) : ∀ T, cnt (chg p) T % 2 = if bel p T then 1 else 0
  | 0 => rfl
  | T + 1 => by
    have ih := odd_chg p T
    have hc : chg p T = (p T != bel p T) := rfl
    have hb1 : bel p (T + 1) = p T := rfl
    simp only [cnt]
    cases h : p T <;> rw [h] at hc hb1 <;> rw [hb1] <;> cases hb : bel p T <;> rw [hb] at hc ih <;> rw [hc] <;> simp at ih ⊢ <;> omega
theorem still {p : Nat → Bool} {T : Nat} : ∀ t, T ≤ t → (∀ x, T ≤ x → x < t → chg p x = false) → rnC p t = rnC p T ∧ bel p t = bel p T ∧ frm p t = frm p T
  | 0, h, _ => by obtain rfl : T = 0 := by omega
                  exact ⟨rfl, rfl, rfl⟩
  | t + 1, h, hc => by
    rcases Nat.lt_or_ge t T with h1 | h1
    · obtain rfl : T = t + 1 := by omega
      exact ⟨rfl, rfl, rfl⟩
    · obtain ⟨a1, a2, a3⟩ := still t h1 (fun x g1 g2 => hc x g1 (by omega))
      have hx := hc t h1 (by omega)
      have hpb : p t = bel p t := by simpa [chg] using hx
      refine ⟨?_, ?_, ?_⟩
      · rw [← a1]; simp only [rnC, hpb]; cases bel p t <;> simp
      · rw [← a2]; exact hpb
      · rw [← a3]; simp only [frm, hpb]; cases bel p t <;> simp
def two (F : Bool → Bool → Bool) (p q : Nat → Bool) (i : Nat) : Bool := F (p i) (q i)
theorem bel_two {F : Bool → Bool → Bool} (hF : F false false = false) (p q : Nat → Bool) : ∀ T, bel (two F p q) T = F (bel p T) (bel q T)
  | 0 => hF.symm
  | _ + 1 => rfl
theorem chg_two {F : Bool → Bool → Bool} (hF : F false false = false) {p q : Nat → Bool} {x : Nat} (hp : chg p x = false) (hq : chg q x = false) : chg (two F p q) x = false := by
  have h1 : p x = bel p x := by simpa [chg] using hp
  have h2 : q x = bel q x := by simpa [chg] using hq
  simp [chg, bel_two hF, two, h1, h2]
/-- How many places of a row are up to a place. -/
theorem edge_le (P : Nat → Bool) {n i t : Nat} (hi : i < cnt P n) : ∃ x : Nat, x < n ∧ P x = true ∧ cnt P x = i ∧ (listS P n).getD i 0 = x ∧ (x ≤ t ↔ i < cnt P (t + 1)) := by
  obtain ⟨x, h1, h2, h3, h4⟩ := listS_get P n i hi
  refine ⟨x, h1, h2, h3, h4, fun h => ?_, fun h => ?_⟩
  · have := cnt_mono P (m := x + 1) (t + 1) (by omega)
    simp only [cnt, h2, if_true] at this ⊢; omega
  · rcases Nat.lt_or_ge t x with h5 | h5
    · have := cnt_mono P (m := t + 1) x (by omega); omega
    · exact h5
theorem cnt_same (P : Nat → Bool) {T : Nat} : ∀ t, T ≤ t → cnt P t = cnt P T → ∀ x, T ≤ x → x < t → P x = false := by
  intro t ht hc x h1 h2
  cases h : P x
  · rfl
  · have a := cnt_mono P (m := T) x h1
    have b := cnt_mono P (m := x + 1) t (by omega)
    simp only [cnt, h, if_true] at b; omega

/-! ### Is it there? -/
theorem right_lt {rs : List Rn} (hr : Right rs) (hu : U16 rs) (j : Nat) : ∀ k, j < k → k < rs.length → fst rs j + mor rs j + 2 ≤ fst rs k
  | 0, h, _ => by omega
  | k + 1, h, hk => by
    have h1 := (hr (k + 1) hk).1
    simp only [lst] at h1
    by_cases e : j = k
    · subst e; exact h1
    · have := right_lt hr hu j k (by omega) (by omega)
      have := hu.at k
      omega
theorem fst_get {rs : List Rn} {k : Nat} (hk : k < rs.length) : (rs.map Prod.fst).getD k 0 = fst rs k := by
  simp [fst, List.getD, hk]
theorem fst_inc {rs : List Rn} (hr : Right rs) (hu : U16 rs) : Inc (rs.map Prod.fst) := by
  unfold Inc
  rw [List.pairwise_iff_getElem]
  intro i j hi hj hij
  rw [List.length_map] at hi hj
  have h1 := fst_get hi; have h2 := fst_get hj
  rw [getD_eq (by rw [List.length_map]; exact hi)] at h1
  rw [getD_eq (by rw [List.length_map]; exact hj)] at h2
  rw [h1, h2]
  have := right_lt hr hu i j hij hj
  have := hu.at i
  omega
theorem inR_iff (rs : List Rn) (i : Nat) : inR rs i = true ↔ ∃ k, k < rs.length ∧ fst rs k ≤ i ∧ (i : Int) ≤ fst rs k + mor rs k := by
  unfold inR
  rw [List.any_eq_true]
  constructor
  · rintro ⟨x, hx, h⟩
    obtain ⟨k, hk, rfl⟩ := List.getElem_of_mem hx
    have : rs.getD k (0, 0) = rs[k] := by simp [List.getD, hk]
    refine ⟨k, hk, ?_⟩
    unfold fst mor; rw [this]; simpa using h
  · rintro ⟨k, hk, h⟩
    have : rs.getD k (0, 0) = rs[k] := by simp [List.getD, hk]
    refine ⟨rs[k], List.getElem_mem hk, ?_⟩
    unfold fst mor at h; rw [this] at h; simpa using h
def hasR (rs : List Rn) (x : Int) : Bool := foundS (rs.map Prod.fst) x || (decide (0 < bsS (rs.map Prod.fst) x) && decide (x < fst rs (bsS (rs.map Prod.fst) x - 1) + mor rs (bsS (rs.map Prod.fst) x - 1) + 1))
theorem has_eq {rs : List Rn} (hr : Right rs) (hu : U16 rs) (x : Nat) : hasR rs x = inR rs x := by
  have hi := fst_inc hr hu
  obtain ⟨g1, g2⟩ := bsS_spec (x : Int) hi
  have g3 := bsS_le (rs.map Prod.fst) (x : Int)
  rw [List.length_map] at g2 g3
  have hf := found_iff (x : Int) hi
  unfold hasR
  obtain ⟨i, hid⟩ : ∃ i, i = bsS (rs.map Prod.fst) (x : Int) := ⟨_, rfl⟩
  rw [← hid] at g1 g2 g3 ⊢
  rw [hf, Bool.eq_iff_iff, inR_iff, Bool.or_eq_true, Bool.and_eq_true, decide_eq_true_eq, decide_eq_true_eq, decide_eq_true_eq]
  constructor
  · rintro (h | ⟨h1, h2⟩)
    · rw [List.mem_map] at h
      obtain ⟨y, hy, he⟩ := h
      obtain ⟨k, hk, rfl⟩ := List.getElem_of_mem hy
      have e1 : rs.getD k (0, 0) = rs[k] := by simp [List.getD, hk]
      have e2 : fst rs k = x := by unfold fst; rw [e1]; exact he
      have := hu.at k
      exact ⟨k, hk, by omega, by omega⟩
    · have a := g1 (i - 1) (by omega)
      rw [fst_get (by omega)] at a
      exact ⟨i - 1, by omega, by omega, by omega⟩
  · rintro ⟨k, hk, h1, h2⟩
    rcases Nat.lt_or_ge k i with h3 | h3
    · right
      by_cases e : k = i - 1
      · subst e; exact ⟨by omega, by omega⟩
      · have a := right_lt hr hu k (i - 1) (by omega) (by omega)
        have b := g1 (i - 1) (by omega)
        rw [fst_get (by omega)] at b
        omega
    · left
      have a := g2 k h3 hk
      rw [fst_get hk] at a
      rw [List.mem_map]
      have e1 : rs.getD k (0, 0) = rs[k] := by simp [List.getD, hk]
      refine ⟨rs[k], List.getElem_mem hk, ?_⟩
      have : fst rs k = x := by omega
      unfold fst at this; rw [e1] at this; exact this
end Go.LA
