import Derived.Test.YtfcioiobhpcngaaGreatDoorM4
section
set_option linter.unusedSimpArgs false
set_option linter.unusedVariables false
namespace Go.LA
open Go.RowKit Go.ArrP
def Lw (ws : List Int) : Prop := ∀ x ∈ ws, 0 ≤ x ∧ x < 18446744073709551616
def wd (ws : List Int) (i : Nat) : Nat := (ws.getD i 0).toNat
def wbit (ws : List Int) (i : Nat) : Bool := (wd ws (i / 64)).testBit (i % 64)
theorem Lw.at {ws : List Int} (h : Lw ws) (i : Nat) : ws.getD i 0 = ((wd ws i : Nat) : Int) ∧ wd ws i < 18446744073709551616 := by
  unfold wd
  by_cases hi : i < ws.length
  · have := h _ (List.getElem_mem hi)
    rw [getD_eq hi]; omega
  · rw [List.getD, List.getElem?_eq_none (by omega)]; decide
theorem wd_none {ws : List Int} {i : Nat} (h : ws.length ≤ i) : wd ws i = 0 := by
  unfold wd; rw [List.getD, List.getElem?_eq_none h]; rfl
theorem wbit_none {ws : List Int} {i : Nat} (h : 64 * ws.length ≤ i) : wbit ws i = false := by
  unfold wbit; rw [wd_none (by omega)]; simp
theorem cnt_word (ws : List Int) (k : Nat) : cnt (wbit ws) (64 * (k + 1)) = cnt (wbit ws) (64 * k) + pop64 (wd ws k) := by
  rw [show 64 * (k + 1) = 64 * k + 64 by omega, cnt_shift]
  congr 1
  unfold pop64
  refine cnt_congr 64 fun i hi => ?_
  unfold wbit
  rw [show (64 * k + i) / 64 = k by omega, show (64 * k + i) % 64 = i by omega]
theorem testBit_or_pow (a j i : Nat) : (a ||| 2 ^ j).testBit i = (a.testBit i || decide (i = j)) := by
  rw [Nat.testBit_or, Nat.testBit_two_pow]
  congr 1
  rw [decide_eq_decide]; exact ⟨fun h => h.symm, fun h => h.symm⟩
theorem wd_set {ws : List Int} {i : Nat} (hi : i < ws.length) (v : Nat) (j : Nat) : wd (ws.set i (v : Int)) j = if j = i then v else wd ws j := by
  unfold wd
  by_cases e : j = i
  · subst e; rw [if_pos rfl]; simp [List.getD, List.getElem?_set, hi]
  · rw [if_neg e]; simp [List.getD, List.getElem?_set, show ¬ i = j from fun h => e h.symm]
theorem Lw.set {ws : List Int} (h : Lw ws) (i : Nat) {v : Nat} (hv : v < 18446744073709551616) : Lw (ws.set i (v : Int)) := fun x hx => by
  rcases List.mem_or_eq_of_mem_set hx with h1 | h1
  · exact h x h1
  · omega
theorem wbit_or {ws : List Int} {x : Nat} (hx : x / 64 < ws.length) (i : Nat) : wbit (ws.set (x / 64) ((wd ws (x / 64) ||| 2 ^ (x % 64) : Nat) : Int)) i = (wbit ws i || decide (i = x)) := by
  unfold wbit
  rw [wd_set hx]
  by_cases e : i / 64 = x / 64
  · rw [if_pos e, testBit_or_pow, e]
    congr 1
    rw [decide_eq_decide]; omega
  · rw [if_neg e, decide_eq_false (by omega), Bool.or_false]
theorem wbit_zero (n i : Nat) : wbit (List.replicate n 0) i = false := by
  unfold wbit wd
  have : (List.replicate n (0 : Int)).getD (i / 64) 0 = 0 := by
    by_cases h : i / 64 < n
    · simp [List.getD, List.getElem?_replicate, h]
    · simp [List.getD, List.getElem?_replicate, h]
  rw [this]; simp
theorem Lw_zero (n : Nat) : Lw (List.replicate n 0) := fun x hx => by
  rw [List.eq_of_mem_replicate hx]; decide
theorem words_ext {a b : List Int} (ha : Lw a) (hb : Lw b) (hl : a.length = b.length) (h : ∀ i, i < 64 * a.length → wbit a i = wbit b i) : a = b := by
  refine List.ext_getElem hl fun k h1 h2 => ?_
  have e1 := (ha.at k).1; have e2 := (hb.at k).1
  rw [getD_eq h1] at e1; rw [getD_eq h2] at e2
  rw [e1, e2]
  congr 1
  apply Nat.eq_of_testBit_eq
  intro i
  by_cases hi : i < 64
  · have := h (64 * k + i) (by omega)
    unfold wbit at this
    rwa [show (64 * k + i) / 64 = k by omega, show (64 * k + i) % 64 = i by omega] at this
  · rw [Nat.testBit_lt_two_pow (Nat.lt_of_lt_of_le (ha.at k).2 (Nat.pow_le_pow_right (n := 2) (by decide) (by omega : 64 ≤ i))), Nat.testBit_lt_two_pow (Nat.lt_of_lt_of_le (hb.at k).2 (Nat.pow_le_pow_right (n := 2) (by decide) (by omega : 64 ≤ i)))]
def packN (p : Nat → Bool) (k : Nat) : Nat → Nat
  | 0 => 0
  | j + 1 => packN p k j ||| (if p (64 * k + j) then 2 ^ j else 0)
theorem packN_bit (p : Nat → Bool) (k i : Nat) : ∀ j, (packN p k j).testBit i = (decide (i < j) && p (64 * k + i))
  | 0 => by simp [packN]
  | j + 1 => by
    rw [packN, Nat.testBit_or, packN_bit p k i j]
    by_cases e : i = j
    · subst e
      cases h : p (64 * k + i) <;> simp [h, Nat.testBit_two_pow]
    · have h1 : (if p (64 * k + j) = true then 2 ^ j else 0).testBit i = false := by
        split
        · rw [Nat.testBit_two_pow]; simpa using fun h => e h.symm
        · simp
      rw [h1, Bool.or_false, show decide (i < j + 1) = decide (i < j) by rw [decide_eq_decide]; omega]
theorem packN_lt (p : Nat → Bool) (k : Nat) : ∀ j, packN p k j < 2 ^ j
  | 0 => by simp [packN]
  | j + 1 => by
    rw [packN]
    have ih := packN_lt p k j
    have h2 : 2 ^ j < 2 ^ (j + 1) := Nat.pow_lt_pow_right (by decide) (by omega)
    refine Nat.or_lt_two_pow (by omega) ?_
    split
    · exact h2
    · exact Nat.pow_pos (by decide)
def wordsOf (p : Nat → Bool) : List Int := (List.range 1024).map (fun k => ((packN p k 64 : Nat) : Int))
theorem wordsOf_len (p : Nat → Bool) : (wordsOf p).length = 1024 := by rw [wordsOf, List.length_map, List.length_range]
theorem wordsOf_lw (p : Nat → Bool) : Lw (wordsOf p) := fun x hx => by
  rw [wordsOf, List.mem_map] at hx
  obtain ⟨k, _, rfl⟩ := hx
  have := packN_lt p k 64
  omega
theorem wordsOf_bit (p : Nat → Bool) {i : Nat} (hi : i < 65536) : wbit (wordsOf p) i = p i := by
  unfold wbit wd
  have h1 : (wordsOf p).getD (i / 64) 0 = ((packN p (i / 64) 64 : Nat) : Int) := by
    rw [List.getD, wordsOf, List.getElem?_map, List.getElem?_range (by omega)]; rfl
  rw [h1, Int.toNat_natCast, packN_bit, decide_eq_true (by omega), Bool.true_and, show 64 * (i / 64) + i % 64 = i by omega]
theorem words_of {ws : List Int} (h : Lw ws) (hl : ws.length = 1024) : ws = wordsOf (wbit ws) :=
  words_ext h (wordsOf_lw _) (by rw [hl, wordsOf_len]) (fun i hi => by rw [wordsOf_bit _ (by omega)])
theorem wordsOf_congr {p q : Nat → Bool} (h : ∀ i, i < 65536 → p i = q i) : wordsOf p = wordsOf q :=
  words_ext (wordsOf_lw _) (wordsOf_lw _) (by rw [wordsOf_len, wordsOf_len]) (fun i hi => by
    rw [wordsOf_len] at hi
    rw [wordsOf_bit p (by omega), wordsOf_bit q (by omega), h i (by omega)])
theorem low_split {x : Nat} (h0 : x ≠ 0) (hx : x < 18446744073709551616) : ∃ m, x = 2 ^ (Lib.ctz 64 x + 1) * m + 2 ^ Lib.ctz 64 x ∧ Lib.ctz 64 x < 64 := by
  obtain ⟨m, hm, hk⟩ := Lib.ctzFrom_spec 64 x (by omega) hx
  have e : Lib.ctz 64 x = Lib.ctzFrom 64 x := by simp [Lib.ctz, h0]
  rw [e]
  refine ⟨m, ?_, hk⟩
  rw [Nat.pow_succ]
  conv => lhs; rw [hm]
  rw [Nat.mul_add, Nat.mul_one, Nat.mul_assoc]
theorem low_bit {x : Nat} (h0 : x ≠ 0) (hx : x < 18446744073709551616) (j : Nat) : (x.testBit (Lib.ctz 64 x) = true ∧ (j < Lib.ctz 64 x → x.testBit j = false)) ∧ (x &&& (x - 1)).testBit j = (x.testBit j && decide (j ≠ Lib.ctz 64 x)) := by
  obtain ⟨m, hm, hk⟩ := low_split h0 hx
  obtain ⟨c, hc⟩ : ∃ c, c = Lib.ctz 64 x := ⟨_, rfl⟩
  rw [← hc] at hm hk ⊢
  have hp : 0 < 2 ^ c := Nat.pow_pos (by decide)
  have hlt : 2 ^ c < 2 ^ (c + 1) := Nat.pow_lt_pow_right (by decide) (by omega)
  have hx1 : x - 1 = 2 ^ (c + 1) * m + (2 ^ c - 1) := by omega
  have tb : ∀ j, x.testBit j = if j < c + 1 then decide (j = c) else m.testBit (j - (c + 1)) := fun j => by
    rw [hm, Nat.testBit_two_pow_mul_add _ hlt, Nat.testBit_two_pow]
    split
    · rw [decide_eq_decide]; exact ⟨fun h => h.symm, fun h => h.symm⟩
    · rfl
  have tb1 : ∀ j, (x - 1).testBit j = if j < c + 1 then decide (j < c) else m.testBit (j - (c + 1)) := fun j => by
    rw [hx1, Nat.testBit_two_pow_mul_add _ (by omega), Nat.testBit_two_pow_sub_one]
  refine ⟨⟨by rw [tb]; simp, fun h => by rw [tb, if_pos (by omega), decide_eq_false (by omega)]⟩, ?_⟩
  rw [Nat.testBit_and, tb, tb1]
  by_cases h : j < c + 1
  · rw [if_pos h, if_pos h]
    by_cases e : j = c
    · subst e; simp
    · rw [decide_eq_false e]; simp
  · rw [if_neg h, if_neg h, decide_eq_true (by omega)]; simp
theorem listS_skip (p : Nat → Bool) {a : Nat} : ∀ b, a ≤ b → (∀ i, a ≤ i → i < b → p i = false) → listS p b = listS p a
  | 0, h, _ => by obtain rfl : a = 0 := by omega
                  rfl
  | b + 1, h, hf => by
    rcases Nat.lt_or_ge b a with h1 | h1
    · obtain rfl : a = b + 1 := by omega
      rfl
    · rw [listS, listS_skip p b h1 (fun i g1 g2 => hf i g1 (by omega)), hf b h1 (by omega)]; simp
theorem wd_take {ws : List Int} {q k : Nat} (h : k < q) : wd (ws.take q) k = wd ws k := by
  unfold wd; simp [List.getD, List.getElem?_take, h]
theorem wbit_take {ws : List Int} {q i : Nat} (h : i < 64 * q) : wbit (ws.take q) i = wbit ws i := by
  unfold wbit; rw [wd_take (by omega)]
theorem Lw.take {ws : List Int} (h : Lw ws) (q : Nat) : Lw (ws.take q) := fun x hx => h x (List.mem_of_mem_take hx)
theorem pop_shl (x m : Nat) (hm : m ≤ 64) : pop64 (x * 2 ^ (64 - m) % 18446744073709551616) = cnt (fun i => x.testBit i) m := by
  unfold pop64
  have hb : ∀ i, i < 64 → (x * 2 ^ (64 - m) % 18446744073709551616).testBit i = (decide (64 - m ≤ i) && x.testBit (i - (64 - m))) := fun i hi => by
    rw [show (18446744073709551616 : Nat) = 2 ^ 64 by rfl, Nat.testBit_mod_two_pow, decide_eq_true hi, Bool.true_and, Nat.mul_comm, Nat.testBit_two_pow_mul]
  rw [cnt_congr 64 hb, show cnt (fun i => decide (64 - m ≤ i) && x.testBit (i - (64 - m))) 64 = cnt (fun i => decide (64 - m ≤ i) && x.testBit (i - (64 - m))) ((64 - m) + m) by rw [show 64 - m + m = 64 by omega], cnt_shift, cnt_zero (64 - m) (fun i hi => by simp; omega), Nat.zero_add]
  exact cnt_congr m fun i hi => by simp
theorem cnt_part (ws : List Int) (q m : Nat) (hm : m ≤ 64) : cnt (wbit ws) (64 * q + m) = cnt (wbit ws) (64 * q) + cnt (fun i => (wd ws q).testBit i) m := by
  rw [cnt_shift]
  congr 1
  refine cnt_congr m fun i hi => ?_
  unfold wbit
  rw [show (64 * q + i) / 64 = q by omega, show (64 * q + i) % 64 = i by omega]
theorem wbit_setw {ws : List Int} {k : Nat} (hk : k < ws.length) (v j : Nat) : wbit (ws.set k (v : Int)) j = if j / 64 = k then v.testBit (j % 64) else wbit ws j := by
  unfold wbit; rw [wd_set hk]; split <;> rfl
theorem mask_bit (d s i : Nat) (hd : d + s ≤ 64) : (18446744073709551615 / 2 ^ (64 - d) * 2 ^ s % 18446744073709551616).testBit i = (decide (s ≤ i) && decide (i < s + d)) := by
  rw [show (18446744073709551616 : Nat) = 2 ^ 64 by rfl, Nat.testBit_mod_two_pow, Nat.mul_comm, Nat.testBit_two_pow_mul, ← Nat.shiftRight_eq_div_pow, Nat.testBit_shiftRight, show (18446744073709551615 : Nat) = 2 ^ 64 - 1 by rfl, Nat.testBit_two_pow_sub_one]
  by_cases h1 : s ≤ i
  · rw [decide_eq_true h1, Bool.true_and, Bool.true_and]
    by_cases h2 : i < s + d
    · rw [decide_eq_true h2, decide_eq_true (by omega), decide_eq_true (by omega)]; rfl
    · rw [decide_eq_false h2, decide_eq_false (by omega : ¬ 64 - d + (i - s) < 64), Bool.and_false]
  · rw [decide_eq_false h1]; simp
end Go.LA
end
