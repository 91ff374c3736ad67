import Derived.WalkKit
import Derived.Test.YtadpcgjohleglaaGreatDoorM15
import Derived.Test.YtadpcgjohleglaaGreatDoorM18
import Derived.Test.YtadpcgjohleglaaGreatDoorM21
import Derived.Test.YtadpcgjohleglaaGreatDoorM22
section
set_option linter.unusedSimpArgs false
set_option linter.unusedVariables false
namespace Go.LA
open Go.RowKit
section
variable {P : Program} {l : List Oper} {N : Nn} {wb : World} {K : List Oper → Env → Prop} {rest : List Oper} {E : Env} {Q : Exit → Act → World → Prop}
variable {d : Tmp} {ty t t' : TypeId} {pos : String} {after : Array Edge} {g : Option (Nat × Bool)} {x y z : Operand} {k k' : IntKind}
theorem c0A {cs : List Value} {j : Nat} (h : j < cs.length) : (cs.drop (j * 1)).take 1 = [cs.getD j undef] := by
  rw [Nat.mul_one, List.drop_eq_getElem_cons h, List.take_succ_cons, List.take_zero, List.getD_eq_getElem?_getD, List.getElem?_eq_getElem h]; rfl
theorem a2A {n : Nat} {cs : List Value} {i : Int} (hg : gdec l E g = some true) (e : TypeId) (ht : P.underlying t = some (.slice e)) (hs : ∀ w, (sizeOf e).run P w = .ok 1 w)
    {r : AD} (hr : opE E x = r) (hx : HasC wb r n 1 cs) (hi : opE E y = .val (.int k i)) (j : Nat) (hj : i = j) (hn : j < n) (hl : cs.length = n)
    (h : LA P l wb K rest ((d, .pred (ptrC [cs.getD j undef])) :: E)) : LA P l wb K (⟨some d, .indexAddr t x y, ty, pos, after, g⟩ :: rest) E := by
  refine LA_indexC hg e ht hs hr hx hi j hj hn ?_
  rw [c0A (by omega)]; exact h
theorem blA {z : Value} (hz : z.cells = #[z]) (n : Nat) : (madeCells z.cells (n * 1)).toList = List.replicate n z := by
  refine List.ext_getElem (by simp [madeCells]) fun i h1 h2 => ?_
  simp [madeCells, hz, Nat.mod_one]
theorem bfA {e : TypeId} {b n : Nat} {zv : Value} {kl kc : IntKind} (hg : gdec l E g = some true) (hel : El P t e zv 1 b) (hz : zv.cells = #[zv]) (hx : opE E x = .val (.int kl (n : Int))) (hy : opE E y = .val (.int kc (n : Int))) (hb : b * n ≤ 281474976710656) (hn : n ≤ 9223372036854775807)
    (h : LA P l wb K rest ((d, .pred (ownC wb.heap.size e 1 n (List.replicate n zv))) :: E)) : LA P l wb K (⟨some d, .makeSlice t x y, ty, pos, after, g⟩ :: rest) E :=
  LA_of (.pred (ownC wb.heap.size e 1 n (List.replicate n zv))) hg (fun a w he hh => by
    have e1 := hh x (by simp [Op.operands]); have e2 := hh y (by simp [Op.operands])
    rw [hx] at e1; rw [hy] at e2; simp only [AD.ok] at e1 e2
    obtain ⟨i, hi1, hi2, hi3, hi4⟩ := hel.parts
    obtain ⟨w', g1, g2, g3⟩ := run_make_full (P := P) w wb.heap.size t e i _ 1 hel.ht hi1 hi2 hi3 kl kc n (by rw [hi4]; exact hb) (by unfold maxLen; omega) he.size
    rw [blA hz] at g2
    simp only [execOp, Sem.run_bind, e1, e2, g1, Result.andThen_ok, Sem.run_pure]
    exact ⟨ext_none g3, g2⟩) h
def oneP (base e : Nat) (φ : AV) : AV := ⟨fun v w => ∃ u, φ.p u w ∧ u.cells = #[u] ∧ u.oneCell' = true ∧ Own base e 1 w v 1 [u], fun _ _ _ x ⟨u, h1, h2, h3, h4⟩ => ⟨u, φ.mono _ _ _ x h1, h2, h3, h4.ext x⟩⟩
theorem caA {zv : Value} {b base : Nat} {e : TypeId} {φ : AV} (hbase : base ≤ wb.heap.size) (hg : gdec l E g = some true) (hel : El P t e zv 1 b) (hx : opE E x = .pred φ) (hφ : ∀ u w, φ.p u w → u.cells = #[u] ∧ u.oneCell' = true) (h : LA P l wb K rest ((d, .pred (oneP base e φ)) :: E)) :
    LA P l wb K (⟨some d, .buildSlice t 1 #[(0, x)], ty, pos, after, g⟩ :: rest) E := by
  refine LA_of (.pred (oneP base e φ)) hg (fun a w he hh => ?_) h
  have h1 := hh x (by simp [Op.operands])
  rw [hx] at h1
  generalize hc : a.eval x = c at h1
  obtain ⟨h2, h3⟩ := hφ _ _ h1
  have hrun : (Instr.buildSlice t 1 #[(0, c)]).run P w = .ok (.slice (some ⟨w.heap.size, 0, none⟩) 1 1) (w.alloc (.cells #[c] e)) := by
    simp only [Instr.buildSlice, Sem.run_bind, run_underlying hel.ht, Result.andThen_ok, hel.sizeOf, Nat.reduceMul, Nat.reducePow, gt_iff_lt, Nat.reduceLT, if_false, Sem.run_pure, Nat.reduceEqDiff, hel.zero, fill_one h2 hel.zs]
    rfl
  simp only [execOp, List.map_toArray, List.map_cons, List.map_nil, hc, Sem.run_bind, hrun, Result.andThen_ok, Sem.run_pure]
  exact ⟨Ext.alloc _ _, c, φ.mono _ _ _ (Ext.alloc _ _) h1, h2, h3, by simp, .inr ⟨w.heap.size, 1, #[c], rfl, Nat.le_trans hbase he.size, heap_alloc_new w _, Nat.le_refl _, by decide, rfl, rfl⟩⟩
end
theorem Own.rowV {base e n : Nat} {w : World} {v : Value} {cs : List Value} (h : Own base e 1 w v n cs) (hp : 0 < n) :
    ∃ b cap cur, v = .slice (some ⟨b, 0, none⟩) n cap ∧ base ≤ b ∧ w.heap[b]? = some (.cells cur e (0, 0)) ∧ n ≤ cap ∧ cap ≤ maxLen ∧ cur.size = cap ∧ cur.toList.take n = cs := by
  rcases h.2 with ⟨h1, h0⟩ | ⟨b, cap, cur, h1, h2, h3, h4, h5, h6, h7⟩
  · omega
  · exact ⟨b, cap, cur, h1, h2, h3, h4, h5, by omega, by rw [Nat.mul_one] at h7; exact h7⟩
theorem Own.setV {base e b cap n : Nat} {w : World} {cur : Array Value} {cs : List Value} (hb : base ≤ b) (hg : w.heap[b]? = some (.cells cur e (0, 0))) (hnc : n ≤ cap) (hm : cap ≤ maxLen) (hsz : cur.size = cap) (ht : cur.toList.take n = cs) (i : Nat) (hi : i < n) (c : Value) :
    Own base e 1 (w.setRow b (cur.setIfInBounds i c)) (.slice (some ⟨b, 0, none⟩) n cap) n (cs.set i c) := by
  have hl : cs.length = n := by rw [← ht, List.length_take, Array.length_toList]; omega
  refine ⟨by rw [List.length_set]; omega, .inr ⟨b, cap, _, rfl, hb, setRow_heap w b _ _ _ _ hg, hnc, hm, by simp [hsz], ?_⟩⟩
  rw [Nat.mul_one, Array.toList_setIfInBounds, List.take_set, ht]
theorem Own.lenV {base e n : Nat} {w : World} {v : Value} {cs : List Value} (h : Own base e 1 w v n cs) : cs.length = n := by have := h.1; omega
theorem getD_set {cs : List Value} {i j : Nat} {c : Value} (hi : i < cs.length) : (cs.set i c).getD j undef = if j = i then c else cs.getD j undef := by
  simp only [List.getD_eq_getElem?_getD]
  by_cases e : j = i
  · subst e; rw [if_pos rfl, List.getElem?_set_self hi]; rfl
  · rw [if_neg e, List.getElem?_set_ne (fun h => e h.symm)]
theorem b1A {cs : List Value} {j n : Nat} {c : Value} (hl : cs.length = n) : (cs ++ [c]).getD j undef = if j < n then cs.getD j undef else if j = n then c else undef := by
  simp only [List.getD_eq_getElem?_getD]
  by_cases h1 : j < n
  · rw [if_pos h1, List.getElem?_append_left (by omega)]
  · rw [if_neg h1]
    by_cases h2 : j = n
    · rw [if_pos h2, List.getElem?_append_right (by omega), show j - cs.length = 0 by omega]; rfl
    · rw [if_neg h2, List.getElem?_append_right (by omega), List.getElem?_eq_none (by simp; omega)]; rfl
end Go.LA
end
section
set_option linter.unusedSimpArgs false
set_option linter.unusedVariables false
namespace Go.LA
open Go.RowKit Go.ArrP
def a1A (ids : List Int) (id : Nat) : Nat → List Int
  | 0 => []
  | n + 1 => a1A ids id n ++ if ids.getD n 0 = (id : Int) then [(n : Int)] else []
def idP (ids : List Int) (id : Int) (x : Nat) : Bool := decide (x < ids.length) && decide (ids.getD x 0 = id)
theorem abA (ids : List Int) (id : Nat) (z : Int) : ∀ n, z ∈ a1A ids id n ↔ ∃ x : Nat, x < n ∧ ids.getD x 0 = (id : Int) ∧ z = x
  | 0 => by simp [a1A]
  | n + 1 => by
    simp only [a1A, List.mem_append, abA ids id z n]
    constructor
    · rintro (⟨x, h1, h2, h3⟩ | h)
      · exact ⟨x, by omega, h2, h3⟩
      · split at h
        · rename_i e
          exact ⟨n, Nat.lt_succ_self n, e, List.mem_singleton.1 h⟩
        · cases h
    · rintro ⟨x, h1, h2, h3⟩
      by_cases e : x = n
      · subst e; right; rw [if_pos h2]; exact List.mem_singleton.2 h3
      · exact .inl ⟨x, by omega, h2, h3⟩
theorem a7A (ids : List Int) (id : Nat) : ∀ n, (a1A ids id n).length ≤ n
  | 0 => Nat.le_refl _
  | n + 1 => by
    have := a7A ids id n
    simp only [a1A, List.length_append]
    split <;> simp <;> omega
theorem azA (ids : List Int) (id : Nat) : memb (a1A ids id ids.length) = idP ids id := by
  funext x
  unfold memb idP
  rw [Bool.eq_iff_iff, decide_eq_true_iff, Bool.and_eq_true, decide_eq_true_iff, decide_eq_true_iff, abA]
  constructor
  · rintro ⟨y, h1, h2, h3⟩
    obtain rfl : x = y := by omega
    exact ⟨h1, h2⟩
  · rintro ⟨h1, h2⟩
    exact ⟨x, h1, h2, rfl⟩
theorem apA {ids : List Int} {id n : Nat} (h : ids.getD n 0 = (id : Int)) : a1A ids id (n + 1) = a1A ids id n ++ [(n : Int)] := by
  simp only [a1A, if_pos h]
theorem aiA {ids : List Int} {id n : Nat} (h : ids.getD n 0 ≠ (id : Int)) : a1A ids id (n + 1) = a1A ids id n := by
  simp only [a1A, if_neg h, List.append_nil]
def rowP (n : Nat) (ps : Nat → Nat → Bool) (id : Int) : Nat → Bool := if 0 ≤ id ∧ id < (n : Int) then ps id.toNat else fun _ => false
def amP (n : Nat) (ps : Nat → Nat → Bool) (ys : List Int) : Nat → Nat → Bool
  | 0 => fun _ => false
  | k + 1 => if 0 ≤ ys.getD k 0 ∧ ys.getD k 0 < (n : Int) then two (fun x y => x || y) (amP n ps ys k) (ps (ys.getD k 0).toNat) else amP n ps ys k
def sumP (ids : List Int) : Nat → Nat → Bool
  | 0 => fun _ => false
  | k + 1 => two (fun x y => x || y) (sumP ids k) (idP ids k)
def upP (n : Nat) (ps : Nat → Nat → Bool) (id : Int) : Nat → Bool := if 0 ≤ min id ((n : Int) - 1) then ps (min id ((n : Int) - 1)).toNat else fun _ => false
def btP (n : Nat) (ps : Nat → Nat → Bool) (lo hi : Int) : Nat → Bool := if hi ≤ lo then fun _ => false else two (fun x y => x && !y) (upP n ps (hi - 1)) (upP n ps (max lo 0 - 1))
theorem b8A {p q : Nat → Bool} {x : Nat} : two (fun x y => x || y) p q x = true ↔ p x = true ∨ q x = true := by show (p x || q x) = true ↔ _; rw [Bool.or_eq_true]
theorem two_and {p q : Nat → Bool} {x : Nat} : two (fun x y => x && y) p q x = true ↔ p x = true ∧ q x = true := by show (p x && q x) = true ↔ _; rw [Bool.and_eq_true]
theorem aqA {p q : Nat → Bool} {x : Nat} : two (fun x y => x && !y) p q x = true ↔ p x = true ∧ ¬ q x = true := by
  show (p x && !q x) = true ↔ _
  rw [Bool.and_eq_true, Bool.not_eq_true']
  cases q x <;> simp
theorem a5A {p q : Nat → Bool} (h : ∀ x, p x = true ↔ q x = true) : p = q := funext fun x => Bool.eq_iff_iff.2 (h x)
theorem idP_iff {ids : List Int} {id : Int} {x : Nat} : idP ids id x = true ↔ x < ids.length ∧ ids.getD x 0 = id := by
  unfold idP; rw [Bool.and_eq_true, decide_eq_true_iff, decide_eq_true_iff]
theorem bsA {n : Nat} {ps : Nat → Nat → Bool} {ys : List Int} {x : Nat} : ∀ k, amP n ps ys k x = true ↔ ∃ j, j < k ∧ 0 ≤ ys.getD j 0 ∧ ys.getD j 0 < (n : Int) ∧ ps (ys.getD j 0).toNat x = true
  | 0 => by simp [amP]
  | k + 1 => by
    have ih := bsA (n := n) (ps := ps) (ys := ys) (x := x) k
    simp only [amP]
    split
    · rename_i hc
      rw [b8A, ih]
      constructor
      · rintro (⟨j, h1, h2⟩ | h)
        · exact ⟨j, by omega, h2⟩
        · exact ⟨k, Nat.lt_succ_self k, hc.1, hc.2, h⟩
      · rintro ⟨j, h1, h2, h3, h4⟩
        by_cases e : j = k
        · subst e; exact .inr h4
        · exact .inl ⟨j, by omega, h2, h3, h4⟩
    · rename_i hc
      rw [ih]
      constructor
      · rintro ⟨j, h1, h2⟩; exact ⟨j, by omega, h2⟩
      · rintro ⟨j, h1, h2, h3, h4⟩
        by_cases e : j = k
        · subst e; exact absurd ⟨h2, h3⟩ hc
        · exact ⟨j, by omega, h2, h3, h4⟩
theorem arA {ids : List Int} {x : Nat} : ∀ k, sumP ids k x = true ↔ x < ids.length ∧ 0 ≤ ids.getD x 0 ∧ ids.getD x 0 < (k : Int)
  | 0 => by
    simp only [sumP]
    constructor
    · intro h; cases h
    · rintro ⟨_, h1, h2⟩; omega
  | k + 1 => by
    have ih := arA (ids := ids) (x := x) k
    simp only [sumP]
    rw [b8A, ih, idP_iff]
    constructor
    · rintro (h | h) <;> omega
    · rintro ⟨h1, h2, h3⟩
      by_cases e : ids.getD x 0 = (k : Int)
      · exact .inr ⟨h1, e⟩
      · exact .inl ⟨h1, h2, by omega⟩
def IdsIn (ids : List Int) (n : Nat) : Prop := ∀ x, x < ids.length → 0 ≤ ids.getD x 0 ∧ ids.getD x 0 < (n : Int)
theorem IdsIn.of {ids : List Int} {n : Nat} (h : ∀ x ∈ ids, 0 ≤ x ∧ x < (n : Int)) : IdsIn ids n := fun x hx => by
  rw [List.getD_eq_getElem?_getD, List.getElem?_eq_getElem hx]; exact h _ (List.getElem_mem hx)
theorem a0A {ids : List Int} {n : Nat} (h : IdsIn ids n) {id : Int} {x : Nat} : upP n (fun i => sumP ids (i + 1)) id x = true ↔ x < ids.length ∧ ids.getD x 0 ≤ id := by
  unfold upP
  constructor
  · intro hx
    split at hx
    · have := (arA _).1 hx; exact ⟨this.1, by omega⟩
    · cases hx
  · rintro ⟨h1, h2⟩
    have := h x h1
    rw [if_pos (by omega)]
    exact (arA _).2 ⟨h1, this.1, by omega⟩
theorem a8A {ids : List Int} {n : Nat} (h : IdsIn ids n) {lo hi : Int} {x : Nat} : btP n (fun i => sumP ids (i + 1)) lo hi x = true ↔ x < ids.length ∧ lo ≤ ids.getD x 0 ∧ ids.getD x 0 < hi := by
  unfold btP
  split
  · constructor
    · intro hx; cases hx
    · intro hx; omega
  · rw [aqA, a0A h, a0A h]
    constructor
    · rintro ⟨h1, h2⟩
      have := h x h1.1
      have h3 : ¬ ids.getD x 0 ≤ max lo 0 - 1 := fun h' => h2 ⟨h1.1, h'⟩
      exact ⟨h1.1, by omega, by omega⟩
    · rintro ⟨h1, h2, h3⟩
      have := h x h1
      exact ⟨⟨h1, by omega⟩, fun h' => by omega⟩
theorem adA {ids : List Int} {n id : Nat} (h : id < n) : rowP n (fun i => idP ids i) id = idP ids id := by
  unfold rowP; rw [if_pos ⟨Int.natCast_nonneg _, by omega⟩, Int.toNat_natCast]
theorem c9A {ids ys : List Int} {n : Nat} (h : IdsIn ids n) {x : Nat} : amP n (fun i => idP ids i) ys ys.length x = true ↔ x < ids.length ∧ ids.getD x 0 ∈ ys := by
  rw [bsA]
  constructor
  · rintro ⟨j, h1, h2, h3, h4⟩
    obtain ⟨h5, h6⟩ := idP_iff.1 h4
    refine ⟨h5, ?_⟩
    rw [h6, Int.toNat_of_nonneg h2, List.getD_eq_getElem?_getD, List.getElem?_eq_getElem h1]
    exact List.getElem_mem h1
  · rintro ⟨h1, h2⟩
    obtain ⟨j, hj, he⟩ := List.getElem_of_mem h2
    have hg : ys.getD j 0 = ids.getD x 0 := by rw [List.getD_eq_getElem?_getD, List.getElem?_eq_getElem hj]; exact he
    have := h x h1
    refine ⟨j, hj, by omega, by omega, idP_iff.2 ⟨h1, ?_⟩⟩
    rw [hg, Int.toNat_of_nonneg this.1]
theorem bpA {p : Nat → Bool} {m T : Nat} (h : ∀ x, p x = true ↔ x < m) (hT : m ≤ T) : cnt p T = m := by
  have : p = itv 0 m := a5A fun x => by rw [h, itv_iff]; omega
  rw [this, cnt_itv]; omega
theorem c5A {p : Nat → Bool} {T : Nat} (h : ∀ x, ¬ p x = true) : cnt p T = 0 := cnt_zero T fun i _ => by
  cases hp : p i
  · rfl
  · exact absurd hp (h i)
theorem b2A {p q : Nat → Bool} (h : ∀ x, p x = true → q x = true) : ∀ T, cnt p T ≤ cnt q T
  | 0 => Nat.le_refl _
  | T + 1 => by
    have ih := b2A h T
    simp only [cnt]
    by_cases hp : p T = true
    · rw [hp, h T hp]; simpa using ih
    · have : p T = false := by simpa using hp
      rw [this]; simp only [Bool.false_eq_true, if_false]; omega
end Go.LA
end
section
set_option linter.unusedSimpArgs false
set_option linter.unusedVariables false
namespace Go.SrtP
def stepS (many : Int) (es : List Int) (k : Nat) (id : Int) : Option (List Int) :=
  if id = es.length ∧ id < many then some (es ++ [(k : Int) + 1]) else if id = (es.length : Int) - 1 ∧ 0 ≤ id then some (es.set id.toNat ((k : Int) + 1)) else none
def asA (many : Int) (ids : List Int) : Nat → Option (List Int)
  | 0 => some []
  | k + 1 => (asA many ids k).bind fun es => stepS many es k (ids.getD k 0)
def ofS (ids : List Int) (many : Int) : Option (List Int) :=
  if many < 0 ∨ 16777216 < many ∨ 16777216 < (ids.length : Int) then none else (asA many ids ids.length).bind fun es => if (es.length : Int) = many then some es else none
theorem bjA {many : Int} {ids : List Int} {k : Nat} (h : asA many ids k = none) : ∀ m, k ≤ m → asA many ids m = none := by
  intro m hm
  induction m with
  | zero => obtain rfl : k = 0 := by omega
            exact h
  | succ m ih =>
    rcases Nat.lt_or_ge m k with h1 | h1
    · obtain rfl : k = m + 1 := by omega
      exact h
    · simp [asA, ih h1]
theorem baA {many : Int} {ids : List Int} : ∀ {k : Nat} {es : List Int}, asA many ids k = some es → es.length ≤ k ∧ (0 ≤ many → (es.length : Int) ≤ many)
  | 0, es, h => by simp [asA] at h; subst h; simp
  | k + 1, es, h => by
    simp only [asA, Option.bind_eq_some_iff] at h
    obtain ⟨es', h1, h2⟩ := h
    have ih := baA h1
    simp only [stepS] at h2
    split at h2
    · obtain rfl := Option.some.inj h2; simp; omega
    · split at h2
      · obtain rfl := Option.some.inj h2; simp; omega
      · cases h2
theorem atA {ids : List Int} {many : Int} {k : Nat} (hk : k ≤ ids.length) (h : asA many ids k = none) : ofS ids many = none := by
  simp [ofS, bjA h _ hk]
def beg (ends : List Int) (j : Nat) : Int := if j = 0 then 0 else ends.getD (j - 1) 0
theorem acA (ends : List Int) (j : Nat) : beg ends (j + 1) = ends.getD j 0 := by simp [beg]
theorem auA {es : List Int} {x : Int} {j : Nat} (h : j < es.length) : (es ++ [x]).getD j 0 = es.getD j 0 := by
  simp [List.getD, List.getElem?_append_left h]
theorem amA {es : List Int} {x : Int} : (es ++ [x]).getD es.length 0 = x := by simp [List.getD]
theorem getD_set_ne {es : List Int} {x : Int} {i j : Nat} (h : i ≠ j) : (es.set i x).getD j 0 = es.getD j 0 := by
  simp [List.getD, List.getElem?_set, h]
theorem aaA {es : List Int} {x : Int} {i : Nat} (h : i < es.length) : (es.set i x).getD i 0 = x := by
  simp [List.getD, List.getElem?_set, h]
structure Good (ids : List Int) (k : Nat) (es : List Int) : Prop where
  last : beg es es.length = k
  up : ∀ j, j < es.length → beg es j < es.getD j 0
  row : ∀ j, j < es.length → ∀ i : Nat, beg es j ≤ i → (i : Int) < es.getD j 0 → ids.getD i 0 = j
theorem bdA {many : Int} {ids : List Int} : ∀ {k : Nat} {es : List Int}, asA many ids k = some es → Good ids k es
  | 0, es, h => by simp [asA] at h; subst h; exact ⟨rfl, fun j hj => by simp at hj, fun j hj => by simp at hj⟩
  | k + 1, es, h => by
    simp only [asA, Option.bind_eq_some_iff] at h
    obtain ⟨es', h1, h2⟩ := h
    have ih := bdA h1
    simp only [stepS] at h2
    split at h2
    · rename_i hid
      obtain rfl := Option.some.inj h2
      have hb : ∀ j, j ≤ es'.length → beg (es' ++ [(k : Int) + 1]) j = beg es' j := fun j hj => by
        simp only [beg]; split
        · rfl
        · exact auA (by omega)
      refine ⟨?_, fun j hj => ?_, fun j hj i h3 h4 => ?_⟩
      · simp only [List.length_append, List.length_cons, List.length_nil, Nat.zero_add, acA, amA]; omega
      · simp only [List.length_append, List.length_cons, List.length_nil, Nat.zero_add] at hj
        rw [hb j (by omega)]
        rcases Nat.lt_or_ge j es'.length with hj' | hj'
        · rw [auA hj']; exact ih.up j hj'
        · obtain rfl : j = es'.length := by omega
          rw [amA, ih.last]; omega
      · simp only [List.length_append, List.length_cons, List.length_nil, Nat.zero_add] at hj
        rw [hb j (by omega)] at h3
        rcases Nat.lt_or_ge j es'.length with hj' | hj'
        · rw [auA hj'] at h4; exact ih.row j hj' i h3 h4
        · obtain rfl : j = es'.length := by omega
          rw [amA] at h4; rw [ih.last] at h3
          obtain rfl : i = k := by omega
          exact hid.1
    · split at h2
      · rename_i hid
        obtain rfl := Option.some.inj h2
        have e0 : (ids.getD k 0).toNat = es'.length - 1 := by omega
        have hp : 0 < es'.length := by omega
        rw [e0]
        have hb : ∀ j, j < es'.length → beg (es'.set (es'.length - 1) ((k : Int) + 1)) j = beg es' j := fun j hj => by
          simp only [beg]; split
          · rfl
          · exact getD_set_ne (by omega)
        have hl : es'.getD (es'.length - 1) 0 = k := by
          have := ih.last; simp only [beg] at this; rwa [if_neg (by omega)] at this
        have hu := ih.up (es'.length - 1) (by omega)
        rw [hl] at hu
        refine ⟨?_, fun j hj => ?_, fun j hj i h3 h4 => ?_⟩
        · simp only [List.length_set, beg]; rw [if_neg (by omega), aaA (by omega)]; omega
        · rw [List.length_set] at hj
          rw [hb j hj]
          rcases Nat.lt_or_ge j (es'.length - 1) with hj' | hj'
          · rw [getD_set_ne (by omega)]; exact ih.up j hj
          · obtain rfl : j = es'.length - 1 := by omega
            rw [aaA (by omega)]; omega
        · rw [List.length_set] at hj
          rw [hb j hj] at h3
          rcases Nat.lt_or_ge j (es'.length - 1) with hj' | hj'
          · rw [getD_set_ne (by omega)] at h4; exact ih.row j hj i h3 h4
          · obtain rfl : j = es'.length - 1 := by omega
            rw [aaA (by omega)] at h4
            rcases Int.lt_or_le i k with h5 | h5
            · exact ih.row _ hj i h3 (by rw [hl]; exact h5)
            · obtain rfl : i = k := by omega
              omega
      · cases h2
theorem bvA {ids : List Int} {many : Int} {es : List Int} (h : ofS ids many = some es) : Good ids ids.length es ∧ (es.length : Int) = many ∧ 0 ≤ many ∧ many ≤ 16777216 ∧ ids.length ≤ 16777216 ∧ asA many ids ids.length = some es := by
  simp only [ofS] at h
  split at h
  · cases h
  · rename_i hn
    simp only [Option.bind_eq_some_iff] at h
    obtain ⟨es', h1, h2⟩ := h
    split at h2
    · rename_i hl
      obtain rfl := Option.some.inj h2
      exact ⟨bdA h1, hl, by omega, by omega, by omega, h1⟩
    · cases h2
theorem Good.beg_nonneg {ids : List Int} {k : Nat} {es : List Int} (h : Good ids k es) : ∀ j, j ≤ es.length → 0 ≤ beg es j
  | 0, _ => by simp [beg]
  | j + 1, hj => by rw [acA]; have := h.up j (by omega); have := h.beg_nonneg j (by omega); omega
theorem Good.mono {ids : List Int} {k : Nat} {es : List Int} (h : Good ids k es) : ∀ j i, i ≤ j → j ≤ es.length → beg es i ≤ beg es j
  | 0, i, h1, _ => by obtain rfl : i = 0 := by omega
                      exact Int.le_refl _
  | j + 1, i, h1, hj => by
    rcases Nat.lt_or_ge j i with h2 | h2
    · obtain rfl : i = j + 1 := by omega
      exact Int.le_refl _
    · have := h.mono j i h2 (by omega); have := h.up j (by omega); rw [acA]; omega
theorem Good.le {ids : List Int} {k : Nat} {es : List Int} (h : Good ids k es) {j : Nat} (hj : j < es.length) : es.getD j 0 ≤ k := by
  rw [← acA, ← h.last]; exact h.mono _ _ (by omega) (Nat.le_refl _)
end Go.SrtP
end
section
set_option linter.unusedSimpArgs false
set_option linter.unusedVariables false
namespace Go.LA
open Go.RowKit Go.ArrP Go.SrtP
theorem b6A {ids es : List Int} {k : Nat} (h : Go.SrtP.Good ids k es) : ∀ (m : Nat), m ≤ es.length → ∀ x : Nat, (x : Int) < beg es m → ∃ j, j < m ∧ beg es j ≤ x ∧ (x : Int) < es.getD j 0
  | 0, _, x, hx => by simp only [beg, if_pos] at hx; omega
  | m + 1, hm, x, hx => by
    rw [acA] at hx
    by_cases h1 : (x : Int) < beg es m
    · obtain ⟨j, h2, h3⟩ := b6A h m (by omega) x h1
      exact ⟨j, by omega, h3⟩
    · exact ⟨m, Nat.lt_succ_self m, by omega, hx⟩
theorem bxA {ids es : List Int} (h : Go.SrtP.Good ids ids.length es) : IdsIn ids es.length := fun x hx => by
  obtain ⟨j, h1, h2, h3⟩ := b6A h es.length (Nat.le_refl _) x (by rw [h.last]; omega)
  rw [h.row j h1 x h2 h3]; omega
theorem bwA {ids es : List Int} (h : Go.SrtP.Good ids ids.length es) {id a b : Nat} (hid : id < es.length) (ha : beg es id = a) (hb : es.getD id 0 = b) : itv a b = idP ids id := a5A fun x => by
  rw [itv_iff, idP_iff]
  have hle := h.le hid
  constructor
  · rintro ⟨h1, h2⟩
    exact ⟨by omega, h.row id hid x (by omega) (by omega)⟩
  · rintro ⟨h1, h2⟩
    obtain ⟨j, h3, h4, h5⟩ := b6A h es.length (Nat.le_refl _) x (by rw [h.last]; omega)
    have h6 := h.row j h3 x h4 h5
    obtain rfl : j = id := by omega
    omega
end Go.LA
end
section
set_option linter.unusedSimpArgs false
set_option linter.unusedVariables false
set_option maxRecDepth 3000
namespace Go.Proofs.YtadpcgjohleglaaGreatDoor
open Go.LA Go.ArrP Go.RowKit
abbrev tPs : Nat := 33
abbrev tRw : Nat := 68
abbrev tU3 : Nat := 51
theorem bzA : El Tryz.prog 52 tPs (.pointer none) 1 8 := ⟨rfl, rfl, rfl, by decide⟩
theorem ceA : El Tryz.prog 67 tRw (.slice none 0 0) 1 24 := ⟨rfl, rfl, rfl, by decide⟩
theorem byA : El Tryz.prog 68 tU3 (.int .u32 0) 1 4 := ⟨rfl, rfl, rfl, by decide⟩
def OffT (e : Nat) : Prop := e ≠ tS ∧ e ≠ tK ∧ e ≠ tC ∧ 36 ≠ e ∧ 114 ≠ e
theorem RSet.off {R : Nat → Prop} {w w' : World} {v : Value} {p : Nat → Bool} (h : RSet TT TT w v p) (hf : Fr R w w') (hR : ∀ k, R k → ∃ cur e, w.heap[k]? = some (.cells cur e (0, 0)) ∧ OffT e) : RSet TT TT w' v p := by
  obtain ⟨b, kv, lv, rfl, hS, hB⟩ := h
  refine ⟨b, kv, lv, rfl, hS.fr hf (fun k hk => ?_) (fun k ho hk => ?_), hB⟩
  · obtain ⟨cur, e, h1, h2⟩ := hR k hk
    exact ⟨cur, e, _, h1, h2.2.2.2.1, h2.2.2.2.2, fun _ h => h2.2.1 h.symm⟩
  · obtain ⟨cur, e, h1, h2⟩ := hR k hk
    obtain ⟨Q, q1, q2, q3⟩ := hS.hl
    rcases ho with rfl | ho | ho
    · have h3 := hS.hb; rw [h1] at h3; cases h3; exact h2.1 rfl
    · obtain ⟨cur', h3⟩ := own_type hS.hk ho
      rw [h1] at h3; cases h3; exact h2.2.1 rfl
    · obtain ⟨cur', h3⟩ := own_type q2 ho
      rw [h1] at h3; cases h3; exact h2.2.2.1 rfl
theorem c1A {B A : Nat → Prop} {p : Nat → Bool} (u : Value) (w : World) (h : (rsP B A p).p u w) : u.cells = #[u] ∧ u.oneCell' = true := by
  obtain ⟨b, kv, lv, rfl, -⟩ := h
  exact ⟨rfl, rfl⟩
structure Sets (w : World) (base : Nat) (sv : Value) (ptrs : List Value) (n : Nat) (ps : Nat → Nat → Bool) : Prop where
  own : Own base tPs 1 w sv n ptrs
  at_ : ∀ i, i < n → RSet TT TT w (ptrs.getD i undef) (ps i)
theorem Sets.ext {w w' : World} {base : Nat} {sv : Value} {ptrs : List Value} {n : Nat} {ps : Nat → Nat → Bool} (h : Sets w base sv ptrs n ps) (e : Ext w w') : Sets w' base sv ptrs n ps := ⟨h.own.ext e, fun i hi => (h.at_ i hi).ext e⟩
def IX (t : Nat) (n : Nat) (ps : Nat → Nat → Bool) (w : World) (v : Value) : Prop := ∃ b sv ptrs, v = .pointer (some ⟨b, 0, none⟩) ∧ w.heap[b]? = some (.cells #[sv] t (0, 0)) ∧ Sets w 0 sv ptrs n ps
theorem IX.ext {t n : Nat} {ps : Nat → Nat → Bool} {w w' : World} {v : Value} (h : IX t n ps w v) (e : Ext w w') : IX t n ps w' v := by
  obtain ⟨b, sv, ptrs, h1, h2, h3⟩ := h
  exact ⟨b, sv, ptrs, h1, e.block h2, h3.ext e⟩
def ixP (t n : Nat) (ps : Nat → Nat → Bool) : AV := ⟨fun v w => IX t n ps w v, fun _ _ _ e h => h.ext e⟩
structure RowsV (w : World) (base : Nat) (v : Value) (vs : List Value) (n : Nat) (xs : Nat → List Int) : Prop where
  own : Own base tRw 1 w v n vs
  at_ : ∀ i, i < n → OwnI base tU3 .u32 w (vs.getD i undef) (xs i)
  apart : ∀ i j, i < n → j < n → i ≠ j → ∀ b, (vs.getD i undef).ownBlock = some b → (vs.getD j undef).ownBlock ≠ some b
theorem RowsV.ext {w w' : World} {base : Nat} {v : Value} {vs : List Value} {n : Nat} {xs : Nat → List Int} (h : RowsV w base v vs n xs) (e : Ext w w') : RowsV w' base v vs n xs := ⟨h.own.ext e, fun i hi => (h.at_ i hi).ext e, h.apart⟩
theorem RowsV.new {w : World} {base : Nat} {v : Value} {n : Nat} (h : Own base tRw 1 w v n (List.replicate n nilS)) : RowsV w base v (List.replicate n nilS) n (fun _ => []) := by
  have h1 : ∀ i, i < n → (List.replicate n nilS).getD i undef = nilS := fun i hi => by simp [List.getD, List.getElem?_replicate, hi]
  exact ⟨h, fun i hi => by rw [h1 i hi]; exact OwnI.nil, fun i j hi hj hne b hb => by rw [h1 i hi] at hb; cases hb⟩
theorem RowsV.fr {w w' : World} {base : Nat} {v : Value} {vs : List Value} {n : Nat} {xs : Nat → List Int} (h : RowsV w base v vs n xs) {R : Nat → Prop} (hf : Fr R w w') (hR : ∀ k, R k → ∃ cur e, w.heap[k]? = some (.cells cur e (0, 0)) ∧ tRw ≠ e ∧ tU3 ≠ e) : RowsV w' base v vs n xs :=
  ⟨hf.own h.own (fun k hk hr => by obtain ⟨cur, e, h1, h2⟩ := hR k hr; exact Own.apart h.own h1 h2.1 hk), fun i hi => hf.own (h.at_ i hi) (fun k hk hr => by obtain ⟨cur, e, h1, h2⟩ := hR k hr; exact Own.apart (h.at_ i hi) h1 h2.2 hk), h.apart⟩
theorem RowsV.put {w w1 w2 w3 : World} {base b cap n i : Nat} {v' : Value} {vs : List Value} {cur : Array Value} {xs ys : Nat → List Int} (h : RowsV w base (.slice (some ⟨b, 0, none⟩) n cap) vs n xs) (hb : base ≤ b) (hc : w.heap[b]? = some (.cells cur tRw (0, 0))) (hnc : n ≤ cap) (hm : cap ≤ maxLen) (hsz : cur.size = cap) (ht : cur.toList.take n = vs) (hi : i < n) (hbase : base ≤ w.heap.size)
    (e1 : Ext w w1) (hf : Fr (fun k => (vs.getD i undef).ownBlock = some k) w1 w2) (hl : LocR w1 (vs.getD i undef) v') (ho : Own 0 tU3 1 w2 v' (ys i).length ((ys i).map (Value.int .u32))) (e2 : Ext w2 w3) (hy : ∀ j, j ≠ i → ys j = xs j) :
    RowsV (w3.setRow b (cur.setIfInBounds i v')) base (.slice (some ⟨b, 0, none⟩) n cap) (vs.set i v') n ys := by
  have hln := h.own.lenV
  have hb2 : w2.heap[b]? = some (.cells cur tRw (0, 0)) := hf.at (e1.block hc) (fun hk => Own.apart (h.at_ i hi) hc (by decide) hk)
  have hb3 := e2.block hb2
  have hg : ∀ j, (vs.set i v').getD j undef = if j = i then v' else vs.getD j undef := fun j => getD_set (by omega)
  have hge : ∀ k, v'.ownBlock = some k → base ≤ k := hl.ge (fun k hk => (Own.lt (h.at_ i hi) k hk).1) (Nat.le_trans hbase e1.size)
  have hne : ∀ {bb ee ss nn : Nat} {vv : Value} {cc : List Value}, Own bb ee ss w3 vv nn cc → ee ≠ tRw → vv.ownBlock ≠ some b := fun ho hne => Own.apart ho hb3 hne
  refine ⟨Own.setV hb hb3 hnc hm hsz ht i hi v', fun j hj => ?_, fun j j' hj hj' hne' k hk hk' => ?_⟩
  · rw [hg]
    by_cases e : j = i
    · subst e; rw [if_pos rfl]
      have h4 : OwnI base tU3 .u32 w3 v' (ys j) := Own.rebase (ho.ext e2) hge
      exact Own.setRow h4 _ (hne h4 (by decide))
    · rw [if_neg e, hy j e]
      have h4 : OwnI base tU3 .u32 w3 (vs.getD j undef) (xs j) := Own.ext (hf.own (Own.ext (h.at_ j hj) e1) (fun k hk hr => h.apart j i hj hi e k hk hr)) e2
      exact Own.setRow h4 _ (hne h4 (by decide))
  · rw [hg] at hk hk'
    have key : ∀ j, j < n → j ≠ i → ∀ k, (vs.getD j undef).ownBlock = some k → v'.ownBlock ≠ some k := fun j hj e k hk hk' => by
      rcases hl with hl | hl
      · rw [hl] at hk'; exact h.apart j i hj hi e k hk hk'
      · have h5 := hl k hk'
        have h6 := (Own.lt (h.at_ j hj) k hk).2
        have := e1.size
        omega
    by_cases e : j = i
    · subst e; rw [if_pos rfl] at hk; rw [if_neg (fun h => hne' h.symm)] at hk'
      exact key j' hj' (fun h => hne' h.symm) k hk' hk
    · rw [if_neg e] at hk
      by_cases e' : j' = i
      · subst e'; rw [if_pos rfl] at hk'; exact key j hj e k hk hk'
      · rw [if_neg e'] at hk'; exact h.apart j j' hj hj' hne' k hk hk'
end Go.Proofs.YtadpcgjohleglaaGreatDoor
end
section
set_option linter.unusedSimpArgs false
set_option linter.unusedVariables false
set_option maxRecDepth 3000
namespace Go.Proofs.YtadpcgjohleglaaGreatDoor
open Go.LA Go.ArrP Go.RowKit
def alA (ids : List Int) (many : Int) : Bool := decide (0 ≤ many) && decide (many ≤ 16777216) && decide (ids.length ≤ 16777216) && ids.all fun x => decide (0 ≤ x) && decide (x < many)
theorem a9A (ids : List Int) (many : Int) : alA ids many = true ↔ 0 ≤ many ∧ many ≤ 16777216 ∧ ids.length ≤ 16777216 ∧ ∀ x ∈ ids, 0 ≤ x ∧ x < many := by
  unfold alA
  simp only [Bool.and_eq_true, decide_eq_true_eq, List.all_eq_true]
  constructor
  · rintro ⟨⟨⟨h1, h2⟩, h3⟩, h4⟩; exact ⟨h1, h2, h3, h4⟩
  · rintro ⟨h1, h2, h3, h4⟩; exact ⟨⟨⟨h1, h2⟩, h3⟩, h4⟩
def ofX (t : Nat) (b : Bool) (n : Nat) (ps : Nat → Nat → Bool) : AD := match b with
  | true => .tup2 (.pred (ixP t n ps)) (.val (.int .i64 0))
  | false => .tup2 (.val (.pointer none)) (.val (.int .i64 2))
abbrev tIv : Nat := 54
set_option maxHeartbeats 4000000 in
theorem cdA {w : World} {v : Value} {ids : List Int} {many : Int} (h : SlI .i64 w v ids) (hT : Tab w) : Fc Tryz.prog 10 #[v, .int .i64 many] w (Ret w (ofX tIv (alA ids many) many.toNat fun i => idP ids i)) := by
  have hl := h.len
  have hmx := a9A ids many
  by_cases hsz : ¬ (0 ≤ many ∧ many ≤ 16777216 ∧ ids.length ≤ 16777216)
  · have hmf : alA ids many = false := by
      cases hm : alA ids many
      · rfl
      · have := hmx.1 hm; exact absurd ⟨this.1, this.2.1, this.2.2.1⟩ hsz
    rw [hmf]
    refine Fc.of (args := [_, _]) Tryz.func10 rfl rfl Tryz.ntmps10 (Nat.le_of_ble_eq_true rfl) ?_
    by_cases c1 : many < 0
    · skip
      repeat' (first|(refine oLA ?_;first|refine LA_pass rfl ?_|refine wOp ?_|(refine wCm ?_ ?_<;>intro hc)|(refine wNl hK ?_;clear hK K))|refine wG ?_|(refine wCR ?_;intro K hK)|fail)
      all_goals exact PX_retE2 rfl rfl rfl (Ext.refl _) rfl rfl
    · by_cases c2 : 16777216 < many
      · skip
        repeat' (first|(refine oLA ?_;first|refine LA_pass rfl ?_|refine wOp ?_|(refine wCm ?_ ?_<;>intro hc)|(refine wNl hK ?_;clear hK K))|refine wG ?_|(refine wCR ?_;intro K hK)|fail)
        all_goals exact PX_retE2 rfl rfl rfl (Ext.refl _) rfl rfl
      · have c3 : 16777216 < (ids.length : Int) := by omega
        repeat' (first|(refine oLA ?_;first|refine LA_pass rfl ?_|refine wOp ?_|(refine wCm ?_ ?_<;>intro hc)|(refine wNl hK ?_;clear hK K))|refine wG ?_|(refine wCR ?_;intro K hK)|fail)
        all_goals exact PX_retE2 rfl rfl rfl (Ext.refl _) rfl rfl
  obtain ⟨s0, s1, s2⟩ := Decidable.not_not.1 hsz
  obtain ⟨n, rfl⟩ := Int.eq_ofNat_of_zero_le s0
  refine Fc.of (args := [_, _]) Tryz.func10 rfl rfl Tryz.ntmps10 (Nat.le_of_ble_eq_true rfl) ?_
  repeat' (first|(refine oLA ?_;first|refine LA_pass rfl ?_|(refine oD 23 ?_; refine bfA rfl ceA rfl rfl rfl (by omega) (by omega) ?_)|refine wOp ?_|(refine wCm ?_ ?_<;>intro hc)|(refine wNl hK ?_;clear hK K))|(refine oCX ?_;first|refine CX_seqW (id := 4) (ι := Value × List Value) (fun j => [(0, .val v), (1, .val (.int .i64 n)), (6, .val j.1)]) (fun j w' => Ext w w' ∧ RowsV w' w.heap.size j.1 j.2 n (fun i => a1A ids i ids.length) ∧ alA ids n = true) ?_ ?_)|refine wG ?_|(refine wCR ?_;intro K hK)|fail)
  all_goals skip
  · skip
    refine CX_pick 6 rfl (fun v6 w6 e6 h6 => ?_)
    refine CX_loopV (ι := Nat × List Value) (fun j => [(0, .val v), (1, .val (.int .i64 n)), (6, .val v6), (24, .val v), (25, .val (.int .i64 ids.length)), (26, .val (.int .i64 j.1))])
      (fun j w' => Ext w w' ∧ j.1 ≤ ids.length ∧ RowsV w' w.heap.size v6 j.2 n (fun i => a1A ids i j.1) ∧ ∀ i, i < j.1 → 0 ≤ ids.getD i 0 ∧ ids.getD i 0 < (n : Int))
      (fun j => ids.length - j.1) (fun w2 e2 => ⟨(0, List.replicate n nilS), ⟨e6.trans e2, Nat.zero_le _, (RowsV.new h6).ext e2, fun i hi => absurd hi (Nat.not_lt_zero _)⟩, (by repeat' (first | exact Sub.nil | refine Sub.val rfl (by first | with_reducible rfl | (congr 1; omega)) ?_ | refine Sub.same rfl ?_))⟩) ?_
    rintro ⟨k, vs⟩ w1 ⟨he, hk0, hr, hall⟩
    dsimp only at hk0 hr hall ⊢
    by_cases hk : k < ids.length
    · by_cases hid : 0 ≤ ids.getD k 0 ∧ ids.getD k 0 < (n : Int)
      · obtain ⟨id, hx⟩ := Int.eq_ofNat_of_zero_le hid.1
        have hx' : ids.getD k 0 = ((id : Nat) : Int) := hx
        have hidn : id < n := by have := hid.2; omega
        have hrl := a7A ids id k
        obtain ⟨rb, cap, cur, rfl, hrb, hrc, hnc, hcm, hcs, hct⟩ := hr.own.rowV (by omega)
        have hrn := apA hx'
        repeat' (first|(refine oLA ?_;first|refine LA_pass rfl ?_|(refine oD 29 ?_; refine LA_indexN rfl _ rfl (fun _ => rfl) rfl (HasI.val (h.ext he)) rfl hk ?_; rw [hx'])|(refine oD 42 ?_; refine a2A rfl _ rfl (fun _ => rfl) rfl (HasC.ownV hr.own) rfl id rfl hidn hr.own.lenV ?_)|(refine oD 46 ?_; refine LA_one rfl byA rfl rfl ?_)|(refine oD 47 ?_; refine LA_stop (hK _ _ (LX_appendL rfl (by decide) byA rfl (hr.at_ id hidn) rfl HasC.pred (fun u hu => by rw [List.mem_singleton] at hu; subst hu; rfl) (by unfold maxLen; omega) (by omega) (fun v' w2 w3 e2 ho3 hf3 hl3 => ?_))); clear hK K; have hc3 := hf3.at (e2.block hrc) (fun hk' => Own.apart (hr.at_ id hidn) hrc (by decide) hk'); obtain ⟨ck1, ck2⟩ := own_cells ho3; refine LX_la (by kernel_rfl) (fun K hK => ?_))|(refine oD 48 ?_; refine LA_indexS (s := 1) rfl rfl (fun _ => rfl) rfl rfl (by omega) (by omega) ?_; rw [Int.toNat_natCast, Nat.zero_add, Nat.mul_one])|(refine LA_stop (hK _ _ (LX_store1 rfl rfl rfl hc3 (fun _ => rfl) (by omega) ck1 ck2 (fun w4 e4 => ?_))); clear hK K; dsimp only [vals]; refine LX_la (by kernel_rfl) (fun K hK => ?_))|refine wOp ?_|(refine wCm ?_ ?_<;>intro hc)|(refine wNl hK ?_;clear hK K))|refine wG ?_|(refine wCR ?_;intro K hK)|fail)
        all_goals skip
        have x3 : Ext w w3 := Fr.ext (he.trans e2) hf3 (fun q hq => (Own.lt (hr.at_ id hidn) q hq).1)
        have hr4 := hr.put (w3 := w4) (ys := fun i => a1A ids i (k + 1)) hrb hrc hnc hcm hcs hct hidn he.size e2 hf3 hl3 (by rw [hrn, List.map_append, List.length_append]; exact ho3) e4 (fun j hj => aiA (by rw [hx']; omega))
        have x4 := (x3.trans e4).setRow hrb (cur.setIfInBounds id v')
        refine PX_rndV (k + 1, vs.set id v') (fun w5 e5 => ⟨x4.trans e5, hk, hr4.ext e5, fun i hi => ?_⟩) (by dsimp only; omega) (by repeat' (first | exact Sub.nil | refine Sub.val rfl (by first | with_reducible rfl | (congr 1; omega)) ?_ | refine Sub.same rfl ?_))
        by_cases e : i = k
        · rw [e]; exact hid
        · exact hall i (by omega)
      · have hmf : alA ids n = false := by
          cases hm : alA ids n
          · rfl
          · refine absurd ((hmx.1 hm).2.2.2 _ ?_) hid
            rw [List.getD_eq_getElem?_getD, List.getElem?_eq_getElem hk]; exact List.getElem_mem hk
        rw [hmf]
        rcases Int.lt_or_le (ids.getD k 0) 0 with c4 | c4
        all_goals
          repeat' (first|(refine oLA ?_;first|refine LA_pass rfl ?_|(refine oD 29 ?_; refine LA_indexN rfl _ rfl (fun _ => rfl) rfl (HasI.val (h.ext he)) rfl hk ?_)|refine wOp ?_|(refine wCm ?_ ?_<;>intro hc)|(refine wNl hK ?_;clear hK K))|refine wG ?_|(refine wCR ?_;intro K hK)|fail)
          all_goals skip
          all_goals exact PX_retE2 rfl rfl rfl he rfl rfl
    · obtain rfl : k = ids.length := by omega
      repeat' (first|(refine oLA ?_;first|refine LA_pass rfl ?_|refine wOp ?_|(refine wCm ?_ ?_<;>intro hc)|(refine wNl hK ?_;clear hK K))|refine wG ?_|(refine wCR ?_;intro K hK)|fail)
      all_goals skip
      exact PX_rndV (v6, vs) (fun w5 e5 => ⟨he.trans e5, hr.ext e5, hmx.2 ⟨s0, s1, s2, fun x hx => by
        obtain ⟨i, hi, rfl⟩ := List.getElem_of_mem hx
        have := hall i hi
        rw [List.getD_eq_getElem?_getD, List.getElem?_eq_getElem hi] at this; exact this⟩⟩) (by omega) (by repeat' (first | exact Sub.nil | refine Sub.val rfl (by first | with_reducible rfl | (congr 1; omega)) ?_ | refine Sub.same rfl ?_))
  rintro ⟨v6, vs⟩ w0 ⟨he0, hr0, hm⟩
  dsimp only at hr0
  rw [hm, Int.toNat_natCast]
  repeat' (first|(refine oLA ?_;first|refine LA_pass rfl ?_|refine LA_build0 (c := .agg #[nilS]) rfl (fun _ => by kernel_rfl) ?_|refine LA_box rfl rfl ?_|refine wOp ?_|(refine wCm ?_ ?_<;>intro hc)|(refine wNl hK ?_;clear hK K))|refine wG ?_|(refine wCR ?_;intro K hK)|fail)
  all_goals skip
  refine CX_pick 9 rfl (fun v9 w9 e9 h9 => ?_)
  obtain ⟨b, hbb, rfl, hb9⟩ := h9
  have hbw : w.heap.size ≤ b := Nat.le_trans he0.size hbb
  have x9 := he0.trans e9
  refine CX_loopV (ι := Nat × Value × List Value) (fun j => [(1, .val (.int .i64 n)), (6, .val v6), (9, .val (.pointer (some ⟨b, 0, none⟩))), (52, .val (.int .i64 n)), (53, .val (.int .i64 j.1))])
    (fun j w' => Ext w w' ∧ j.1 ≤ n ∧ RowsV w' w.heap.size v6 vs n (fun i => a1A ids i ids.length) ∧ w'.heap[b]? = some (.cells #[j.2.1] tIv (0, 0)) ∧ Sets w' w.heap.size j.2.1 j.2.2 j.1 (fun i => idP ids i))
    (fun j => n - j.1) (fun w2 e2 => ⟨(0, nilS, []), ⟨x9.trans e2, Nat.zero_le _, (hr0.ext e9).ext e2, e2.block hb9, ⟨Own.nil, fun i hi => absurd hi (Nat.not_lt_zero _)⟩⟩, (by repeat' (first | exact Sub.nil | refine Sub.val rfl (by first | with_reducible rfl | (congr 1; omega)) ?_ | refine Sub.same rfl ?_))⟩) ?_
  rintro ⟨k, sv, ptrs⟩ w1 ⟨he, hk0, hr, hb1, hs⟩
  dsimp only at hk0 hr hb1 hs ⊢
  by_cases hk : k < n
  · have hof : ∀ w' u, Ext w1 w' → u = vs.getD k undef → Fc Tryz.prog 36 #[u] w' (Ret w' (.pred (rsP TT TT (idP ids k)))) := fun w' u e hu => by
      rw [hu, ← azA]
      refine of_s ((hr.at_ k hk).ext e).slI (fun x hx => ?_) (by have := a7A ids k ids.length; omega) (hT.ext (he.trans e)) tt tt
      obtain ⟨y, h1, h2, h3⟩ := (abA ids k x ids.length).1 hx
      omega
    repeat' (first|(refine oLA ?_;first|refine wBk ?_|refine LA_nilCheck rfl rfl ?_|refine LA_fieldAddr (a' := ⟨b, 0, none⟩) rfl rfl (fun _ => rfl) ?_|(refine oD 60 ?_; refine LA_loadB (c := sv) rfl (fun _ => rfl) rfl hb1 rfl ?_)|(refine oD 63 ?_; refine a2A rfl _ rfl (fun _ => rfl) rfl (HasC.ownV hr.own) rfl k rfl hk hr.own.lenV ?_)|(refine oD 66 ?_; refine caA (Nat.le_refl _) rfl bzA rfl c1A ?_)|refine wOp ?_|(refine wCm ?_ ?_<;>intro hc)|(refine oCv ?_;first|(refine oC 36 ?_; refine LA_call1 (f := 36) rfl rfl rfl  (.pred (rsP TT TT (idP ids k))) (by intro u1 w e hu1; (try obtain rfl : u1 = _ := hu1); exact hof _ _ e rfl) ?_))|(refine wNl hK ?_;clear hK K))|(refine oCX ?_;first|refine CX_phases (id := 15) [11, 14] (by kernel_rfl) (by kernel_rfl) (by kernel_rfl) (Phase_cons ?_))|refine wG ?_|(refine wCR ?_;intro K hK)|refine wPh ?_|fail)
    all_goals skip
    refine MX_pick 66 rfl (by decide) rfl (fun v66 w3 e3 h66 => ?_)
    obtain ⟨u, hu, hu1, hu2, huo⟩ := h66
    refine MX_appendL rfl bzA rfl (hs.own.ext e3) rfl (HasC.ownV huo) (fun c hc => by rw [List.mem_singleton] at hc; subst hc; exact hu2) (by unfold maxLen; omega) (by omega) (fun sv' w4 w5 e4 hos hf hl => ⟨_, fun t u _ hu => vals_keep t u hu, Phase_cons ?_⟩)
    have x4 := e3.trans e4
    have hR : ∀ q, sv.ownBlock = some q → ∃ cur, w4.heap[q]? = some (.cells cur tPs (0, 0)) := fun q hq => own_type (hs.own.ext x4) hq
    have hb5 := hf.at (x4.block hb1) (fun hq => Own.apart hs.own hb1 (by decide) hq)
    obtain ⟨ck1, ck2⟩ := own_cells hos
    have hr5 : RowsV w5 w.heap.size v6 vs n (fun i => a1A ids i ids.length) := (hr.ext x4).fr hf (fun q hq => by obtain ⟨cur, hc⟩ := hR q hq; exact ⟨cur, _, hc, by decide, by decide⟩)
    have hRs : ∀ {p : Nat → Bool} {vv : Value}, RSet TT TT w4 vv p → RSet TT TT w5 vv p := fun hh => hh.off hf (fun q hq => by obtain ⟨cur, hc⟩ := hR q hq; exact ⟨cur, _, hc, by decide, by decide, by decide, by decide, by decide⟩)
    have hs5 : ∀ i, i < k + 1 → RSet TT TT w5 ((ptrs ++ [u]).getD i undef) (idP ids i) := fun i hi => by
      rw [b1A hs.own.lenV]
      by_cases e : i < k
      · rw [if_pos e]; exact hRs ((hs.at_ i e).ext x4)
      · obtain rfl : i = k := by omega
        rw [if_neg e, if_pos rfl]; exact hRs (RSet.ext hu e4)
    have hsv5 : Own w.heap.size tPs 1 w5 sv' (k + 1) (ptrs ++ [u]) := Own.rebase hos (hl.ge (fun q hq => (Own.lt hs.own q hq).1) (Nat.le_trans he.size x4.size))
    have x5 : Ext w w5 := Fr.ext (he.trans x4) hf (fun q hq => (Own.lt hs.own q hq).1)
    repeat' (first|(refine oLA ?_;first|refine wBk ?_|refine LA_nilCheck rfl rfl ?_|refine LA_fieldAddr (a' := ⟨b, 0, none⟩) rfl rfl (fun _ => rfl) ?_|refine wOp ?_|(refine wCm ?_ ?_<;>intro hc)|(refine wNl hK ?_;clear hK K))|refine wG ?_|(refine wCR ?_;intro K hK)|refine wPh ?_|fail)
    all_goals skip
    refine MX_store (news := [sv']) rfl rfl rfl hb5 ck1 (fun _ => rfl) (Nat.le_of_ble_eq_true rfl) (fun c hc => by rw [List.mem_singleton] at hc; subst hc; exact ck2) (fun w6 e6 => ⟨_, fun t u hu => vals_keep t u hu, Phase_nil ?_⟩)
    rw [show (#[sv].toList.take 0 ++ [sv'] ++ #[sv].toList.drop (0 + [sv'].length)).toArray = #[sv'] from rfl]
    have hb6 := e6.block hb5
    have hfr : Fr (fun q => q = b) w6 (w6.setRow b #[sv']) := Fr.setRow (R := fun q => q = b) (Fr.of (Ext.refl _)) rfl _
    have hRb : ∀ q, q = b → ∃ cur e, w6.heap[q]? = some (.cells cur e (0, 0)) ∧ e = tIv := fun q hq => by subst hq; exact ⟨_, _, hb6, rfl⟩
    have hb7 : (w6.setRow b #[sv']).heap[b]? = some (.cells #[sv'] tIv (0, 0)) := setRow_heap w6 b _ _ _ _ hb6
    have hr7 := (hr5.ext e6).fr hfr (fun q hq => by obtain ⟨cur, e, h1, rfl⟩ := hRb q hq; exact ⟨cur, _, h1, by decide, by decide⟩)
    have hs7 : Sets (w6.setRow b #[sv']) w.heap.size sv' (ptrs ++ [u]) (k + 1) (fun i => idP ids i) :=
      ⟨Own.setRow (hsv5.ext e6) _ (Own.apart (hsv5.ext e6) hb6 (by decide)), fun i hi => ((hs5 i hi).ext e6).off hfr (fun q hq => by obtain ⟨cur, e, h1, rfl⟩ := hRb q hq; exact ⟨cur, _, h1, by decide, by decide, by decide, by decide, by decide⟩)⟩
    have x7 := (x5.trans e6).setRow hbw #[sv']
    obtain ⟨w7, hw7⟩ : ∃ w7, w7 = w6.setRow b #[sv'] := ⟨_, rfl⟩
    rw [← hw7] at hb7 hr7 hs7 x7 ⊢
    repeat' (first|(refine oLA ?_;first|refine wBk ?_|refine wOp ?_|(refine wCm ?_ ?_<;>intro hc)|(refine wNl hK ?_;clear hK K))|refine wG ?_|(refine wCR ?_;intro K hK)|refine wPh ?_|fail)
    all_goals skip
    exact PX_rndV (k + 1, sv', ptrs ++ [u]) (fun w8 e8 => ⟨x7.trans e8, hk, hr7.ext e8, e8.block hb7, hs7.ext e8⟩) (by dsimp only; omega) (by repeat' (first | exact Sub.nil | refine Sub.val rfl (by first | with_reducible rfl | (congr 1; omega)) ?_ | refine Sub.same rfl ?_))
  · obtain rfl : k = n := by omega
    repeat' (first|(refine oLA ?_;first|refine LA_pass rfl ?_|refine wOp ?_|(refine wCm ?_ ?_<;>intro hc)|(refine wNl hK ?_;clear hK K))|refine wG ?_|(refine wCR ?_;intro K hK)|fail)
    all_goals skip
    refine PX_ret2 rfl (fun x y w5 e5 hx hy => ⟨_, rfl, he.trans e5, x, y, rfl, ?_, hy⟩)
    obtain rfl : x = _ := hx
    have h8 := hs.ext e5
    exact ⟨b, sv, ptrs, rfl, e5.block hb1, ⟨Own.base h8.own (Nat.zero_le _), h8.at_⟩⟩
end Go.Proofs.YtadpcgjohleglaaGreatDoor
end
section
set_option linter.unusedSimpArgs false
set_option linter.unusedVariables false
set_option maxRecDepth 3000
namespace Go.Proofs.YtadpcgjohleglaaGreatDoor
open Go.LA Go.ArrP Go.RowKit
def NIX (t n : Nat) (ps : Nat → Nat → Bool) (w : World) (v : Value) : Prop := (v = .pointer none ∧ n = 0) ∨ IX t n ps w v
theorem NIX.ext {t n : Nat} {ps : Nat → Nat → Bool} {w w' : World} {v : Value} (h : NIX t n ps w v) (e : Ext w w') : NIX t n ps w' v := h.imp id (fun h => h.ext e)
abbrev tRg : Nat := 59
theorem NIX.zero {t b : Nat} {ps : Nat → Nat → Bool} {w : World} (h : w.heap[b]? = some (.cells #[nilS] t (0, 0))) : NIX t 0 ps w (.pointer (some ⟨b, 0, none⟩)) := .inr ⟨b, nilS, [], rfl, h, ⟨Own.nil, fun i hi => absurd hi (Nat.not_lt_zero _)⟩⟩
theorem boA {w : World} {v : Value} {n : Nat} {ps : Nat → Nat → Bool} (h : NIX tIv n ps w v) : Fc Tryz.prog 26 #[v] w (Ret w (.val (.int .i64 n))) := by
  rcases h with ⟨rfl, rfl⟩ | ⟨b, sv, ptrs, rfl, hb, hs⟩
  · refine Fc.of (args := [_]) Tryz.func26 rfl rfl Tryz.ntmps26 (Nat.le_of_ble_eq_true rfl) ?_
    repeat' (first|(refine oLA ?_;first|refine LA_pass rfl ?_|(refine oD 4 ?_; refine LA_binV (c := .bool true) rfl rfl rfl (fun _ => rfl) ?_)|refine wOp ?_|(refine wCm ?_ ?_<;>intro hc)|(refine wNl hK ?_;clear hK K))|refine wG ?_|(refine wCR ?_;intro K hK)|fail)
    exact PX_retE rfl rfl (Ext.refl _) rfl
  · refine Fc.of (args := [_]) Tryz.func26 rfl rfl Tryz.ntmps26 (Nat.le_of_ble_eq_true rfl) ?_
    repeat' (first|(refine oLA ?_;first|refine LA_pass rfl ?_|(refine oD 4 ?_; refine LA_binV (c := .bool false) rfl rfl rfl (fun _ => rfl) ?_)|refine LA_nilCheck rfl rfl ?_|refine LA_fieldAddr (a' := ⟨b, 0, none⟩) rfl rfl (fun _ => rfl) ?_|(refine oD 8 ?_; refine LA_loadB (c := sv) rfl (fun _ => rfl) rfl hb rfl ?_)|(refine oLen ?_; refine LA_len rfl _ rfl rfl (HasC.ownV hs.own) ?_)|refine wOp ?_|(refine wCm ?_ ?_<;>intro hc)|(refine wNl hK ?_;clear hK K))|refine wG ?_|(refine wCR ?_;intro K hK)|fail)
    exact PX_retE rfl rfl (Ext.refl _) rfl
theorem aeA {w : World} {v : Value} {n : Nat} {ps : Nat → Nat → Bool} (h : NIX tIv n ps w v) (hn : n ≤ 16777216) {B : Nat → Prop} (hB : Fsh B w) (id : Int) : Fc Tryz.prog 15 #[v, .int .i64 id] w (Ret w (.pred (rsP B TT (rowP n ps id)))) := by
  have hB' : ∀ w', Ext w w' → Fsh B w' := fun w' e => hB.ext e
  by_cases hid : 0 ≤ id ∧ id < (n : Int)
  · have hr : rowP n ps id = ps id.toNat := by unfold rowP; rw [if_pos hid]
    rw [hr]
    obtain ⟨j, rfl⟩ := Int.eq_ofNat_of_zero_le hid.1
    rw [Int.toNat_natCast]
    have hj : j < n := by have := hid.2; omega
    have hh := h
    rcases hh with ⟨rfl, rfl⟩ | ⟨b, sv, ptrs, rfl, hb, hs⟩
    · omega
    have hp := hs.at_ j hj
    have hcp : ∀ w', Ext w w' → _ := fun w' e => copy_s (.inr (hp.ext e)) (B' := B) (A' := TT) (hB' w' e) (fun _ _ _ => trivial)
    refine Fc.of (args := [_, _]) Tryz.func15 rfl rfl Tryz.ntmps15 (Nat.le_of_ble_eq_true rfl) ?_
    repeat' (first|(refine oLA ?_;first|refine LA_pass rfl ?_|refine LA_nilCheck rfl rfl ?_|refine LA_fieldAddr (a' := ⟨b, 0, none⟩) rfl rfl (fun _ => rfl) ?_|(refine oD 17 ?_; refine LA_loadB (c := sv) rfl (fun _ => rfl) rfl hb rfl ?_)|(refine oD 19 ?_; refine a2A rfl _ rfl (fun _ => rfl) rfl (HasC.ownV hs.own) rfl j rfl hj hs.own.lenV ?_)|refine wOp ?_|(refine wCm ?_ ?_<;>intro hc)|(refine oCv ?_;first|(refine oC 26 ?_; refine LA_call1 (f := 26) rfl rfl rfl  (.val (.int .i64 n)) (by intro u1 w e hu1; (try obtain rfl : u1 = _ := hu1); exact boA (h.ext e)) ?_)|(refine oC 44 ?_; refine LA_call1 (f := 44) rfl rfl rfl  (.pred (rsP B TT (ps j))) (by intro u1 w e hu1; (try obtain rfl : u1 = _ := hu1); exact hcp _ e) ?_))|(refine wNl hK ?_;clear hK K))|refine wG ?_|(refine wCR ?_;intro K hK)|fail)
    all_goals skip
    all_goals exact PX_retP rfl rfl (Ext.refl _) (fun _ _ _ hv => hv)
  · have hr : rowP n ps id = fun _ => false := by unfold rowP; rw [if_neg hid]
    rw [hr]
    refine Fc.of (args := [_, _]) Tryz.func15 rfl rfl Tryz.ntmps15 (Nat.le_of_ble_eq_true rfl) ?_
    by_cases c1 : id < 0
    · skip
      repeat' (first|(refine oLA ?_;first|refine LA_pass rfl ?_|refine wOp ?_|(refine wCm ?_ ?_<;>intro hc)|(refine oCv ?_;first|(refine oC 12 ?_; refine LA_call0 (f := 12) rfl rfl  (.pred (rsP B TT (fun _ => false))) (by intro w e; exact new_c _ (hB' _ e)) ?_))|(refine wNl hK ?_;clear hK K))|refine wG ?_|(refine wCR ?_;intro K hK)|fail)
      all_goals skip
      all_goals exact PX_retP rfl rfl (Ext.refl _) (fun _ _ _ hv => hv)
    · skip
      repeat' (first|(refine oLA ?_;first|refine LA_pass rfl ?_|refine wOp ?_|(refine wCm ?_ ?_<;>intro hc)|(refine oCv ?_;first|(refine oC 26 ?_; refine LA_call1 (f := 26) rfl rfl rfl  (.val (.int .i64 n)) (by intro u1 w e hu1; (try obtain rfl : u1 = _ := hu1); exact boA (h.ext e)) ?_)|(refine oC 12 ?_; refine LA_call0 (f := 12) rfl rfl  (.pred (rsP B TT (fun _ => false))) (by intro w e; exact new_c _ (hB' _ e)) ?_))|(refine wNl hK ?_;clear hK K))|refine wG ?_|(refine wCR ?_;intro K hK)|fail)
      all_goals skip
      all_goals exact PX_retP rfl rfl (Ext.refl _) (fun _ _ _ hv => hv)
theorem b7A {w : World} {v u : Value} {n : Nat} {ps : Nat → Nat → Bool} {ys : List Int} (h : NIX tIv n ps w v) (hn : n ≤ 16777216) (hy : SlI .i64 w u ys) (hT : Tab w) : Fc Tryz.prog 21 #[v, u] w (Ret w (.pred (rsP TT TT (amP n ps ys ys.length)))) := by
  have hyl := hy.len
  refine Fc.of (args := [_, _]) Tryz.func21 rfl rfl Tryz.ntmps21 (Nat.le_of_ble_eq_true rfl) ?_
  repeat' (first|(refine oLA ?_;first|refine LA_pass rfl ?_|refine wOp ?_|(refine wCm ?_ ?_<;>intro hc)|(refine oCv ?_;first|(refine oC 12 ?_; refine LA_call0 (f := 12) rfl rfl  (.pred (rsP TT TT (fun _ => false))) (by intro w e; exact new_c _ tt) ?_))|(refine wNl hK ?_;clear hK K))|refine wG ?_|(refine wCR ?_;intro K hK)|fail)
  all_goals skip
  refine CX_pick 5 rfl (fun v5 w5 e5 h5 => ?_)
  refine CX_loopV (ι := Nat × Value) (fun j => [(0, .val v), (1, .val u), (5, .val j.2), (9, .val u), (10, .val (.int .i64 ys.length)), (11, .val (.int .i64 j.1))])
    (fun j w' => Ext w w' ∧ j.1 ≤ ys.length ∧ RSet TT TT w' j.2 (amP n ps ys j.1)) (fun j => ys.length - j.1)
    (fun w2 e2 => ⟨(0, v5), ⟨e5.trans e2, Nat.zero_le _, RSet.ext h5 e2⟩, (by repeat' (first | exact Sub.nil | refine Sub.val rfl (by first | with_reducible rfl | (congr 1; omega)) ?_ | refine Sub.same rfl ?_))⟩) ?_
  rintro ⟨k, s⟩ w1 ⟨he, hk0, hs⟩
  dsimp only at hk0 hs ⊢
  by_cases hk : k < ys.length
  · by_cases hid : 0 ≤ ys.getD k 0 ∧ ys.getD k 0 < (n : Int)
    · have ham : amP n ps ys (k + 1) = two (fun x y => x || y) (amP n ps ys k) (ps (ys.getD k 0).toNat) := by simp only [amP]; rw [if_pos hid]
      obtain ⟨j, hj⟩ := Int.eq_ofNat_of_zero_le hid.1
      have hj' : ys.getD k 0 = ((j : Nat) : Int) := hj
      have hjn : j < n := by have := hid.2; omega
      rw [hj', Int.toNat_natCast] at ham
      rcases h with ⟨rfl, rfl⟩ | hx
      · omega
      have hN : ∀ w', Ext w w' → NIX tIv n ps w' v := fun w' e => .inr (hx.ext e)
      obtain ⟨b, sv, ptrs, rfl, hb, hss⟩ := hx
      have hb1 := he.block hb
      have hs1 := hss.ext he
      have hor : ∀ w', Ext w1 w' → Fc Tryz.prog 28 #[s, ptrs.getD j undef] w' (Ret w' (.pred (rsP TT TT (amP n ps ys (k + 1))))) := fun w' e => by
        rw [ham]
        exact or_s (A := TT) (B := TT) (B1 := TT) (B2 := TT) (.inr (hs.ext e)) (.inr ((hs1.at_ j hjn).ext e)) (hT.ext (he.trans e)) tt tt
      repeat' (first|(refine oLA ?_;first|refine LA_pass rfl ?_|(refine oD 13 ?_; refine LA_indexN rfl _ rfl (fun _ => rfl) rfl (HasI.val (hy.ext he)) rfl hk ?_; rw [hj'])|refine LA_nilCheck rfl rfl ?_|refine LA_fieldAddr (a' := ⟨b, 0, none⟩) rfl rfl (fun _ => rfl) ?_|(refine oD 27 ?_; refine LA_loadB (c := sv) rfl (fun _ => rfl) rfl hb1 rfl ?_)|(refine oD 29 ?_; refine a2A rfl _ rfl (fun _ => rfl) rfl (HasC.ownV hs1.own) rfl j rfl hjn hs1.own.lenV ?_)|refine wOp ?_|(refine wCm ?_ ?_<;>intro hc)|(refine oCv ?_;first|(refine oC 26 ?_; refine LA_call1 (f := 26) rfl rfl rfl  (.val (.int .i64 n)) (by intro u1 w e hu1; (try obtain rfl : u1 = _ := hu1); exact boA (hN _ (he.trans e))) ?_)|(refine oC 28 ?_; refine LA_call2 (f := 28) rfl rfl rfl rfl  (.pred (rsP TT TT (amP n ps ys (k + 1)))) (by intro u1 u2 w e hu1 hu2; (try obtain rfl : u1 = _ := hu1); (try obtain rfl : u2 = _ := hu2); exact hor _ e) ?_))|(refine wNl hK ?_;clear hK K))|refine wG ?_|(refine wCR ?_;intro K hK)|fail)
      all_goals skip
      refine PX_pick 5 rfl (fun v9 w9 e9 h9 => ?_)
      exact PX_rndV (k + 1, v9) (fun w8 e8 => ⟨(he.trans e9).trans e8, hk, RSet.ext h9 e8⟩) (by dsimp only; omega) (by repeat' (first | exact Sub.nil | refine Sub.val rfl (by first | with_reducible rfl | (congr 1; omega)) ?_ | refine Sub.same rfl ?_))
    · have ham : amP n ps ys (k + 1) = amP n ps ys k := by simp only [amP]; rw [if_neg hid]
      by_cases c1 : 0 ≤ ys.getD k 0
      · skip
        repeat' (first|(refine oLA ?_;first|refine LA_pass rfl ?_|(refine oD 13 ?_; refine LA_indexN rfl _ rfl (fun _ => rfl) rfl (HasI.val (hy.ext he)) rfl hk ?_)|refine wOp ?_|(refine wCm ?_ ?_<;>intro hc)|(refine oCv ?_;first|(refine oC 26 ?_; refine LA_call1 (f := 26) rfl rfl rfl  (.val (.int .i64 n)) (by intro u1 w e hu1; (try obtain rfl : u1 = _ := hu1); exact boA (h.ext (he.trans e))) ?_))|(refine wNl hK ?_;clear hK K))|refine wG ?_|(refine wCR ?_;intro K hK)|fail)
        all_goals skip
        exact PX_rndV (k + 1, s) (fun w8 e8 => ⟨he.trans e8, hk, by rw [ham]; exact hs.ext e8⟩) (by dsimp only; omega) (by repeat' (first | exact Sub.nil | refine Sub.val rfl (by first | with_reducible rfl | (congr 1; omega)) ?_ | refine Sub.same rfl ?_))
      · skip
        repeat' (first|(refine oLA ?_;first|refine LA_pass rfl ?_|(refine oD 13 ?_; refine LA_indexN rfl _ rfl (fun _ => rfl) rfl (HasI.val (hy.ext he)) rfl hk ?_)|refine wOp ?_|(refine wCm ?_ ?_<;>intro hc)|(refine wNl hK ?_;clear hK K))|refine wG ?_|(refine wCR ?_;intro K hK)|fail)
        all_goals skip
        exact PX_rndV (k + 1, s) (fun w8 e8 => ⟨he.trans e8, hk, by rw [ham]; exact hs.ext e8⟩) (by dsimp only; omega) (by repeat' (first | exact Sub.nil | refine Sub.val rfl (by first | with_reducible rfl | (congr 1; omega)) ?_ | refine Sub.same rfl ?_))
  · obtain rfl : k = ys.length := by omega
    repeat' (first|(refine oLA ?_;first|refine LA_pass rfl ?_|refine wOp ?_|(refine wCm ?_ ?_<;>intro hc)|(refine wNl hK ?_;clear hK K))|refine wG ?_|(refine wCR ?_;intro K hK)|fail)
    all_goals skip
    exact PX_retP rfl rfl he (fun x w5 e5 hx => by obtain rfl : x = _ := hx; exact hs.ext e5)
end Go.Proofs.YtadpcgjohleglaaGreatDoor
end
