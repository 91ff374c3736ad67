import Derived.RangeFuncNested
import Derived.RangeFuncLeaves
import Derived.OrdersIn
import Derived.TacticsIn
import Derived.Test.YtadpcgjohleglaaGreatDoorM13
section
set_option linter.unusedSimpArgs false
set_option linter.unusedVariables false
namespace Go.LA
open Go.RowKit
section
variable {P : Program} {l : List Oper} {N : Nn} {wb : World} {K : List Oper → Env → Prop} {rest : List Oper} {E : Env} {Q : Exit → Act → World → Prop}
variable {d : Tmp} {ty t t' : TypeId} {pos : String} {after : Array Edge} {g : Option (Nat × Bool)} {x y z : Operand} {k k' : IntKind}
theorem auA {cs : List Value} {j : Nat} (h : j < cs.length) : (cs.drop (j * 1)).take 1 = [cs.getD j undef] := by
  rw [Nat.mul_one, List.drop_eq_getElem_cons h, List.take_succ_cons, List.take_zero, List.getD_eq_getElem?_getD, List.getElem?_eq_getElem h]; rfl
theorem a2A {n : Nat} {cs : List Value} {i : Int} (hg : gdec l E g = some true) (e : TypeId) (ht : P.underlying t = some (.slice e)) (hs : ∀ w, (sizeOf e).run P w = .ok 1 w)
    {r : AD} (hr : opE E x = r) (hx : HasC wb r n 1 cs) (hi : opE E y = .val (.int k i)) (j : Nat) (hj : i = j) (hn : j < n) (hl : cs.length = n)
    (h : LA P l wb K rest ((d, .pred (ptrC [cs.getD j undef])) :: E)) : LA P l wb K (⟨some d, .indexAddr t x y, ty, pos, after, g⟩ :: rest) E := by
  refine LA_indexC hg e ht hs hr hx hi j hj hn ?_
  rw [auA (by omega)]; exact h
theorem aoA {z : Value} (hz : z.cells = #[z]) (n : Nat) : (madeCells z.cells (n * 1)).toList = List.replicate n z := by
  refine List.ext_getElem (by simp [madeCells]) fun i h1 h2 => ?_
  simp [madeCells, hz, Nat.mod_one]
theorem avA {e : TypeId} {b n : Nat} {zv : Value} {kl kc : IntKind} (hg : gdec l E g = some true) (hel : El P t e zv 1 b) (hz : zv.cells = #[zv]) (hx : opE E x = .val (.int kl (n : Int))) (hy : opE E y = .val (.int kc (n : Int))) (hb : b * n ≤ 281474976710656) (hn : n ≤ 9223372036854775807)
    (h : LA P l wb K rest ((d, .pred (ownC wb.heap.size e 1 n (List.replicate n zv))) :: E)) : LA P l wb K (⟨some d, .makeSlice t x y, ty, pos, after, g⟩ :: rest) E :=
  LA_of (.pred (ownC wb.heap.size e 1 n (List.replicate n zv))) hg (fun a w he hh => by
    have e1 := hh x (by simp [Op.operands]); have e2 := hh y (by simp [Op.operands])
    rw [hx] at e1; rw [hy] at e2; simp only [AD.ok] at e1 e2
    obtain ⟨i, hi1, hi2, hi3, hi4⟩ := hel.parts
    obtain ⟨w', g1, g2, g3⟩ := run_make_full (P := P) w wb.heap.size t e i _ 1 hel.ht hi1 hi2 hi3 kl kc n (by rw [hi4]; exact hb) (by unfold maxLen; omega) he.size
    rw [aoA hz] at g2
    simp only [execOp, Sem.run_bind, e1, e2, g1, Result.andThen_ok, Sem.run_pure]
    exact ⟨ext_none g3, g2⟩) h
def oneP (base e : Nat) (φ : AV) : AV := ⟨fun v w => ∃ u, φ.p u w ∧ u.cells = #[u] ∧ u.oneCell' = true ∧ Own base e 1 w v 1 [u], fun _ _ _ x ⟨u, h1, h2, h3, h4⟩ => ⟨u, φ.mono _ _ _ x h1, h2, h3, h4.ext x⟩⟩
theorem b1A {zv : Value} {b base : Nat} {e : TypeId} {φ : AV} (hbase : base ≤ wb.heap.size) (hg : gdec l E g = some true) (hel : El P t e zv 1 b) (hx : opE E x = .pred φ) (hφ : ∀ u w, φ.p u w → u.cells = #[u] ∧ u.oneCell' = true) (h : LA P l wb K rest ((d, .pred (oneP base e φ)) :: E)) :
    LA P l wb K (⟨some d, .buildSlice t 1 #[(0, x)], ty, pos, after, g⟩ :: rest) E := by
  refine LA_of (.pred (oneP base e φ)) hg (fun a w he hh => ?_) h
  have h1 := hh x (by simp [Op.operands])
  rw [hx] at h1
  generalize hc : a.eval x = c at h1
  obtain ⟨h2, h3⟩ := hφ _ _ h1
  have hrun : (Instr.buildSlice t 1 #[(0, c)]).run P w = .ok (.slice (some ⟨w.heap.size, 0, none⟩) 1 1) (w.alloc (.cells #[c] e)) := by
    simp only [Instr.buildSlice, Sem.run_bind, run_underlying hel.ht, Result.andThen_ok, hel.sizeOf, Nat.reduceMul, Nat.reducePow, gt_iff_lt, Nat.reduceLT, if_false, Sem.run_pure, Nat.reduceEqDiff, hel.zero, fill_one h2 hel.zs]
    rfl
  simp only [execOp, List.map_toArray, List.map_cons, List.map_nil, hc, Sem.run_bind, hrun, Result.andThen_ok, Sem.run_pure]
  exact ⟨Ext.alloc _ _, c, φ.mono _ _ _ (Ext.alloc _ _) h1, h2, h3, by simp, .inr ⟨w.heap.size, 1, #[c], rfl, Nat.le_trans hbase he.size, heap_alloc_new w _, Nat.le_refl _, by decide, rfl, rfl⟩⟩
end
theorem Own.rowV {base e n : Nat} {w : World} {v : Value} {cs : List Value} (h : Own base e 1 w v n cs) (hp : 0 < n) :
    ∃ b cap cur, v = .slice (some ⟨b, 0, none⟩) n cap ∧ base ≤ b ∧ w.heap[b]? = some (.cells cur e (0, 0)) ∧ n ≤ cap ∧ cap ≤ maxLen ∧ cur.size = cap ∧ cur.toList.take n = cs := by
  rcases h.2 with ⟨h1, h0⟩ | ⟨b, cap, cur, h1, h2, h3, h4, h5, h6, h7⟩
  · omega
  · exact ⟨b, cap, cur, h1, h2, h3, h4, h5, by omega, by rw [Nat.mul_one] at h7; exact h7⟩
theorem Own.setV {base e b cap n : Nat} {w : World} {cur : Array Value} {cs : List Value} (hb : base ≤ b) (hg : w.heap[b]? = some (.cells cur e (0, 0))) (hnc : n ≤ cap) (hm : cap ≤ maxLen) (hsz : cur.size = cap) (ht : cur.toList.take n = cs) (i : Nat) (hi : i < n) (c : Value) :
    Own base e 1 (w.setRow b (cur.setIfInBounds i c)) (.slice (some ⟨b, 0, none⟩) n cap) n (cs.set i c) := by
  have hl : cs.length = n := by rw [← ht, List.length_take, Array.length_toList]; omega
  refine ⟨by rw [List.length_set]; omega, .inr ⟨b, cap, _, rfl, hb, setRow_heap w b _ _ _ _ hg, hnc, hm, by simp [hsz], ?_⟩⟩
  rw [Nat.mul_one, Array.toList_setIfInBounds, List.take_set, ht]
theorem Own.lenV {base e n : Nat} {w : World} {v : Value} {cs : List Value} (h : Own base e 1 w v n cs) : cs.length = n := by have := h.1; omega
theorem getD_set {cs : List Value} {i j : Nat} {c : Value} (hi : i < cs.length) : (cs.set i c).getD j undef = if j = i then c else cs.getD j undef := by
  simp only [List.getD_eq_getElem?_getD]
  by_cases e : j = i
  · subst e; rw [if_pos rfl, List.getElem?_set_self hi]; rfl
  · rw [if_neg e, List.getElem?_set_ne (fun h => e h.symm)]
theorem apA {cs : List Value} {j n : Nat} {c : Value} (hl : cs.length = n) : (cs ++ [c]).getD j undef = if j < n then cs.getD j undef else if j = n then c else undef := by
  simp only [List.getD_eq_getElem?_getD]
  by_cases h1 : j < n
  · rw [if_pos h1, List.getElem?_append_left (by omega)]
  · rw [if_neg h1]
    by_cases h2 : j = n
    · rw [if_pos h2, List.getElem?_append_right (by omega), show j - cs.length = 0 by omega]; rfl
    · rw [if_neg h2, List.getElem?_append_right (by omega), List.getElem?_eq_none (by simp; omega)]; rfl
end Go.LA
end
section
set_option linter.unusedSimpArgs false
set_option linter.unusedVariables false
namespace Go.LA
open Go.RowKit Go.ArrP
def a0A (ids : List Int) (id : Nat) : Nat → List Int
  | 0 => []
  | n + 1 => a0A ids id n ++ if ids.getD n 0 = (id : Int) then [(n : Int)] else []
def idP (ids : List Int) (id : Int) (x : Nat) : Bool := decide (x < ids.length) && decide (ids.getD x 0 = id)
theorem a4A (ids : List Int) (id : Nat) (z : Int) : ∀ n, z ∈ a0A ids id n ↔ ∃ x : Nat, x < n ∧ ids.getD x 0 = (id : Int) ∧ z = x
  | 0 => by simp [a0A]
  | n + 1 => by
    simp only [a0A, List.mem_append, a4A ids id z n]
    constructor
    · rintro (⟨x, h1, h2, h3⟩ | h)
      · exact ⟨x, by omega, h2, h3⟩
      · split at h
        · rename_i e
          exact ⟨n, Nat.lt_succ_self n, e, List.mem_singleton.1 h⟩
        · cases h
    · rintro ⟨x, h1, h2, h3⟩
      by_cases e : x = n
      · subst e; right; rw [if_pos h2]; exact List.mem_singleton.2 h3
      · exact .inl ⟨x, by omega, h2, h3⟩
theorem a5A (ids : List Int) (id : Nat) : ∀ n, (a0A ids id n).length ≤ n
  | 0 => Nat.le_refl _
  | n + 1 => by
    have := a5A ids id n
    simp only [a0A, List.length_append]
    split <;> simp <;> omega
theorem amA (ids : List Int) (id : Nat) : memb (a0A ids id ids.length) = idP ids id := by
  funext x
  unfold memb idP
  rw [Bool.eq_iff_iff, decide_eq_true_iff, Bool.and_eq_true, decide_eq_true_iff, decide_eq_true_iff, a4A]
  constructor
  · rintro ⟨y, h1, h2, h3⟩
    obtain rfl : x = y := by omega
    exact ⟨h1, h2⟩
  · rintro ⟨h1, h2⟩
    exact ⟨x, h1, h2, rfl⟩
theorem ajA {ids : List Int} {id n : Nat} (h : ids.getD n 0 = (id : Int)) : a0A ids id (n + 1) = a0A ids id n ++ [(n : Int)] := by
  simp only [a0A, if_pos h]
theorem abA {ids : List Int} {id n : Nat} (h : ids.getD n 0 ≠ (id : Int)) : a0A ids id (n + 1) = a0A ids id n := by
  simp only [a0A, if_neg h, List.append_nil]
def rowP (n : Nat) (ps : Nat → Nat → Bool) (id : Int) : Nat → Bool := if 0 ≤ id ∧ id < (n : Int) then ps id.toNat else fun _ => false
def amP (n : Nat) (ps : Nat → Nat → Bool) (ys : List Int) : Nat → Nat → Bool
  | 0 => fun _ => false
  | k + 1 => if 0 ≤ ys.getD k 0 ∧ ys.getD k 0 < (n : Int) then two (fun x y => x || y) (amP n ps ys k) (ps (ys.getD k 0).toNat) else amP n ps ys k
def sumP (ids : List Int) : Nat → Nat → Bool
  | 0 => fun _ => false
  | k + 1 => two (fun x y => x || y) (sumP ids k) (idP ids k)
theorem awA {p q : Nat → Bool} {x : Nat} : two (fun x y => x || y) p q x = true ↔ p x = true ∨ q x = true := by show (p x || q x) = true ↔ _; rw [Bool.or_eq_true]
theorem b0A {p q : Nat → Bool} (h : ∀ x, p x = true ↔ q x = true) : p = q := funext fun x => Bool.eq_iff_iff.2 (h x)
theorem idP_iff {ids : List Int} {id : Int} {x : Nat} : idP ids id x = true ↔ x < ids.length ∧ ids.getD x 0 = id := by
  unfold idP; rw [Bool.and_eq_true, decide_eq_true_iff, decide_eq_true_iff]
theorem aeA {n : Nat} {ps : Nat → Nat → Bool} {ys : List Int} {x : Nat} : ∀ k, amP n ps ys k x = true ↔ ∃ j, j < k ∧ 0 ≤ ys.getD j 0 ∧ ys.getD j 0 < (n : Int) ∧ ps (ys.getD j 0).toNat x = true
  | 0 => by simp [amP]
  | k + 1 => by
    have ih := aeA (n := n) (ps := ps) (ys := ys) (x := x) k
    simp only [amP]
    split
    · rename_i hc
      rw [awA, ih]
      constructor
      · rintro (⟨j, h1, h2⟩ | h)
        · exact ⟨j, by omega, h2⟩
        · exact ⟨k, Nat.lt_succ_self k, hc.1, hc.2, h⟩
      · rintro ⟨j, h1, h2, h3, h4⟩
        by_cases e : j = k
        · subst e; exact .inr h4
        · exact .inl ⟨j, by omega, h2, h3, h4⟩
    · rename_i hc
      rw [ih]
      constructor
      · rintro ⟨j, h1, h2⟩; exact ⟨j, by omega, h2⟩
      · rintro ⟨j, h1, h2, h3, h4⟩
        by_cases e : j = k
        · subst e; exact absurd ⟨h2, h3⟩ hc
        · exact ⟨j, by omega, h2, h3, h4⟩
theorem a1A {ids : List Int} {x : Nat} : ∀ k, sumP ids k x = true ↔ x < ids.length ∧ 0 ≤ ids.getD x 0 ∧ ids.getD x 0 < (k : Int)
  | 0 => by
    simp only [sumP]
    constructor
    · intro h; cases h
    · rintro ⟨_, h1, h2⟩; omega
  | k + 1 => by
    have ih := a1A (ids := ids) (x := x) k
    simp only [sumP]
    rw [awA, ih, idP_iff]
    constructor
    · rintro (h | h) <;> omega
    · rintro ⟨h1, h2, h3⟩
      by_cases e : ids.getD x 0 = (k : Int)
      · exact .inr ⟨h1, e⟩
      · exact .inl ⟨h1, h2, by omega⟩
def IdsIn (ids : List Int) (n : Nat) : Prop := ∀ x, x < ids.length → 0 ≤ ids.getD x 0 ∧ ids.getD x 0 < (n : Int)
theorem IdsIn.of {ids : List Int} {n : Nat} (h : ∀ x ∈ ids, 0 ≤ x ∧ x < (n : Int)) : IdsIn ids n := fun x hx => by
  rw [List.getD_eq_getElem?_getD, List.getElem?_eq_getElem hx]; exact h _ (List.getElem_mem hx)
theorem a6A {ids : List Int} {n id : Nat} (h : id < n) : rowP n (fun i => idP ids i) id = idP ids id := by
  unfold rowP; rw [if_pos ⟨Int.natCast_nonneg _, by omega⟩, Int.toNat_natCast]
theorem am_id {ids ys : List Int} {n : Nat} (h : IdsIn ids n) {x : Nat} : amP n (fun i => idP ids i) ys ys.length x = true ↔ x < ids.length ∧ ids.getD x 0 ∈ ys := by
  rw [aeA]
  constructor
  · rintro ⟨j, h1, h2, h3, h4⟩
    obtain ⟨h5, h6⟩ := idP_iff.1 h4
    refine ⟨h5, ?_⟩
    rw [h6, Int.toNat_of_nonneg h2, List.getD_eq_getElem?_getD, List.getElem?_eq_getElem h1]
    exact List.getElem_mem h1
  · rintro ⟨h1, h2⟩
    obtain ⟨j, hj, he⟩ := List.getElem_of_mem h2
    have hg : ys.getD j 0 = ids.getD x 0 := by rw [List.getD_eq_getElem?_getD, List.getElem?_eq_getElem hj]; exact he
    have := h x h1
    refine ⟨j, hj, by omega, by omega, idP_iff.2 ⟨h1, ?_⟩⟩
    rw [hg, Int.toNat_of_nonneg this.1]
theorem a8A {p : Nat → Bool} {m T : Nat} (h : ∀ x, p x = true ↔ x < m) (hT : m ≤ T) : cnt p T = m := by
  have : p = itv 0 m := b0A fun x => by rw [h, itv_iff]; omega
  rw [this, cnt_itv]; omega
theorem azA {p : Nat → Bool} {T : Nat} (h : ∀ x, ¬ p x = true) : cnt p T = 0 := cnt_zero T fun i _ => by
  cases hp : p i
  · rfl
  · exact absurd hp (h i)
theorem aaA {p q : Nat → Bool} (h : ∀ x, p x = true → q x = true) : ∀ T, cnt p T ≤ cnt q T
  | 0 => Nat.le_refl _
  | T + 1 => by
    have ih := aaA h T
    simp only [cnt]
    by_cases hp : p T = true
    · rw [hp, h T hp]; simpa using ih
    · have : p T = false := by simpa using hp
      rw [this]; simp only [Bool.false_eq_true, if_false]; omega
end Go.LA
end
section
set_option linter.unusedSimpArgs false
set_option linter.unusedVariables false
namespace Go.LA
open Go.RowKit
def FW (ro : Option Nat) : Fence := { Fence.wide with round := ro }
section
variable {P : Program} {a : Act} {w : World} {Q : Exit → Act → World → Prop} {next : Act → World → Prop} {ro : Option Nat} {n : Nat} {ops : Array Oper}
theorem callsFW {f : FuncId} {args : Array Value} {R : Ending → World → Prop} (h : Calls P f args w R) : CallsIn (FW ro) n P f args w R := (callsIn_wide (n := n)).2 h
theorem rowsFW {row : String} {args : Array Value} {R : Value → World → Prop} (h : Rows P row args w R) : RowsIn (FW ro) n P row args w R := fun c cs _ =>
  let ⟨v, w', r, s⟩ := h c cs; ⟨v, w', r, (stepsIn_wide (P := P)).2 s⟩
theorem upIn {o : Oper} (hnd : ∀ c, o.op ≠ .defer c) (h : o.wp P a w next Q) : o.wpIn (FW ro) n P a w next Q := by
  refine ⟨fun _ _ => trivial, ?_⟩
  rw [Oper.semAt_eq _ _ _ hnd]
  unfold Oper.wp at h
  generalize (execOp a.eval o).run P w = res at h ⊢
  cases res with
  | ok nx w' =>
    cases nx <;> simp only [Oper.upon, Oper.uponIn] at h ⊢
    case value => exact h
    case skip => exact h
    case enter f args => exact ⟨fun h0 => absurd h0 Bool.false_ne_true, callsFW h⟩
    case row row args => exact ⟨fun h0 => absurd h0 Bool.false_ne_true, rowsFW h⟩
    case defer d => exact h
  | halt x w' => cases x <;> simp only [Oper.upon, Oper.uponIn] at h ⊢; exact h
def noDef : List Oper → Bool
  | [] => true
  | o :: r => (match o.op with | .defer _ => false | _ => true) && noDef r
theorem noDef_cons {o : Oper} {r : List Oper} (h : noDef (o :: r) = true) : (∀ c, o.op ≠ .defer c) ∧ noDef r = true := by
  simp only [noDef, Bool.and_eq_true] at h
  refine ⟨fun c hc => ?_, h.2⟩
  rw [hc] at h; exact absurd h.1 (by simp)
theorem listIn (hQ : ¬ LetsOut Q) : ∀ (l : List Oper), noDef l = true → ∀ (a : Act) (w : World), wpList P ops Q l a w → wpListIn (FW ro) n P ops Q l a w
  | [], _, _, _, h => h
  | o :: r, hn, a, w, h => by
    obtain ⟨h1, h2⟩ := noDef_cons hn
    simp only [wpList] at h
    simp only [wpListIn]
    split at h
    · rename_i hw
      rw [if_pos hw]
      rcases h with h | h
      · exact upIn h1 (Oper.wp_mono (fun a w => listIn hQ r h2 a w) h)
      · exact absurd h.2 hQ
    · rename_i hw
      rw [if_neg hw]
      exact ⟨fun _ _ => trivial, listIn hQ r h2 _ _ h⟩
end
section
variable {P : Program} {l : List Oper} {N : Nn} {wb : World} {K : List Oper → Env → Prop} {rest : List Oper} {E : Env} {Q : Exit → Act → World → Prop} {ro : Option Nat} {n : Nat}
variable {d : Tmp} {ty t t' : TypeId} {pos : String} {after : Array Edge} {g : Option (Nat × Bool)} {x y z : Operand} {k k' : IntKind} {c c' : Code} {id : Nat}
def CY (P : Program) (N : Nn) (ro : Option Nat) (n : Nat) (wb : World) (c : Code) (E : Env) (Q : Exit → Act → World → Prop) : Prop := ∀ a w, St N wb E a w → c.wpIn (FW ro) n P Q a w
theorem CX_ofY (n : Nat) (h : CY P N none n wb c E Q) : CX P N wb c E Q := by
  unfold CX; exact fun a w s => (wpIn_wide (n := n)).1 (h a w s)
theorem CY_seq (h : CY P N ro n wb c E (Exit.then (c'.wpIn (FW ro) n P Q) Q)) : CY P N ro n wb (.seq c c') E Q := fun a w s => wpIn_seq (h a w s)
theorem PY_then (h : CY P N ro n wb c E Q) : PX N wb (Exit.then (c.wpIn (FW ro) n P Q) Q) .normal E := by unfold PX; exact h
theorem CY_skip (h : PX N wb Q .normal E) : CY P N ro n wb .skip E Q := by unfold PX at h; exact fun a w s => wpIn_skip (h a w s)
theorem CY_ret (h : PX N wb Q .ret E) : CY P N ro n wb .ret E Q := by unfold PX at h; exact fun a w s => wpIn_ret (h a w s)
theorem CY_block (h : CY P N ro n wb c E (Exit.inBlock id Q)) : CY P N ro n wb (.block id c) E Q := fun a w s => wpIn_block (h a w s)
theorem CY_condT {o : Operand} (hc : opE E o = .val (.bool true)) (h : CY P N ro n wb c E Q) : CY P N ro n wb (.cond o c c') E Q := fun a w s =>
  wpIn_cond_true (by have := s.opd o; rw [hc] at this; exact this) (h a w s)
theorem CY_condF {o : Operand} (hc : opE E o = .val (.bool false)) (h : CY P N ro n wb c' E Q) : CY P N ro n wb (.cond o c c') E Q := fun a w s =>
  wpIn_cond_false (by have := s.opd o; rw [hc] at this; exact this) (h a w s)
theorem CY_region (hQ : ¬ LetsOut Q) (hnd : noDef l = true) (h : LX P N wb l Q l E) : CY P N ro n wb (.region id l.toArray false) E Q := by
  unfold LX at h
  exact fun a w s => wpIn_region_list (by simpa using listIn hQ l hnd a w (by simpa using h a w s))
def LY (P : Program) (N : Nn) (n : Nat) (wb : World) (l : List Oper) (Q : Exit → Act → World → Prop) (rest : List Oper) (E : Env) : Prop := ∀ a w, St N wb E a w → wpListIn (FW none) n P l.toArray Q rest a w
theorem CX_regionY (n : Nat) (h : LY P N n wb l Q l E) : CX P N wb (.region id l.toArray false) E Q :=
  CX_ofY n fun a w s => wpIn_region_list (by simpa using h a w s)
theorem LY_of_LA (hQ : ¬ LetsOut Q) {m : List Oper} (hd : okD m N.n = true) (hnd : noDef m = true) : ∀ {E : Env}, LA P l wb (fun rest E => LY P N n wb l Q rest E) m E → LY P N n wb l Q m E := by
  induction m with
  | nil => intro E h; rw [LA_nil_iff] at h; exact h
  | cons o rest ih =>
    intro E h
    obtain ⟨h1, h2⟩ := noDef_cons hnd
    simp only [okD, List.all_cons, Bool.and_eq_true] at hd
    rw [LA_cons_iff] at h
    rcases h with ⟨r, hs, h⟩ | h
    · intro a w hst
      have key := stp_wp (l := l) (Q := Q) (K := wpListIn (FW none) n P l.toArray Q rest) hs hst.ext (fun t _ => hst.sat t) (fun v w' he hv => by
        refine ih hd.2 h2 h _ _ (hst.push he (fun d hd' => ?_) (.inr hv))
        have := hd.1; rw [hd'] at this; simpa using this)
      simp only [wpListIn]
      split at key
      · rename_i hw
        rw [if_pos hw]
        rcases key with key | key
        · exact upIn h1 key
        · exact absurd key.2 hQ
      · rename_i hw
        rw [if_neg hw]
        exact ⟨fun _ _ => trivial, key⟩
    · exact h
theorem LY_la (hQ : ¬ LetsOut Q) {m : List Oper} {E : Env} (hd : okD m N.n = true) (hnd : noDef m = true) (h : ∀ K : List Oper → Env → Prop, (∀ rest E, LY P N n wb l Q rest E → K rest E) → LA P l wb K m E) : LY P N n wb l Q m E :=
  LY_of_LA hQ hd hnd (h _ (fun _ _ h => h))
theorem LY_nil (h : PX N wb Q .normal E) : LY P N n wb l Q [] E := by unfold PX at h; exact h
theorem LY_yield {lp : Nat} {ats : Array TypeId} {v : Value} (hd : d < N.n) (hx : opE E x = .val (.func (.yield lp) #[] #[])) (hy : opE E y = .val v) (R : Bool → World → Prop)
    (hY : ∀ w, Ext wb w → YieldAt Fence.wide (n - 1) P lp #[v] w fun e w' => ∃ b, e = .returned (.bool b) ∧ R b w') (h : ∀ b w', R b w' → LY P N n w' l Q rest ((d, .val (.bool b)) :: vals E)) :
    LY P N n wb l Q (⟨some d, .call ⟨.value x, #[y], ats⟩, ty, pos, after, none⟩ :: rest) E := by
  intro a w s
  have e1 := s.opd x; rw [hx] at e1; simp only [AD.ok] at e1
  have e2 := s.opd y; rw [hy] at e2; simp only [AD.ok] at e2
  obtain ⟨fn, tmps, assign, body, hy, hR⟩ := hY w s.ext
  refine wpListIn_plain rfl fun Kc hK => ⟨fun _ _ => trivial, ?_⟩
  have hrun : (execOp a.eval ⟨some d, .call ⟨.value x, #[y], ats⟩, ty, pos, after, none⟩).run P w = .ok (.round lp fn tmps assign body) w := by
    simp only [execOp, resolve, Deferred.ofValue, e1, e2, List.map_toArray, List.map_cons, List.map_nil, Sem.run_bind, Sem.run_pure, Result.andThen_ok, invoke]
    simpa using hy
  rw [show (FW none).round = none from rfl, Oper.semAt_none, hrun]
  simp only [Oper.uponIn]
  refine ⟨fun h0 => absurd h0 Bool.false_ne_true, RoundIn.mono hR ?_⟩
  rintro e w' ⟨b, rfl, hb⟩
  exact hK _ _ (h b w' hb _ _ ((s.vals (w' := w')).push (Ext.refl _) (dst := some d) (r := .val (.bool b)) (fun d' hd' => by cases hd'; exact hd) (.inr rfl)))
def DsOK (B : Nat) : List Deferred → World → Prop
  | [], _ => True
  | d :: ds, w => (∃ D, B ≤ D ∧ d = { target := .collected D, args := #[] } ∧ w.heap[D]? = some (.deferred (some [])) ∧ ∀ D', { target := .collected D', args := #[] } ∈ ds → D' ≠ D) ∧ DsOK B ds w
theorem DsOK.kept {B : Nat} : ∀ {ds : List Deferred} {w w' : World}, DsOK B ds w → KeepsFrom B w w' → DsOK B ds w'
  | [], _, _, _, _ => trivial
  | _ :: _, _, _, ⟨⟨D, h1, h2, h3, h4⟩, h⟩, k => ⟨⟨D, h1, h2, k.same _ _ h1 h3 rfl, h4⟩, h.kept k⟩
theorem DsOK.block {B : Nat} : ∀ {ds : List Deferred} {w : World}, DsOK B ds w → ∀ D', ({ target := .collected D', args := #[] } : Deferred) ∈ ds → w.heap[D']? = some (.deferred (some []))
  | [], _, _, _, hm => by cases hm
  | _ :: _, _, ⟨⟨D, h1, h2, h3, h4⟩, h⟩, D', hm => by
    rcases List.mem_cons.1 hm with hm | hm
    · rw [← hm] at h2
      have : D' = D := by injection h2 with e _; injection e
      rw [this]; exact h3
    · exact h.block D' hm
theorem DsOK.push {B D : Nat} {ds : List Deferred} {w' : World} (h : DsOK B ds w') (hB : B ≤ D) (hD : w'.heap[D]? = some (.deferred (some []))) (hlt : ∀ D', ({ target := .collected D', args := #[] } : Deferred) ∈ ds → D' ≠ D) :
    DsOK B ({ target := .collected D, args := #[] } :: ds) w' := ⟨⟨D, hB, rfl, hD, hlt⟩, h⟩
structure Dfd (B : Nat) (w w' : World) : Prop where
  os : w'.os = w.os
  tape : w'.tape = w.tape
  output : w'.output = w.output
  size : w'.heap.size = w.heap.size
  block : ∀ k o, (k < B ∨ o.isCells = true) → w.heap[k]? = some o → w'.heap[k]? = some o
theorem Dfd.refl (B : Nat) (w : World) : Dfd B w w := ⟨rfl, rfl, rfl, rfl, fun _ _ _ h => h⟩
theorem Dfd.put {B D : Nat} {w w' : World} (h : Dfd B w w') (hB : B ≤ D) (hD : ∃ x, w'.heap[D]? = some (.deferred x)) (x : Option (List Deferred)) : Dfd B w (w'.putObj D (.deferred x)) :=
  ⟨h.os, h.tape, h.output, by rw [World.putObj_size]; exact h.size, fun k o hk ho => by
    have h1 := h.block k o hk ho
    by_cases e : k = D
    · subst e
      obtain ⟨y, hy⟩ := hD
      rw [hy] at h1; cases h1
      rcases hk with hk | hk
      · omega
      · cases hk
    · rw [World.putObj_heap_other e]; exact h1⟩
theorem Dfd.below {B : Nat} {w w' : World} (h : Dfd B w w') (hB : B ≤ w.heap.size) : Below B w w' := ⟨h.os, h.tape, h.output, Nat.le_of_eq h.size.symm, fun k hk => by
  have hlt : k < w.heap.size := by omega
  rw [Array.getElem?_eq_getElem hlt, h.block k w.heap[k] (.inl hk) (Array.getElem?_eq_getElem hlt)]⟩
theorem leavesM {B : Nat} {fn : Func} {tmps : Array Value} {R : Ending → World → Prop} : ∀ (ds : List Deferred) (w w1 : World), Dfd B w1 w → DsOK B ds w →
    (∀ w', Dfd B w1 w' → ∃ v, (results fn tmps).run P w' = .ok v w' ∧ R (.returned v) w') → LeavesInM (FW none) n P fn tmps R ds .returning w
  | [], w, w1, hf, _, h => by
    obtain ⟨v, h1, h2⟩ := h w hf
    exact ⟨v, h1, h2⟩
  | d :: ds, w, w1, hf, ⟨⟨D, h1, h2, h3, h4⟩, hd⟩, h => by
    subst h2
    refine ⟨by simp, .inl ⟨D, _, rfl, run_takeDeferred h3, leavesM ds _ w1 (hf.put h1 ⟨_, h3⟩ none) ?_ h⟩⟩
    have key : ∀ (es : List Deferred), (∀ D', ({ target := .collected D', args := #[] } : Deferred) ∈ es → D' ≠ D) → DsOK B es w → DsOK B es (w.putObj D (.deferred none)) := by
      intro es
      induction es with
      | nil => intros; trivial
      | cons d' es ih =>
        rintro hne ⟨⟨D', g1, g2, g3, g4⟩, g5⟩
        refine ⟨⟨D', g1, g2, ?_, g4⟩, ih (fun D'' hm => hne D'' (List.mem_cons_of_mem _ hm)) g5⟩
        rw [World.putObj_heap_other (hne D' (by rw [g2]; exact List.mem_cons_self))]; exact g3
    exact key ds h4 hd
theorem Fc.ofM {f : FuncId} {fn : Func} {c : Code} {args : List Value} {w : World} {R : Ending → World → Prop} {kN : Nat} (hf : P.funcs[f]? = some fn) (hb : fn.body = some c) (hname : (fn.name == "runtime.NumGoroutine") = false) (hn : fn.ntmps = kN) (hle : args.length ≤ kN)
    (h : CX P ⟨kN, []⟩ w c (argEnv args 0) (bodyPostM (FW none) 3 P fn R)) : Fc P f args.toArray w R := by
  unfold Fc
  refine ⟨run_call_func hf hb hname, (callsIn_wide (n := 3)).1 (callsIn_of_wp_marks (F := Fence.wide) hf hb trivial ((wpIn_wide (n := 3)).2 ?_))⟩
  unfold CX at h
  refine h _ _ ⟨?_, rfl, Ext.refl _, ?_⟩
  · simp [hn]; omega
  · refine sat_of_all _ (fun d r hm => argEnv_ok _ args 0 (fun k v hk => ?_) d r hm w)
    have hlt := (List.getElem?_eq_some_iff.1 hk).1
    have hv := (List.getElem?_eq_some_iff.1 hk).2
    simp only [Nat.zero_add, Array.getD_eq_getD_getElem?]
    rw [Array.getElem?_append_left (by simpa using hlt)]
    simp [hlt, hv]
theorem results_cell1 {fn : Func} {p : Tmp} {b : Nat} {e : TypeId} {cs : Array Value} {j : Nat × Nat} {c : Value} {tmps : Array Value} {w : World} (hr : fn.results = #[.cell p t]) (hp : tmps.getD p undef = .pointer (some ⟨b, 0, none⟩)) (hb : w.heap[b]? = some (.cells cs e j)) (hl : (loadVar t ⟨b, 0, none⟩).run P w = .ok c w) :
    (results fn tmps).run P w = .ok c w := by
  have hp' : tmps[p]?.getD undef = .pointer (some ⟨b, 0, none⟩) := by simpa using hp
  simp [results, hr, hp', asAddr, hl]
theorem PX_retM {fn : Func} {w0 : World} {p b : Nat} {e : TypeId} {dsc : TypeDesc} {v : Value} (hr : fn.results = #[.cell p t]) (hl : lkE E p = .val (.pointer (some ⟨b, 0, none⟩))) (hb : wb.heap[b]? = some (.cells #[v] e (0, 0)))
    (hload : ∀ w, w.heap[b]? = some (.cells #[v] e (0, 0)) → (loadVar t ⟨b, 0, none⟩).run P w = .ok v w) (he : Ext w0 wb) (hD : DsOK w0.heap.size N.ds wb) {ex : Exit} (hx : ex = .normal ∨ ex = .ret) :
    PX N wb (bodyPostM (FW none) n P fn (Ret w0 (.val v))) ex E := by
  have key : ∀ a w, St N wb E a w → LeavesInM (FW none) n P fn a.tmps (Ret w0 (.val v)) a.defers .returning w := fun a w s => by
    rw [s.df]
    refine leavesM (B := w0.heap.size) N.ds w w (Dfd.refl _ _) (hD.kept ⟨s.ext.size, fun k o _ ho _ => s.ext.block ho⟩) (fun w' hw' => ?_)
    have hp := s.sat p
    rw [hl] at hp
    have hb' : w'.heap[b]? = some (.cells #[v] e (0, 0)) := hw'.block b _ (.inr rfl) (s.ext.block hb)
    exact ⟨v, results_cell1 hr hp hb' (hload w' hb'), v, rfl, Below.trans (he.trans s.ext) (hw'.below (he.trans s.ext).size), rfl⟩
  unfold PX
  rcases hx with rfl | rfl <;> exact key
theorem Ext.grownBy {w w' : World} (h : Ext w w') : w.grownBy w' none := ⟨h.os, h.tape, h.output, h.size, fun k hk _ => Below.block h k hk⟩
theorem Ext.keeps {w w' : World} (h : Ext w w') (B : Nat) : KeepsFrom B w w' := ⟨h.size, fun _ _ _ ho _ => h.block ho⟩
theorem St.anyw {a : Act} {w w' : World} (s : St N w (LA.vals E) a w) : St N w' (LA.vals E) a w' := ⟨s.sz, s.df, Ext.refl _, fun t => by
  have h := s.sat t
  rw [vals_ok] at h ⊢
  revert h
  cases lkE E t <;> exact id⟩
def Asg (N : Nn) (W : World) (E₁ : Env) : Exit → Act → World → Prop := Exit.then (fun a' W' => Ext W W' ∧ St N W' (vals E₁) a' W') (fun _ _ _ => False)
theorem PX_asg {W : World} {E₁ : Env} (he : Ext W wb) (hs : Sub wb E (vals E₁)) : PX N wb (Asg N W E₁) .normal E := by
  unfold PX
  exact fun a w s => ⟨he.trans s.ext, (hs.st s).rebase⟩
theorem CX_range {α : Type} {p : Tmp} {assign body : Code} {gf : Nat} {lb : Array Value} {enc : α → Value} {Kp : World → World → Prop} {S Sp : List α → Prop} {M : Nat} (hp : p < N.n)
    (hg : opE E x = .val (.func (.func gf) #[] lb)) (eg : ∀ args w, (callFunc gf args).run P w = .ok (.enter gf args) w)
    (hseq : ∀ w, Ext wb w → SeqStopsK Fence.wide 2 P gf lb (fun x => #[enc x]) Kp S Sp M w) (hKt : ∀ {A B C : World}, Kp A B → Kp B C → Kp A C) (hKe : ∀ {A B : World}, Ext A B → Kp A B)
    (hKb : ∀ (W : World) (l : Nat) (o o' : Obj), wb.heap.size ≤ l → W.heap[l]? = some o → o.isCells = false → o.isWalk = false → Kp W (W.putObj l o'))
    (I : List α → World → Prop) (Ix : Code → List α → World → Prop) (hI : OwnFrom wb.heap.size I) (hIx : ∀ c, OwnFrom wb.heap.size (Ix c)) (h0 : ∀ w, Ext wb w → I [] w) (E₁ : α → Env)
    (hassign : ∀ (l : Nat) (u : α) (W : World), CY P ⟨N.n, []⟩ (some l) 1 W assign ((p, .val (enc u)) :: vals E) (Asg ⟨N.n, []⟩ W (E₁ u)))
    (hbody : ∀ (B l : Nat) (pre : List α) (u : α) (W : World), wb.heap.size ≤ B → I pre W → pre.length < M → CY P ⟨N.n, []⟩ (some l) 1 W body (vals (E₁ u)) (ownPostG B Kp I Ix (pre ++ [u]) W))
    (hdone : ∀ (D : Nat) (us : List α) (W : World), wb.heap.size ≤ D → S us → I us W → W.heap[D]? = some (.deferred (some [])) → PX ⟨N.n, { target := .collected D, args := #[] } :: N.ds⟩ W Q .normal (vals E))
    (hstop : ∀ (D : Nat) (c : Code) (pre : List α) (W : World), wb.heap.size ≤ D → Sp pre → Ix c pre W → W.heap[D]? = some (.deferred (some [])) → CX P ⟨N.n, { target := .collected D, args := #[] } :: N.ds⟩ W c (vals E) Q) :
    CX P N wb (.rangeFunc x #[p] assign body) E Q := by
  unfold CX
  intro a w s
  have e1 := s.opd x; rw [hg] at e1; simp only [AD.ok] at e1
  have hle := s.ext.size
  have hI' : ∀ {β : Type} {J : β → World → Prop}, OwnFrom wb.heap.size J → OwnFrom w.heap.size J := fun h s' W W' row hs hg hr => h s' W W' row hs hg (fun r e => ⟨Nat.le_trans hle (hr r e).1, (hr r e).2⟩)
  have sv : ∀ (W : World) (u : Value), St ⟨N.n, []⟩ W ((p, .val u) :: vals E) { tmps := a.tmps.setIfInBounds p u, defers := [] } W := fun W u => by
    have s0 := s.vals (w' := W)
    have s1 : St ⟨N.n, []⟩ W (vals E) { tmps := a.tmps, defers := [] } W := ⟨s0.sz, rfl, s0.ext, s0.sat⟩
    exact s1.push (Ext.refl _) (dst := some p) (r := .val u) (fun d' hd' => by cases hd'; exact hp) (.inr rfl)
  refine (wpIn_wide (n := 3)).1 (wpIn_rangeFunc_ownH (F := Fence.wide) (n := 3) rfl (by decide) e1 trivial eg (hseq w s.ext) (fun h k => hKt h k) (fun W l o o' hl => hKb W l o o' (Nat.le_trans hle hl)) (Below.refl _ _) (fun _ => rfl)
    I Ix (hI' hI) (fun c => hI' (hIx c)) (h0 w s.ext) (fun u a' W => St ⟨N.n, []⟩ W (vals (E₁ u)) a' W) (fun u a' _ W W' row hs _ _ => hs.anyw) ?_ ?_ ?_ ?_)
  · intro l pre u W K hi hK
    have h1 := hassign l u W _ _ (sv W (enc u))
    rw [show ({ tmps := a.tmps.setIfInBounds p (enc u), defers := [] } : Act) = { tmps := (#[p].zip #[enc u]).foldl (fun t (p, v) => t.setIfInBounds p v) a.tmps, defers := [] } by simp] at h1
    refine wpIn_mono h1 ?_
    rintro e a' W' h
    cases e <;> simp only [Asg, Exit.then] at h
    case normal =>
      refine hK a' W' (h.1.keeps _) (hKe h.1) ?_ h.2
      exact hI pre W W' none hi h.1.grownBy (fun r e => by cases e)
  · intro l pre u a' W hl hr hi hax hlen
    exact hbody _ l pre u W hle hi hlen a' W hax
  · intro D us W hD hS hi hd
    have h1 := hdone D us W (Nat.le_trans hle hD) hS hi hd
    unfold PX at h1
    have s0 := s.vals (w' := W)
    exact h1 _ _ ⟨s0.sz, by show _ :: a.defers = _; rw [s.df], s0.ext, s0.sat⟩
  · intro D c pre W hD hS hi hd
    have h1 := hstop D c pre W (Nat.le_trans hle hD) hS hi hd
    unfold CX at h1
    have s0 := s.vals (w' := W)
    exact (wpIn_wide (n := 3)).2 (h1 _ _ ⟨s0.sz, by show _ :: a.defers = _; rw [s.df], s0.ext, s0.sat⟩)
theorem PX_ownN {α : Type} {B : Nat} {Kp : World → World → Prop} {I : List α → World → Prop} {Ix : Code → List α → World → Prop} {us : List α} {W : World} (h : ∀ w, Ext wb w → KeepsFrom B W w ∧ Kp W w ∧ I us w) :
    PX N wb (ownPostG B Kp I Ix us W) .normal E := by unfold PX; exact fun a w s => h w s.ext
theorem PX_ownR {α : Type} {B : Nat} {Kp : World → World → Prop} {I : List α → World → Prop} {Ix : Code → List α → World → Prop} {us : List α} {W : World} (h : ∀ w, Ext wb w → KeepsFrom B W w ∧ Ix .ret us w) :
    PX N wb (ownPostG B Kp I Ix us W) .ret E := by unfold PX; exact fun a w s => h w s.ext
theorem ownPostG_out {α : Type} {B : Nat} {Kp : World → World → Prop} {I : List α → World → Prop} {Ix : Code → List α → World → Prop} {us : List α} {W : World} : ¬ LetsOut (ownPostG B Kp I Ix us W) := fun ⟨_, _, h⟩ => h
theorem then_out {F : Act → World → Prop} (h : ¬ LetsOut Q) : ¬ LetsOut (Exit.then F Q) := h
theorem block_out (h : ¬ LetsOut Q) : ¬ LetsOut (Exit.inBlock id Q) := h
theorem asg_out {W : World} {E₁ : Env} : ¬ LetsOut (Asg N W E₁) := fun ⟨_, _, h⟩ => h
def KpT (w0 : World) (bad : TypeId → Bool) (W W' : World) : Prop := (Ext w0 W → Ext w0 W') ∧ W.heap.size ≤ W'.heap.size ∧ ∀ (k : Nat) (cs : Array Value) (t : TypeId) (j : Nat × Nat), bad t = false → W.heap[k]? = some (.cells cs t j) → W'.heap[k]? = some (.cells cs t j)
theorem KpT.trans {w0 : World} {bad : TypeId → Bool} {A B C : World} (h : KpT w0 bad A B) (k : KpT w0 bad B C) : KpT w0 bad A C := ⟨fun e => k.1 (h.1 e), Nat.le_trans h.2.1 k.2.1, fun i cs t j hb hi => k.2.2 i cs t j hb (h.2.2 i cs t j hb hi)⟩
theorem KpT.ext {w0 : World} {bad : TypeId → Bool} {A B : World} (h : Ext A B) : KpT w0 bad A B := ⟨fun e => e.trans h, h.size, fun _ _ _ _ _ hi => h.block hi⟩
theorem KpT.putObj {w0 : World} {bad : TypeId → Bool} {W : World} {l : Nat} {o : Obj} (o' : Obj) (hl : w0.heap.size ≤ l) (h : W.heap[l]? = some o) (hc : o.isCells = false) : KpT w0 bad W (W.putObj l o') :=
  ⟨fun e => Below.grown e (grownBy_putObj' W l o') e.size (fun k e' => by cases e'; exact hl), by rw [World.putObj_size]; exact Nat.le_refl _, fun k cs t j _ hk => by
    rw [World.putObj_heap_other (fun e' => by subst e'; rw [h] at hk; cases hk; cases hc)]; exact hk⟩
def CutN {ι : Type} (Nf : ι → Nn) (J : ι → Env) (I : ι → World → Prop) : Act → World → Prop := fun a w => ∃ i, I i w ∧ St (Nf i) w (J i) a w
theorem PX_cutN {ι : Type} {Nf : ι → Nn} {J : ι → Env} {I : ι → World → Prop} (i : ι) (h : ∀ w, Ext wb w → I i w) (hN : Nf i = N) (hs : Sub wb E (J i)) : PX N wb (Exit.then (CutN Nf J I) Q) .normal E := by
  unfold PX
  intro a w s
  exact ⟨i, h w s.ext, by rw [hN]; exact (hs.st s).rebase⟩
theorem kp_fr {R : Nat → Prop} {w0 W W' : World} {bad : TypeId → Bool} (hf : Fr R W W') (hx : Ext w0 W → Ext w0 W') (hR : ∀ k, R k → ∃ (cur : Array Value) (e : TypeId) (j : Nat × Nat), W.heap[k]? = some (.cells cur e j) ∧ bad e = true) : KpT w0 bad W W' ∧ ∀ B, KeepsFrom B W W' := by
  refine ⟨⟨hx, hf.size, fun k cs t j hb hk => hf.at hk fun hr => ?_⟩, fun B => ⟨hf.size, fun k o _ hk ho => hf.at hk fun hr => ?_⟩⟩
  · obtain ⟨cur, e, j', h1, h2⟩ := hR k hr
    rw [hk] at h1; cases h1; rw [hb] at h2; cases h2
  · obtain ⟨cur, e, j', h1, h2⟩ := hR k hr
    rw [hk] at h1; cases h1; cases ho
theorem kept_ext {W W' w0 : World} {row : Option Nat} {B : Nat} (h : Ext w0 W) (hB : w0.heap.size ≤ B) (hg : W.grownBy W' row) (hr : ∀ r, row = some r → B ≤ r) : Ext w0 W' := Ext.grown h hg (fun k hk => Nat.le_trans hB (hr k hk))
theorem DsOK.more {B D : Nat} {ds : List Deferred} {w1 w w' : World} (h : DsOK B ds w1) (e1 : Ext w1 w) (hB : B ≤ D) (hD1 : w1.heap.size ≤ D) (hk : KeepsFrom B w1 w') (hD : w'.heap[D]? = some (.deferred (some []))) : DsOK B ({ target := .collected D, args := #[] } :: ds) w' :=
  (h.kept hk).push hB hD (fun D' hm e => by
    have h1 := h.block D' hm
    have := (Array.getElem?_eq_some_iff.1 h1).1
    omega)
end
attribute [irreducible] CY LY
end Go.LA
end
section
set_option linter.unusedSimpArgs false
set_option linter.unusedVariables false
namespace Go.LA
open Go.RowKit
section
variable {P : Program} {N : Nn} {wb : World} {E : Env} {Q : Exit → Act → World → Prop} {c : Code} {t : TypeId}
def RndN {ι : Type} (Nf : ι → Nn) (J : ι → Env) (I : ι → World → Prop) (μ : ι → Nat) (m : Nat) : Act → World → Prop := fun a w => ∃ i, (I i w ∧ St (Nf i) w (J i) a w) ∧ μ i < m
theorem CX_loopN {ι : Type} (Nf : ι → Nn) (J : ι → Env) (I : ι → World → Prop) (μ : ι → Nat) (h0 : ∀ w, Ext wb w → ∃ i, Nf i = N ∧ I i w ∧ Sub wb E (J i))
    (hr : ∀ i w, I i w → CX P (Nf i) w c (J i) (Exit.then (RndN Nf J I μ (μ i)) Q)) : CX P N wb (.loop c) E Q := by
  unfold CX at hr ⊢
  intro a w s
  obtain ⟨i, hN, h1, h2⟩ := h0 w s.ext
  exact wp_loop_idx (fun i a w => I i w ∧ St (Nf i) w (J i) a w) μ (fun i a w h => hr i w h.1 a w h.2) ⟨h1, by rw [hN]; exact (h2.st s).rebase⟩
theorem PX_rndN {ι : Type} {Nf : ι → Nn} {J : ι → Env} {I : ι → World → Prop} {μ : ι → Nat} {m : Nat} (i : ι) (hN : Nf i = N) (h0 : ∀ w, Ext wb w → I i w) (hm : μ i < m) (hs : Sub wb E (J i)) :
    PX N wb (Exit.then (RndN Nf J I μ m) Q) .normal E := by
  unfold PX
  exact fun _ w s => ⟨i, ⟨h0 w s.ext, by rw [hN]; exact (hs.st s).rebase⟩, hm⟩
theorem load_one {b : Nat} {e : TypeId} {v : Value} (ht : ∀ w, (isAgg t).run P w = .ok false w) (w : World) (h : w.heap[b]? = some (.cells #[v] e (0, 0))) : (loadVar t ⟨b, 0, none⟩).run P w = .ok v w := by
  have hc : w.cell? ⟨b, 0, none⟩ = some v := by rw [cell_of_row w b 0 #[v] e (0, 0) h]; rfl
  simp only [loadVar, Sem.run_bind, ht, Result.andThen_ok, Bool.false_eq_true, if_false, run_load, hc]
theorem opIn {ro : Option Nat} {n i : Nat} {ops : Array Oper} {K K' : Act → World → Prop} {a : Act} {w : World} (hQ : ¬ LetsOut Q) (hnd : ∀ o : Oper, ops[i]? = some o → ∀ c, o.op ≠ .defer c) (hK : ∀ a w, K a w → K' a w) (h : wpOp P ops Q i K a w) : wpOpIn (FW ro) n P ops Q i K' a w := by
  unfold wpOp at h
  unfold wpOpIn
  cases ho : ops[i]? with
  | none => rw [ho] at h; exact hK _ _ h
  | some o =>
    rw [ho] at h
    dsimp only at h ⊢
    split at h
    · rename_i hw
      rw [if_pos hw]
      rcases h with h | h
      · exact upIn (hnd o ho) (Oper.wp_mono hK h)
      · exact absurd h.2 hQ
    · rename_i hw
      rw [if_neg hw]
      exact ⟨fun _ _ => trivial, hK _ _ h⟩
theorem anyIn {ro : Option Nat} {n : Nat} {md : Region.Mode} {ops : Array Oper} (hQ : ¬ LetsOut Q) (hnd : ∀ (i : Nat) (o : Oper), ops[i]? = some o → ∀ c, o.op ≠ .defer c) : ∀ (fuel : Nat) (listed : Array Bool) (a : Act) (w : World), wpAny P md ops Q fuel listed a w → wpAnyIn (FW ro) n P md ops Q fuel listed a w
  | 0, _, _, _, h => h
  | fuel + 1, listed, a, w, h => ⟨h.1, fun i hi => opIn hQ (hnd i) (fun a w h => anyIn hQ hnd fuel _ a w h) (h.2 i hi)⟩
theorem noDef_mem : ∀ {l : List Oper}, noDef l = true → ∀ o ∈ l, ∀ c, o.op ≠ .defer c
  | [], _, _, h => by cases h
  | _ :: _, h, o, hm => by
    obtain ⟨h1, h2⟩ := noDef_cons h
    rcases List.mem_cons.1 hm with rfl | hm
    · exact h1
    · exact noDef_mem h2 o hm
theorem CY_regionA {ro : Option Nat} {n id : Nat} {l : List Oper} (hQ : ¬ LetsOut Q) (hP : P.follows .mixedOrders = true) (hok : okR l l.length N.n = true) (hnd : noDef l = true)
    (h : ∀ K : List Oper → Env → Prop, (∀ E, PX N wb Q .normal E → K [] E) → LA P l wb K l E) : CY P N ro n wb (.region id l.toArray true) E Q := by
  unfold CY
  intro a w hst
  have hok' := okR_spec hok
  obtain ⟨Φ, n', -, hn', -, h2, hlen, h3⟩ := LA_spec l E l.length 0 (fun _ => .any) (by omega) (h (fun rest E => rest = [] ∧ PX N wb Q .normal E) (fun E h => ⟨rfl, h⟩))
  obtain rfl : n' = l.length := by
    have := congrArg List.length hlen
    simp at this; omega
  refine wpIn_region_any hP (anyIn hQ (fun i o ho => noDef_mem hnd o (List.mem_of_getElem? (by simpa using ho))) _ _ _ _ ?_)
  rw [List.size_toArray]
  refine any_of (E0 := E) (wb := wb) (N := N) hok' (Nat.le_refl _) (fun i o hi ho => h2 i o (Nat.zero_le _) hi ho) (fun a w' hI => ?_) _ _ _ _ (by simp) (by simp) (fun j hj => ?_) ?_
  · have h4 := h3
    unfold PX at h4
    simp only [List.drop_length, wpList]
    exact h4 a w' (hI.st hok')
  · simp [Array.getD_eq_getD_getElem?, Array.getElem?_replicate] at hj
    split at hj <;> cases hj
  · refine ⟨hst.sz, hst.df, hst.ext.trans Ext.drawn, ?_, ?_, fun t _ => (lkE E t).mono Ext.drawn (hst.sat t)⟩
    · intro j o hj; simp [Array.getD_eq_getD_getElem?, Array.getElem?_replicate] at hj; split at hj <;> cases hj
    · intro j o d hj; simp [Array.getD_eq_getD_getElem?, Array.getElem?_replicate] at hj; split at hj <;> cases hj
theorem CX_regN {ι : Type} {id : Nat} {l : Array Oper} {m : Bool} {c' : Code} (Nf : ι → Nn) (J : ι → Env) (I : ι → World → Prop) (h1 : CX P N wb (.region id l m) E (Exit.then (CutN Nf J I) Q)) (h2 : ∀ i w, I i w → CX P (Nf i) w c' (J i) Q) : CX P N wb (.seq (.region id l m) c') E Q := by
  unfold CX at h1 h2 ⊢
  intro a w s
  refine wp_seq (wp_mono (h1 a w s) ?_)
  intro e a' w' h
  cases e <;> simp only [Exit.then] at h ⊢ <;> first | exact h | skip
  obtain ⟨i, hi, hs⟩ := h
  exact h2 i w' hi a' w' hs
theorem PX_okM {n : Nat} {fn : Func} {w w1 w4 : World} {b : Nat} {p : Tmp} {e : TypeId} {x : Bool} (hr : fn.results = #[.cell p t]) (hl : lkE E p = .val (.pointer (some ⟨b, 0, none⟩))) (ht : ∀ w, (isAgg t).run P w = .ok false w) (h1 : w1.heap[b]? = some (.cells #[.bool x] e (0, 0))) (hb : w.heap.size ≤ b) (he : Ext w w1) (e4 : Ext w1 w4) (hD : DsOK w.heap.size N.ds w1) (y : Bool) :
    PX N (w4.setRow b (#[.bool x].setIfInBounds 0 (.bool y))) (bodyPostM (FW none) n P fn (Ret w (.val (.bool y)))) .ret E := by
  have hf : Fr (fun k => k = b) w1 (w4.setRow b #[.bool y]) := Fr.setRow (R := fun k => k = b) (Fr.of e4) rfl _
  have hk := (kp_fr (w0 := w) (bad := fun _ => true) hf (fun h => Fr.ext h hf (fun k hk => by subst hk; exact hb)) (fun k hk => by subst hk; exact ⟨_, _, _, h1, rfl⟩)).2
  refine PX_retM (e := e) (dsc := .bool) hr hl (setRow_heap w4 b _ _ _ _ (e4.block h1)) (fun w h => load_one ht w h) ((he.trans e4).setRow hb _) (hD.kept (hk _)) (.inr rfl)
end
end Go.LA
end
section
set_option linter.unusedSimpArgs false
set_option linter.unusedVariables false
namespace Go.LA
open Go.RowKit Go.ArrP
theorem listS_key {p : Nat → Bool} {i j : Nat} (hi : i < nk p) (hj : j < cnt (blk p (kp p i)) 65536) : ∃ r : Nat, r < 65536 ∧ (listS (blk p (kp p i)) 65536).getD j 0 = (r : Int) ∧ cnt p (kp p i * 65536) + j < cnt p TOP ∧
    (listS p TOP).getD (cnt p (kp p i * 65536) + j) 0 = (kp p i : Int) * 65536 + r ∧ kp p i < 65536 := by
  obtain ⟨r, h1, h2, h3, h4⟩ := getD_listS (blk p (kp p i)) (n := 65536) (k := j) hj
  have hk := (kp_at hi).1
  have htop := TOP_eq
  have hp : p (kp p i * 65536 + r) = true := by rw [← blk_at (p := p) (k := kp p i) h1]; exact h2
  have hc : cnt p (kp p i * 65536 + r) = cnt p (kp p i * 65536) + j := by rw [cnt_blk p _ r (by omega), h3]
  have hlt : kp p i * 65536 + r < TOP := by omega
  have hs : cnt p (kp p i * 65536 + r + 1) = cnt p (kp p i * 65536 + r) + 1 := by simp only [cnt, hp, if_true]
  have hm := cnt_mono p (m := kp p i * 65536 + r + 1) TOP (by omega)
  refine ⟨r, h1, h4, by omega, ?_, hk⟩
  rw [← hc, listS_at p TOP _ hlt hp]
  omega
theorem take_more {l : List Int} {m : Nat} (h : m < l.length) : l.take (m + 1) = l.take m ++ [l.getD m 0] := by
  rw [List.take_succ_eq_append_getElem h, List.getD_eq_getElem?_getD, List.getElem?_eq_getElem h]; rfl
theorem OwnI.kp {base e : Nat} {k : IntKind} {w0 w w' : World} {v : Value} {xs : List Int} {bad : TypeId → Bool} (h : OwnI base e k w v xs) (hk : KpT w0 bad w w') (hb : bad e = false) : OwnI base e k w' v xs := by
  refine ⟨h.1, ?_⟩
  rcases h.2 with hn | ⟨g, cap, cur, h1, h2, h3, h4⟩
  · exact .inl hn
  · exact .inr ⟨g, cap, cur, h1, h2, hk.2.2 g cur e (0, 0) hb h3, h4⟩
theorem int_cells {k : IntKind} {n : Int} : ∀ u ∈ (Value.int k n).cells.toList, u.oneCell' = true := fun u hu => by
  have : u = .int k n := by simpa [Value.cells] using hu
  subst this; rfl
abbrev U32 := { x : Int // 0 ≤ x ∧ x < 4294967296 }
abbrev vU (l : List U32) : List Int := l.map (fun x => x.1)
section
variable {P : Program} {l : List Oper} {N : Nn} {wb : World} {K : List Oper → Env → Prop} {rest : List Oper} {E : Env} {Q : Exit → Act → World → Prop}
variable {d : Tmp} {ty t t' : TypeId} {pos : String} {after : Array Edge} {g : Option (Nat × Bool)} {x y z : Operand}
theorem LA_makeFunc1 {f : Fn} {c : Value} (hg : gdec l E g = some true) (hx : opE E x = .val c) (h : LA P l wb K rest ((d, .val (.func f #[] #[c])) :: E)) :
    LA P l wb K (⟨some d, .makeFunc f #[] #[x], ty, pos, after, g⟩ :: rest) E :=
  LA_of _ hg (OB_val fun a w he hh => by
    have h1 := hh x (by simp [Op.operands])
    rw [hx] at h1; simp only [AD.ok] at h1
    have hrun : (Instr.makeFunc f #[] #[c]).run P w = .ok (.func f #[] #[c]) w := rfl
    simp only [execOp, List.map_toArray, List.map_cons, List.map_nil, h1, Sem.run_bind, hrun, Result.andThen_ok, Sem.run_pure]) h
end
theorem YieldAt.imp {F : Fence} {n : Nat} {P : Program} {l : Nat} {args : Array Value} {W : World} {R R' : Ending → World → Prop} (h : YieldAt F n P l args W R) (hr : ∀ e w, R e w → R' e w) : YieldAt F n P l args W R' := by
  obtain ⟨fn, tmps, assign, body, h1, h2⟩ := h
  exact ⟨fn, tmps, assign, body, h1, h2.mono hr⟩
end Go.LA
end
