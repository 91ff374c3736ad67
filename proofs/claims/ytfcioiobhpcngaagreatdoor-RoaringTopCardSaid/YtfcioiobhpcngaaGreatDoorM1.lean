import Derived.Test.YtfcioiobhpcngaaGreatDoorProg
import Derived.WalkKit
import Derived.KernelRfl
import Derived.Laws.AppendOwnNone
import Derived.Scope
import Derived.Lib.Overlaps
import Derived.Laws.Externs
import Derived.Laws.OwnMore
import Init
import Derived.Laws.Tables
import Derived.Lib.TrailingZeros
import Derived.Laws.Bits64b
import Derived.ChangeSame
import Derived.ChangeSlices
import Derived.Laws.StructEq
import Derived.Maps.AppendAt
import Derived.Sort.AssemblyPlain
import Derived.Laws.Bits64
section
namespace Go.LA
open Go.RowKit
def Ext (w w' : World) : Prop := Below w.heap.size w w'
theorem Ext.refl (w : World) : Ext w w := Below.refl _ _
theorem Ext.trans {a b c : World} (h : Ext a b) (k : Ext b c) : Ext a c := Below.trans h (k.mono h.size)
theorem Ext.drawn {w : World} : Ext w { w with drawn := w.drawn + 1 } := ⟨rfl, rfl, rfl, Nat.le_refl _, fun _ _ => rfl⟩
theorem Ext.alloc (w : World) (o : Obj) : Ext w (w.alloc o) := (Below.refl _ _).alloc (Nat.le_refl _) o
theorem Ext.cell {w w' : World} (h : Ext w w') {p : Addr} {v : Value} (hc : w.cell? p = some v) : w'.cell? p = some v :=
  (Below.cell h (World.block_lt_of_cell? w p hc)).trans hc
theorem Ext.block {w w' : World} (h : Ext w w') {b : Nat} {o : Obj} (hb : w.heap[b]? = some o) : w'.heap[b]? = some o :=
  (Below.block h b (Array.getElem?_eq_some_iff.1 hb).1).trans hb
structure AV where
  p : Value → World → Prop
  mono : ∀ v w w', Ext w w' → p v w → p v w'
inductive AD where
  | any
  | val (v : Value)
  | pred (φ : AV)
  | tup2 (a b : AD)
  | tup3 (a b c : AD)
def AD.ok : AD → Value → World → Prop
  | .any, _, _ => True
  | .val c, v, _ => v = c
  | .pred φ, v, w => φ.p v w
  | .tup2 a b, v, w => ∃ x y, v = .tuple #[x, y] ∧ a.ok x w ∧ b.ok y w
  | .tup3 a b c, v, w => ∃ x y z, v = .tuple #[x, y, z] ∧ a.ok x w ∧ b.ok y w ∧ c.ok z w
theorem AD.mono : ∀ (r : AD) {v : Value} {w w' : World}, Ext w w' → r.ok v w → r.ok v w'
  | .any, _, _, _, _, _ => trivial
  | .val _, _, _, _, _, h => h
  | .pred φ, _, _, _, e, h => φ.mono _ _ _ e h
  | .tup2 a b, _, _, _, e, ⟨x, y, h, h1, h2⟩ => ⟨x, y, h, a.mono e h1, b.mono e h2⟩
  | .tup3 a b c, _, _, _, e, ⟨x, y, z, h, h1, h2, h3⟩ => ⟨x, y, z, h, a.mono e h1, b.mono e h2, c.mono e h3⟩
abbrev Env := List (Nat × AD)
def lkE : Env → Nat → AD
  | [], _ => .any
  | (d, r) :: E, t => bif t == d then r else lkE E t
def opE (E : Env) : Operand → AD
  | .tmp t => lkE E t
  | .const v => .val v
  | .global g => .val (.pointer (some ⟨g, 0, none⟩))
  | .func f => .val (.func (.func f) #[] #[])
def puE : Option Tmp → AD → Env → Env
  | none, _, E => E
  | some d, r, E => (d, r) :: E
structure St (N : Nat) (wb : World) (E : Env) (a : Act) (w : World) : Prop where
  sz : a.tmps.size = N
  df : a.defers = []
  ext : Ext wb w
  sat : ∀ t, (lkE E t).ok (a.tmps.getD t undef) w
theorem i6A (a : Act) (d t : Nat) (v : Value) (hd : d < a.tmps.size) : (a.put (some d) v).tmps.getD t undef = if t = d then v else a.tmps.getD t undef := by
  simp only [Act.put, Array.getD_eq_getD_getElem?]
  by_cases e : t = d
  · subst e; simp [hd]
  · rw [Array.getElem?_setIfInBounds_ne (by omega)]; simp [e]
theorem btA {d t : Nat} {r : AD} {E : Env} : lkE ((d, r) :: E) t = if t = d then r else lkE E t := by
  by_cases h : t = d
  · simp [lkE, h]
  · have : (t == d) = false := by simpa using h
    simp [lkE, h, this]
theorem St.push {N : Nat} {wb : World} {E : Env} {a : Act} {w w' : World} (h : St N wb E a w) (he : Ext w w') {dst : Option Tmp} {r : AD} {v : Value} (hd : ∀ d, dst = some d → d < N) (hv : dst = none ∨ r.ok v w') :
    St N wb (puE dst r E) (a.put dst v) w' := by
  cases dst with
  | none => exact ⟨h.sz, h.df, h.ext.trans he, fun t => (lkE E t).mono he (h.sat t)⟩
  | some d =>
    have hv : r.ok v w' := by rcases hv with h | h; cases h; exact h
    refine ⟨by simp [Act.put, h.sz], by simp [Act.put, h.df], h.ext.trans he, fun t => ?_⟩
    rw [i6A a d t v (by rw [h.sz]; exact hd d rfl)]
    simp only [puE, btA]
    by_cases e : t = d
    · simp [e, hv]
    · simp only [e, if_false]; exact (lkE E t).mono he (h.sat t)
theorem St.opd {N : Nat} {wb : World} {E : Env} {a : Act} {w : World} (h : St N wb E a w) (x : Operand) : (opE E x).ok (a.eval x) w := by
  cases x with
  | tmp t => exact h.sat t
  | const v => rfl
  | global g => rfl
  | func f => rfl
def Yld (P : Program) (r : AD) (w : World) : Result Next → Prop
  | .ok (.value v) w' => Ext w w' ∧ r.ok v w'
  | .ok (.enter f args) w' => w' = w ∧ Calls P f args w (fun e w'' => ∃ v, e = .returned v ∧ Ext w w'' ∧ r.ok v w'')
  | _ => False
def OB (P : Program) (wb : World) (E : Env) (o : Oper) (r : AD) : Prop :=
  ∀ (a : Act) (w : World), Ext wb w → (∀ x ∈ o.op.operands, (opE E x).ok (a.eval x) w) → Yld P r w ((execOp a.eval o).run P w)
def klA : List Oper → Nat → Option Nat
  | [], _ => none
  | o :: _, 0 => o.dst
  | _ :: r, n + 1 => klA r n
theorem ivA : ∀ (l : List Oper) (j : Nat), klA l j = (l[j]?).bind (·.dst)
  | [], _ => rfl
  | _ :: _, 0 => rfl
  | _ :: r, n + 1 => by simp [klA, ivA r n]
def b5A (l : List Oper) (E : Env) : Option (Nat × Bool) → Option Bool
  | none => some true
  | some (j, b) => match klA l j with
    | none => none
    | some g => match lkE E g with
      | .val (.bool true) => some b
      | .val (.bool false) => some (!b)
      | .val (.tuple _) => some false
      | _ => none
def Stp (P : Program) (l : List Oper) (wb : World) (E : Env) (o : Oper) (r : AD) : Prop :=
  (b5A l E o.guard = some true ∧ OB P wb E o r) ∨ (b5A l E o.guard = some false ∧ r = .val undef)
def LA (P : Program) (l : List Oper) (wb : World) (K : List Oper → Env → Prop) : List Oper → Env → Prop
  | [], E => K [] E
  | o :: rest, E => (∃ r, Stp P l wb E o r ∧ LA P l wb K rest (puE o.dst r E)) ∨ K (o :: rest) E
def env (l : List Oper) (E0 : Env) (Φ : Nat → AD) : Nat → Env
  | 0 => E0
  | i + 1 => puE ((l[i]?).bind (·.dst)) (Φ i) (env l E0 Φ i)
theorem evA (l : List Oper) (E0 : Env) (Φ Ψ : Nat → AD) : ∀ i, (∀ j, j < i → Φ j = Ψ j) → env l E0 Φ i = env l E0 Ψ i
  | 0, _ => rfl
  | i + 1, h => by simp only [env]; rw [h i (by omega), evA l E0 Φ Ψ i (fun j hj => h j (by omega))]
theorem vuA {P : Program} {wb : World} {K : List Oper → Env → Prop} (l : List Oper) (E0 : Env) :
    ∀ (m k : Nat) (Φ0 : Nat → AD), k + m = l.length → LA P l wb K (l.drop k) (env l E0 Φ0 k) →
      ∃ (Φ : Nat → AD) (n : Nat), k ≤ n ∧ n ≤ l.length ∧ (∀ i, i < k → Φ i = Φ0 i) ∧ (∀ i o, k ≤ i → i < n → l[i]? = some o → Stp P l wb (env l E0 Φ i) o (Φ i)) ∧ K (l.drop n) (env l E0 Φ n) := by
  intro m
  induction m with
  | zero =>
    intro k Φ0 hk h
    obtain rfl : k = l.length := by omega
    rw [List.drop_length] at h
    exact ⟨Φ0, l.length, Nat.le_refl _, Nat.le_refl _, fun _ _ => rfl, fun i o h1 h2 => by omega, by rw [List.drop_length]; exact h⟩
  | succ m ih =>
    intro k Φ0 hk h
    have hlt : k < l.length := by omega
    have hd : l.drop k = l[k] :: l.drop (k + 1) := List.drop_eq_getElem_cons hlt
    rw [hd] at h
    rcases h with ⟨φ, hs, h⟩ | h
    · let Φ1 : Nat → AD := fun i => if i = k then φ else Φ0 i
      have e1 : env l E0 Φ1 k = env l E0 Φ0 k := evA l E0 _ _ k (fun j hj => by simp [Φ1]; omega)
      have e2 : env l E0 Φ1 (k + 1) = puE l[k].dst φ (env l E0 Φ0 k) := by
        simp only [env, e1]; simp [Φ1, hlt]
      obtain ⟨Φ, n, g0, gn, g1, g2, g3⟩ := ih (k + 1) Φ1 (by omega) (by rw [e2]; exact h)
      refine ⟨Φ, n, by omega, gn, fun i hi => by rw [g1 i (by omega)]; simp [Φ1]; omega, fun i o h1 h2 ho => ?_, g3⟩
      by_cases e : i = k
      · subst e
        have e3 : env l E0 Φ i = env l E0 Φ0 i := evA l E0 _ _ i (fun j hj => by rw [g1 j (by omega)]; simp [Φ1]; omega)
        have e4 : Φ i = φ := by rw [g1 i (by omega)]; simp [Φ1]
        have e5 : o = l[i] := by rw [List.getElem?_eq_getElem hlt] at ho; exact (Option.some.inj ho).symm
        rw [e3, e4, e5]; exact hs
      · exact g2 i o (by omega) h2 ho
    · exact ⟨Φ0, k, Nat.le_refl _, by omega, fun _ _ => rfl, fun i o h1 h2 => by omega, by rw [hd]; exact h⟩
theorem dlA (l : List Oper) (E0 : Env) (Φ : Nat → AD) (t : Nat) : ∀ i, (∀ j o, j < i → l[j]? = some o → o.dst ≠ some t) → lkE (env l E0 Φ i) t = lkE E0 t
  | 0, _ => rfl
  | i + 1, h => by
    have ih := dlA l E0 Φ t i (fun j o hj => h j o (by omega))
    simp only [env]
    cases ho : l[i]? with
    | none => simpa [puE] using ih
    | some o =>
      have hne := h i o (by omega) ho
      cases hd : o.dst with
      | none => simpa [puE, hd] using ih
      | some d =>
        have : t ≠ d := fun e => hne (by rw [hd, e])
        simpa [puE, hd, btA, this] using ih
theorem dkA (l : List Oper) (E0 : Env) (Φ : Nat → AD) (t : Nat) (j : Nat) (oj : Oper) (hj : l[j]? = some oj) (hd : oj.dst = some t) : ∀ i, j < i →
    (∀ k o, j < k → k < i → l[k]? = some o → o.dst ≠ some t) → lkE (env l E0 Φ i) t = Φ j
  | 0, h, _ => by omega
  | i + 1, h, hu => by
    simp only [env]
    by_cases e : j = i
    · subst e; simp [hj, hd, puE, lkE]
    · have ih := dkA l E0 Φ t j oj hj hd i (by omega) (fun k o h1 h2 => hu k o h1 (by omega))
      cases ho : l[i]? with
      | none => simpa [puE] using ih
      | some o =>
        have hne := hu i o (by omega) (by omega) ho
        cases hd' : o.dst with
        | none => simpa [puE, hd'] using ih
        | some d =>
          have : t ≠ d := fun e => hne (by rw [hd', e])
          simpa [puE, hd', btA, this] using ih
def dpA (acc : List Nat) (es : List Edge) : Nat :=
  match es with
  | [] => 0
  | e :: r => (if Region.binds .any e then 2 ^ e.on ||| acc.getD e.on 0 else 0) ||| dpA acc r
def elA : List Oper → List Nat → List Nat
  | [], acc => acc
  | o :: r, acc => elA r (acc ++ [dpA acc o.after.toList])
theorem gaA (acc : List Nat) (j : Nat) : ∀ es : List Edge, (dpA acc es).testBit j = true → ∃ e ∈ es, Region.binds .any e = true ∧ (e.on = j ∨ (acc.getD e.on 0).testBit j = true)
  | [], h => by simp [dpA] at h
  | e :: r, h => by
    simp only [dpA, Nat.testBit_or, Bool.or_eq_true] at h
    rcases h with h | h
    · by_cases hb : Region.binds .any e = true
      · simp only [hb, if_true, Nat.testBit_or, Bool.or_eq_true, Nat.testBit_two_pow, decide_eq_true_eq] at h
        exact ⟨e, by simp, hb, h⟩
      · simp [hb] at h
    · obtain ⟨e', he, h'⟩ := gaA acc j r h
      exact ⟨e', by simp [he], h'⟩
theorem maA : ∀ (l : List Oper) (acc : List Nat), ∃ t, elA l acc = acc ++ t
  | [], acc => ⟨[], by simp [elA]⟩
  | o :: r, acc => by
    obtain ⟨t, h⟩ := maA r (acc ++ [dpA acc o.after.toList])
    exact ⟨dpA acc o.after.toList :: t, by simp [elA, h]⟩
theorem jwA : ∀ (l : List Oper) (acc : List Nat) (i : Nat) (o : Oper), l[i]? = some o →
    ∃ acc', (∀ k, (acc'.getD k 0 = (elA l acc).getD k 0 ∧ k < acc.length + i) ∨ acc'.getD k 0 = 0) ∧ (elA l acc).getD (acc.length + i) 0 = dpA acc' o.after.toList
  | [], acc, i, o, h => by simp at h
  | x :: r, acc, 0, o, h => by
    simp at h; subst h
    obtain ⟨t, ht⟩ := maA r (acc ++ [dpA acc x.after.toList])
    refine ⟨acc, fun k => ?_, by simp [elA, ht]⟩
    by_cases hk : k < acc.length
    · left; simp [elA, ht, List.getElem?_append_left hk, hk]
    · right; simp [List.getElem?_eq_none (by omega : acc.length ≤ k)]
  | x :: r, acc, i + 1, o, h => by
    obtain ⟨acc', h1, h2⟩ := jwA r (acc ++ [dpA acc x.after.toList]) i o (by simpa using h)
    refine ⟨acc', fun k => ?_, ?_⟩
    · rcases h1 k with ⟨ha, hb⟩ | h1
      · left; exact ⟨ha, by simp at hb; omega⟩
      · right; exact h1
    · have e : (acc ++ [dpA acc x.after.toList]).length + i = acc.length + (i + 1) := by simp; omega
      rw [e] at h2; exact h2
theorem cgA (l : List Oper) (S : Nat → Prop) (hS : ∀ j o, S j → l[j]? = some o → ∀ e ∈ o.after, Region.binds .any e = true → S e.on) :
    ∀ (i : Nat) (o : Oper) (j : Nat), l[i]? = some o → (∀ e ∈ o.after, Region.binds .any e = true → S e.on) → ((elA l []).getD i 0).testBit j = true → S j := by
  intro i
  induction i using Nat.strongRecOn with
  | ind i ih =>
    intro o j ho he hb
    obtain ⟨acc', h1, h2⟩ := jwA l [] i o ho
    simp only [List.length_nil, Nat.zero_add] at h1 h2
    rw [h2] at hb
    obtain ⟨e, hm, hbi, h⟩ := gaA acc' j _ hb
    have hm' : e ∈ o.after := by simpa using hm
    have hSe := he e hm' hbi
    rcases h with h | h
    · exact h ▸ hSe
    · rcases h1 e.on with ⟨h1, hlt⟩ | h1
      · rw [h1] at h
        have hlen : i < l.length := (List.getElem?_eq_some_iff.1 ho).1
        have : l[e.on]? = some (l[e.on]'(by omega)) := List.getElem?_eq_getElem (by omega)
        exact ih e.on hlt _ j this (hS e.on _ hSe this) h
      · rw [h1] at h; simp at h
def w5A (ops : Array Oper) (l : List Oper) (B : List Nat) (n sz i : Nat) (o : Oper) : Bool :=
  let m := B.getD i 0
  let ls := o.looksAt ops
  o.after.toList.all (fun e => !Region.binds .any e || decide (e.on < i)) &&
  (match o.dst with | some d => decide (d < sz) | none => true) &&
  (decide (i < n) || (List.range i).all (fun j => m.testBit j)) &&
  l.zipIdx.all (fun (oj, j) => match oj.dst with
    | none => true
    | some d =>
      (j == i || o.dst != some d) &&
      (!ls.contains d || (j != i && (if j < i then m.testBit j else (B.getD j 0).testBit i))))
def okR (l : List Oper) (n sz : Nat) : Bool :=
  let B := elA l []
  l.zipIdx.all fun (o, i) => w5A l.toArray l B n sz i o
structure OkR (l : List Oper) (n sz : Nat) : Prop where
  back : ∀ (i : Nat) (o : Oper), l[i]? = some o → ∀ e ∈ o.after, Region.binds .any e = true → e.on < i
  dst : ∀ (i : Nat) (o : Oper) (d : Nat), l[i]? = some o → o.dst = some d → d < sz
  tail : ∀ (i : Nat) (o : Oper), l[i]? = some o → n ≤ i → ∀ j, j < i → ((elA l []).getD i 0).testBit j = true
  uniq : ∀ (i : Nat) (o : Oper) (j : Nat) (oj : Oper) (d : Nat), l[i]? = some o → l[j]? = some oj → oj.dst = some d → o.dst = some d → j = i
  look : ∀ (i : Nat) (o : Oper) (j : Nat) (oj : Oper) (d : Nat), l[i]? = some o → l[j]? = some oj → oj.dst = some d → d ∈ o.looksAt l.toArray → j ≠ i ∧ (j < i → ((elA l []).getD i 0).testBit j = true) ∧ (i < j → ((elA l []).getD j 0).testBit i = true)
theorem llA {l : List Oper} {n sz : Nat} (h : okR l n sz = true) : OkR l n sz := by
  unfold okR at h
  simp only [List.all_eq_true] at h
  have H : ∀ i o, l[i]? = some o → w5A l.toArray l (elA l []) n sz i o = true := fun i o ho => by
    have := h (o, i) (by
      rw [List.mem_zipIdx_iff_getElem?]; exact ho)
    exact this
  have Z : ∀ i o, l[i]? = some o → ∀ j oj, l[j]? = some oj → ∀ d, oj.dst = some d → (j == i || o.dst != some d) = true ∧
      (!(o.looksAt l.toArray).contains d || (j != i && (if j < i then ((elA l []).getD i 0).testBit j else ((elA l []).getD j 0).testBit i))) = true := by
    intro i o ho j oj hj d hd
    have h1 := H i o ho
    simp only [w5A, Bool.and_eq_true, List.all_eq_true] at h1
    have h2 := h1.2 (oj, j) (by rw [List.mem_zipIdx_iff_getElem?]; exact hj)
    simp only [hd, Bool.and_eq_true] at h2
    exact h2
  refine ⟨fun i o ho e he hb => ?_, fun i o d ho hd => ?_, fun i o ho hn j hj => ?_, fun i o j oj d ho hj hd hd' => ?_, fun i o j oj d ho hj hd hl => ?_⟩
  · have h1 := H i o ho
    simp only [w5A, Bool.and_eq_true, List.all_eq_true] at h1
    have := h1.1.1.1 e (by simpa using he)
    simpa [hb] using this
  · have h1 := H i o ho
    simp only [w5A, Bool.and_eq_true] at h1
    have := h1.1.1.2
    simpa [hd] using this
  · have h1 := H i o ho
    simp only [w5A, Bool.and_eq_true, Bool.or_eq_true, decide_eq_true_eq, List.all_eq_true, List.mem_range] at h1
    rcases h1.1.2 with h | h
    · omega
    · exact h j hj
  · have := (Z i o ho j oj hj d hd).1
    simpa [hd'] using this
  · have := (Z i o ho j oj hj d hd).2
    have hc : (o.looksAt l.toArray).contains d = true := by simpa using hl
    simp only [hc, Bool.not_true, Bool.false_or, Bool.and_eq_true, bne_iff_ne, ne_eq] at this
    refine ⟨this.1, fun hlt => ?_, fun hlt => ?_⟩
    · have h2 := this.2; rw [if_pos hlt] at h2; exact h2
    · have h2 := this.2; rw [if_neg (by omega)] at h2; exact h2
structure Inv (l : List Oper) (E0 : Env) (Φ : Nat → AD) (N : Nat) (wb : World) (S : Nat → Prop) (a : Act) (w : World) : Prop where
  sz : a.tmps.size = N
  df : a.defers = []
  ext : Ext wb w
  cl : ∀ j o, S j → l[j]? = some o → ∀ e ∈ o.after, Region.binds .any e = true → S e.on
  fx : ∀ (j : Nat) (o : Oper) (d : Nat), S j → l[j]? = some o → o.dst = some d → (Φ j).ok (a.tmps.getD d undef) w
  un : ∀ t : Nat, (∀ (j : Nat) (o : Oper), S j → l[j]? = some o → o.dst ≠ some t) → (lkE E0 t).ok (a.tmps.getD t undef) w
theorem mkA (ops : Array Oper) (tmps : Array Value) (j g : Nat) (h : (ops[j]?).bind (·.dst) = some g) : yielded ops tmps j = match tmps.getD g undef with | .bool b => some b | _ => none := by
  unfold yielded
  rw [h]
  simp only [Option.bind_some, Array.getD_eq_getD_getElem?]
  cases tmps[g]? with
  | none => simp [undef]
  | some u => cases u <;> rfl
theorem f8A {l : List Oper} {E : Env} {o : Oper} {b : Bool} {tmps : Array Value} {w : World} (hg : b5A l E o.guard = some b)
    (h : ∀ j c g, o.guard = some (j, c) → klA l j = some g → (lkE E g).ok (tmps.getD g undef) w) : Region.wanted o (yielded l.toArray tmps) = b := by
  unfold b5A at hg
  unfold Region.wanted
  cases hgd : o.guard with
  | none => rw [hgd] at hg; simpa using hg
  | some jc =>
    obtain ⟨j, c⟩ := jc
    rw [hgd] at hg
    simp only at hg ⊢
    cases hd : klA l j with
    | none => rw [hd] at hg; simp at hg
    | some g =>
      rw [hd] at hg
      simp only at hg
      have hl := h j c g hgd hd
      have hy := mkA l.toArray tmps j g (by rw [ivA] at hd; simpa using hd)
      split at hg
      · rename_i hlk; rw [hlk] at hl; simp only [AD.ok] at hl; rw [hy, hl]
        simp only [Option.some.injEq] at hg; subst hg; cases c <;> rfl
      · rename_i hlk; rw [hlk] at hl; simp only [AD.ok] at hl; rw [hy, hl]
        simp only [Option.some.injEq] at hg; subst hg; cases c <;> rfl
      · rename_i hlk; rw [hlk] at hl; simp only [AD.ok] at hl; rw [hy, hl]
        simp only [Option.some.injEq] at hg; subst hg; cases c <;> rfl
      · cases hg
section
variable {P : Program} {l : List Oper} {n N : Nat} {E0 : Env} {Φ : Nat → AD} {wb : World} {Q : Exit → Act → World → Prop} {S : Nat → Prop} {a : Act} {w : World}
theorem Inv.opnd (hok : OkR l n N) (hI : Inv l E0 Φ N wb S a w) {i : Nat} {o : Oper} (ho : l[i]? = some o) (hun : ¬ S i) (hr : ∀ e ∈ o.after, Region.binds .any e = true → S e.on)
    {t : Nat} (ht : t ∈ o.looksAt l.toArray) : (lkE (env l E0 Φ i) t).ok (a.tmps.getD t undef) w := by
  by_cases hw : ∃ j oj, j < i ∧ l[j]? = some oj ∧ oj.dst = some t
  · obtain ⟨j, oj, hj, hoj, hd⟩ := hw
    rw [dkA l E0 Φ t j oj hoj hd i hj (fun k o' h1 h2 h3 h4 => by have := hok.uniq k o' j oj t h3 hoj hd h4; omega)]
    have hb := (hok.look i o j oj t ho hoj hd ht).2.1 hj
    exact hI.fx j oj t (cgA l S hI.cl i o j ho hr hb) hoj hd
  · rw [dlA l E0 Φ t i (fun j o' h1 h2 h3 => hw ⟨j, o', h1, h2, h3⟩)]
    refine hI.un t (fun j oj hj hoj hd => ?_)
    have h1 := hok.look i o j oj t ho hoj hd ht
    have hji : ¬ j < i := fun h => hw ⟨j, oj, h, hoj, hd⟩
    have hb := h1.2.2 (by have := h1.1; omega)
    exact hun (cgA l S hI.cl j oj i hoj (hI.cl j oj hj hoj) hb)
theorem Inv.step (hok : OkR l n N) (hI : Inv l E0 Φ N wb S a w) {i : Nat} {o : Oper} (ho : l[i]? = some o) (hun : ¬ S i)
    (hr : ∀ e ∈ o.after, Region.binds .any e = true → S e.on) {w' : World} (hw : Ext w w') {v : Value} (hv : (Φ i).ok v w') : Inv l E0 Φ N wb (fun j => S j ∨ j = i) (a.put o.dst v) w' := by
  have put_t : ∀ t, (a.put o.dst v).tmps.getD t undef = if o.dst = some t then v else a.tmps.getD t undef := fun t => by
    cases hd : o.dst with
    | none => simp [Act.put]
    | some d =>
      rw [i6A a d t v (by rw [hI.sz]; exact hok.dst i o d ho hd)]
      by_cases e : t = d
      · simp [e]
      · rw [if_neg e, if_neg (by simpa using fun h => e h.symm)]
  refine ⟨?_, ?_, hI.ext.trans hw, ?_, ?_, ?_⟩
  · cases hd : o.dst <;> simp [Act.put, hI.sz]
  · cases hd : o.dst <;> simp [Act.put, hI.df]
  · rintro j oj (hj | rfl) hoj e he hb
    · exact .inl (hI.cl j oj hj hoj e he hb)
    · rw [ho] at hoj; obtain rfl := Option.some.inj hoj; exact .inl (hr e he hb)
  · rintro j oj d (hj | rfl) hoj hd
    · rw [put_t, if_neg (fun h => by have := hok.uniq i o j oj d ho hoj hd h; subst this; exact hun hj)]
      exact (Φ j).mono hw (hI.fx j oj d hj hoj hd)
    · rw [ho] at hoj; obtain rfl := Option.some.inj hoj
      rw [put_t, if_pos hd]; exact hv
  · intro t ht
    rw [put_t, if_neg (ht i o (.inr rfl) ho)]
    exact (lkE E0 t).mono hw (hI.un t (fun j oj hj => ht j oj (.inl hj)))
theorem ngA {E : Env} {o : Oper} {r : AD} (hs : Stp P l wb E o r) (hext : Ext wb w) (hop : ∀ t, t ∈ o.looksAt l.toArray → (lkE E t).ok (a.tmps.getD t undef) w) {K : Act → World → Prop}
    (hK : ∀ v w', Ext w w' → r.ok v w' → K (a.put o.dst v) w') :
    (if Region.wanted o (yielded l.toArray a.tmps) then o.wp P a w K Q ∨ (o.asks P a w ∧ LetsOut Q) else K (a.put o.dst undef) w) := by
  have gl : ∀ j c g, o.guard = some (j, c) → klA l j = some g → (lkE E g).ok (a.tmps.getD g undef) w := fun j c g h1 h2 => hop g (by
    rw [ivA] at h2
    simp only [Oper.looksAt, h1]
    exact List.mem_append_right _ (by simpa using h2))
  rcases hs with ⟨hg, hob⟩ | ⟨hg, rfl⟩
  · rw [f8A (w := w) hg gl, if_pos rfl]
    refine .inl ?_
    have hy := hob a w hext (fun x hx => by
      cases x with
      | tmp t => exact hop t (by simp only [Oper.looksAt]; exact List.mem_append_left _ (List.mem_filterMap.2 ⟨.tmp t, by simpa using hx, rfl⟩))
      | const v => rfl
      | global g => rfl
      | func f => rfl)
    unfold Oper.wp
    generalize (execOp a.eval o).run P w = res at hy
    cases res with
    | ok nx w' =>
      cases nx <;> simp only [Yld] at hy
      case value v => exact hK _ _ hy.1 hy.2
      case enter f args =>
        obtain ⟨rfl, hcall⟩ := hy
        refine hcall.mono ?_
        rintro e w'' ⟨v, rfl, he, hv⟩
        exact hK _ _ he hv
    | halt x w' => simp only [Yld] at hy
  · rw [f8A (w := w) hg gl]
    simp only [Bool.false_eq_true, if_false]
    exact hK _ _ (Ext.refl _) rfl
theorem l6A : ∀ (fuel k : Nat) (listed : Array Bool) (a : Act) (w : World), (∀ i o, l[i]? = some o → k ≤ i → ∀ j, j < i → ((elA l []).getD i 0).testBit j = true) → (∀ i o, l[i]? = some o → ∀ e ∈ o.after, Region.binds .any e = true → e.on < i) →
    fuel + k = l.length → listed.size = l.length → (∀ j, j < l.length → listed.getD j true = decide (j < k)) →
    wpList P l.toArray Q (l.drop k) a w → wpAny P .any l.toArray Q fuel listed a w
  | 0, k, listed, a, w, htail, hback, hk, hsz, hl, h => by
    have hk : k = l.length := by omega
    rw [hk, List.drop_length] at h
    refine ⟨?_, h⟩
    rw [List.eq_nil_iff_forall_not_mem]
    intro j hj
    obtain ⟨h1, o, ho, _⟩ := mem_ready.1 hj
    have hjl : j < l.length := by have := (Array.getElem?_eq_some_iff.1 ho).1; simpa using this
    rw [hl j hjl] at h1
    simp at h1; omega
  | fuel + 1, k, listed, a, w, htail, hback, hk, hsz, hl, h => by
    have hlt : k < l.length := by omega
    have hfalse : ∀ j, j < l.length → listed.getD j false = decide (j < k) := fun j hj => by
      rw [← hl j hj]; simp [Array.getD, hsz, hj]
    have hcl : ∀ j o, (listed.getD j false = true) → l[j]? = some o → ∀ e ∈ o.after, Region.binds .any e = true → listed.getD e.on false = true := fun j o hj ho e he hb => by
      have hjl : j < l.length := (List.getElem?_eq_some_iff.1 ho).1
      rw [hfalse j hjl] at hj
      have := hback j o ho e he hb
      rw [hfalse e.on (by omega)]
      simp at hj ⊢; omega
    have honly : ∀ i, i ∈ Region.ready .any l.toArray listed → i = k := fun i hi => by
      obtain ⟨h1, o, ho, he⟩ := mem_ready.1 hi
      have hil : i < l.length := by have := (Array.getElem?_eq_some_iff.1 ho).1; simpa using this
      have ho' : l[i]? = some o := by simpa using ho
      rw [hl i hil] at h1
      have hki : k ≤ i := by simpa using h1
      rcases Nat.lt_or_ge k i with hlt' | hge
      · have := cgA l (fun j => listed.getD j false = true) hcl i o k ho' he (htail i o ho' hki k hlt')
        rw [hfalse k hlt] at this
        simp at this
      · omega
    have hready : k ∈ Region.ready .any l.toArray listed := by
      refine mem_ready.2 ⟨by rw [hl k hlt]; simp, l[k], by simp [hlt], fun e he hb => ?_⟩
      have := hback k l[k] (List.getElem?_eq_getElem hlt) e he hb
      rw [hfalse e.on (by omega)]; simpa using this
    refine ⟨fun h0 => (by rw [h0] at hready; cases hready), fun i hi => ?_⟩
    obtain rfl := honly i hi
    rw [List.drop_eq_getElem_cons hlt] at h
    unfold wpOp
    rw [show l.toArray[i]? = some l[i] by simp [hlt]]
    simp only [wpList] at h
    have hrec : ∀ a' w', wpList P l.toArray Q (l.drop (i + 1)) a' w' → wpAny P .any l.toArray Q fuel (listed.setIfInBounds i true) a' w' := fun a' w' h' =>
      l6A fuel (i + 1) _ a' w' (fun i' o h1 h2 => htail i' o h1 (by omega)) hback (by omega) (by simpa using hsz) (fun j hj => by
        by_cases e : j = i
        · subst e; simp [Array.getD, hsz, hj]
        · have h1 := hl j hj
          have h2 : (listed.setIfInBounds i true).getD j true = listed.getD j true := by
            simp only [Array.getD_eq_getD_getElem?]; rw [Array.getElem?_setIfInBounds_ne (by omega)]
          rw [h2, h1]; simp; omega) h'
    split at h
    · rename_i hw; simp only [hw, if_true]; exact h.imp (Oper.wp_mono hrec) id
    · rename_i hw; simp only [hw]; exact hrec _ _ h
theorem xfA (hok : OkR l n N) (hn : n ≤ l.length) (hs : ∀ i o, i < n → l[i]? = some o → Stp P l wb (env l E0 Φ i) o (Φ i))
    (hK : ∀ a w, Inv l E0 Φ N wb (fun j => j < n) a w → wpList P l.toArray Q (l.drop n) a w) :
    ∀ (fuel : Nat) (listed : Array Bool) (a : Act) (w : World), listed.size = l.length → (listed.toList.filter (!·)).length = fuel → (∀ j, listed.getD j false = true → j < n) →
      Inv l E0 Φ N wb (fun j => listed.getD j false = true) a w → wpAny P .any l.toArray Q fuel listed a w := by
  intro fuel
  have allListed : ∀ (listed : Array Bool) (a : Act) (w : World), listed.size = l.length → (∀ j, listed.getD j false = true → j < n) → Inv l E0 Φ N wb (fun j => listed.getD j false = true) a w →
      (∀ j, j < n → listed.getD j false = true) → Inv l E0 Φ N wb (fun j => j < n) a w := fun listed a w hsz hSn hI hall => by
    have e : (fun j => listed.getD j false = true) = (fun j => j < n) := funext fun j => propext ⟨hSn j, hall j⟩
    rwa [e] at hI
  induction fuel with
  | zero =>
    intro listed a w hsz hf hSn hI
    have hall : ∀ j, j < l.length → listed.getD j true = true ∧ listed.getD j false = true := fun j hj => by
      have h0 : listed.toList.filter (!·) = [] := List.eq_nil_of_length_eq_zero hf
      rw [List.filter_eq_nil_iff] at h0
      have hj' : j < listed.size := by omega
      have := h0 listed[j] (by simp)
      simp only [Bool.not_eq_true', Bool.not_eq_false] at this
      simp [Array.getD, hj', this]
    have hnl : n = l.length := by
      rcases Nat.lt_or_ge n l.length with h | h
      · have := hSn n (hall n h).2; omega
      · omega
    have hQ := hK a w (allListed listed a w hsz hSn hI (fun j hj => (hall j (by omega)).2))
    rw [hnl, List.drop_length] at hQ
    refine ⟨?_, hQ⟩
    rw [List.eq_nil_iff_forall_not_mem]
    intro j hj
    obtain ⟨h1, o, ho, _⟩ := mem_ready.1 hj
    have hjl : j < l.length := by have := (Array.getElem?_eq_some_iff.1 ho).1; simpa using this
    rw [(hall j hjl).1] at h1; cases h1
  | succ fuel ih =>
    intro listed a w hsz hf hSn hI
    have hun : ∃ i, i < l.length ∧ listed.getD i false = false ∧ ∀ j, j < i → listed.getD j false = true := by
      have : ∃ i, i < l.length ∧ listed.getD i false = false := by
        apply Classical.byContradiction
        intro hno
        have : listed.toList.filter (!·) = [] := by
          rw [List.filter_eq_nil_iff]
          intro b hb
          obtain ⟨i, hi, rfl⟩ := List.getElem_of_mem hb
          have hi' : i < listed.size := by simpa using hi
          have h2 : listed.getD i false ≠ false := fun h => hno ⟨i, by omega, h⟩
          simp [Array.getD, hi'] at h2
          simp [h2]
        rw [this] at hf; simp at hf
      obtain ⟨i, hi, hli⟩ := this
      have : ∀ m, (∃ i, i < m ∧ i < l.length ∧ listed.getD i false = false) → ∃ i, i < l.length ∧ listed.getD i false = false ∧ ∀ j, j < i → listed.getD j false = true := by
        intro m
        induction m with
        | zero => rintro ⟨i, h, _⟩; omega
        | succ m ihm =>
          rintro ⟨i, h1, h2, h3⟩
          by_cases hex : ∃ i, i < m ∧ i < l.length ∧ listed.getD i false = false
          · exact ihm hex
          · refine ⟨i, h2, h3, fun j hj => ?_⟩
            have hj2 : listed.getD j false ≠ false := fun h => hex ⟨j, by omega, by omega, h⟩
            simpa using hj2
      exact this (i + 1) ⟨i, by omega, hi, hli⟩
    refine ⟨fun h0 => ?_, fun i hi => ?_⟩
    · obtain ⟨i, hil, hli, hlow⟩ := hun
      have : i ∈ Region.ready .any l.toArray listed := by
        refine mem_ready.2 ⟨by have h' : i < listed.size := by omega
                               simp [Array.getD, h'] at hli ⊢; exact hli, l[i], by simp [hil], fun e he hb => hlow _ (hok.back i l[i] (List.getElem?_eq_getElem hil) e he hb)⟩
      rw [h0] at this; cases this
    · obtain ⟨h1, o, ho, he⟩ := mem_ready.1 hi
      have hil : i < l.length := by have := (Array.getElem?_eq_some_iff.1 ho).1; simpa using this
      have ho' : l[i]? = some o := by simpa using ho
      have hli : ¬ (listed.getD i false = true) := by
        have h' : i < listed.size := by omega
        simp [Array.getD, h'] at h1 ⊢; exact h1
      have hset : ∀ j, (listed.setIfInBounds i true).getD j false = true ↔ (listed.getD j false = true ∨ j = i) := fun j => by
        simp only [Array.getD_eq_getD_getElem?]
        by_cases e : j = i
        · subst e; simp [hsz, hil]
        · rw [Array.getElem?_setIfInBounds_ne (by omega)]; simp [e]
      have hcount : ((listed.setIfInBounds i true).toList.filter (!·)).length = fuel := by
        have hi' : i < listed.toList.length := by simp; omega
        have e1 : listed.toList = listed.toList.take i ++ false :: listed.toList.drop (i + 1) := by
          conv => lhs; rw [← List.take_append_drop i listed.toList, List.drop_eq_getElem_cons hi']
          have : listed.toList[i] = false := by
            have h' : i < listed.size := by omega
            simp [Array.getD, h'] at hli; simpa using hli
          rw [this]
        have e2 : (listed.setIfInBounds i true).toList = listed.toList.take i ++ true :: listed.toList.drop (i + 1) := by
          rw [Array.toList_setIfInBounds, List.set_eq_take_append_cons_drop, if_pos hi']
        rw [e1] at hf
        rw [e2]
        simp [List.filter_append] at hf ⊢
        omega
      by_cases hin : i < n
      · unfold wpOp
        simp only [ho]
        refine ngA (hs i o hin ho') hI.ext (fun t ht => hI.opnd hok ho' hli he ht) (fun v w' he' hv => ?_)
        have hI' := hI.step hok ho' hli he he' hv
        refine ih _ _ w' (by simpa using hsz) hcount (fun j hj => ?_) ?_
        · rcases (hset j).1 hj with h | h
          · exact hSn j h
          · omega
        · have e : (fun j => (listed.setIfInBounds i true).getD j false = true) = (fun j => listed.getD j false = true ∨ j = i) := funext fun j => propext (hset j)
          rw [e]; exact hI'
      · have hall : ∀ j, j < i → listed.getD j false = true := fun j hj =>
          cgA l (fun j => listed.getD j false = true) hI.cl i o j ho' he (hok.tail i o ho' (by omega) j hj)
        have hin' : i = n := by
          rcases Nat.lt_or_ge n i with h | h
          · have := hSn n (hall n h); omega
          · omega
        have hQ := hK a w (allListed listed a w hsz hSn hI (fun j hj => hall j (by omega)))
        have hdec : ∀ j, j < l.length → listed.getD j true = decide (j < n) := fun j hj => by
          have hj' : j < listed.size := by omega
          by_cases h : j < n
          · have := hall j (by omega); simp [Array.getD, hj', h] at this ⊢; exact this
          · have : ¬ (listed.getD j false = true) := fun h' => h (hSn j h')
            simp [Array.getD, hj', h] at this ⊢; exact this
        have hfl : fuel + 1 = l.length - n := by
          have e : listed.toList = (List.range l.length).map (fun j => decide (j < n)) := by
            apply List.ext_getElem
            · simp [hsz]
            · intro j h1 h2
              have hj : j < l.length := by simpa using h2
              have := hdec j hj
              have hj' : j < listed.size := by omega
              simp [Array.getD, hj'] at this
              simp [this]
          rw [e] at hf
          rw [← hf]
          have : ∀ m : Nat, (((List.range m).map (fun j => decide (j < n))).filter (!·)).length = m - n := by
            intro m
            induction m with
            | zero => simp
            | succ m ihm =>
              rw [List.range_succ, List.map_append, List.filter_append, List.length_append, ihm]
              by_cases h : m < n <;> simp [h] <;> omega
          exact this l.length
        have := l6A (fuel + 1) n listed a w (fun i o h1 h2 => hok.tail i o h1 h2) hok.back (by omega) hsz hdec hQ
        exact this.2 i hi
theorem Inv.st (hok : OkR l n N) (hI : Inv l E0 Φ N wb (fun j => j < n) a w) : St N wb (env l E0 Φ n) a w := by
  refine ⟨hI.sz, hI.df, hI.ext, fun t => ?_⟩
  by_cases hw : ∃ j oj, j < n ∧ l[j]? = some oj ∧ oj.dst = some t
  · obtain ⟨j, oj, hj, hoj, hd⟩ := hw
    rw [dkA l E0 Φ t j oj hoj hd n hj (fun k o' h1 h2 h3 h4 => by have := hok.uniq k o' j oj t h3 hoj hd h4; omega)]
    exact hI.fx j oj t hj hoj hd
  · rw [dlA l E0 Φ t n (fun j o' h1 h2 h3 => hw ⟨j, o', h1, h2, h3⟩)]
    exact hI.un t (fun j oj hj hoj hd => hw ⟨j, oj, hj, hoj, hd⟩)
def CX (P : Program) (N : Nat) (wb : World) (c : Code) (E : Env) (Q : Exit → Act → World → Prop) : Prop := ∀ a w, St N wb E a w → c.wp P Q a w
def PX (N : Nat) (wb : World) (Q : Exit → Act → World → Prop) (e : Exit) (E : Env) : Prop := ∀ a w, St N wb E a w → Q e a w
def LX (P : Program) (N : Nat) (wb : World) (l : List Oper) (Q : Exit → Act → World → Prop) (rest : List Oper) (E : Env) : Prop := ∀ a w, St N wb E a w → wpList P l.toArray Q rest a w
theorem i3A (n : Nat) {id : Nat} {E : Env} (hP : P.follows .mixedOrders = true) (hok : okR l n N = true) (hn : n ≤ l.length)
    (h : LA P l wb (fun rest E => rest.length = l.length - n ∧ LX P N wb l Q rest E) l E) : CX P N wb (.region id l.toArray true) E Q := by
  intro a w hst
  have hok' := llA hok
  obtain ⟨Φ, n', -, hn', -, h2, hlen, h3⟩ := vuA l E l.length 0 (fun _ => .any) (by omega) h
  obtain rfl : n' = n := by simp at hlen; omega
  refine wp_region_any hP ?_
  rw [List.size_toArray]
  refine xfA (E0 := E) (wb := wb) (N := N) hok' hn (fun i o hi ho => h2 i o (Nat.zero_le _) hi ho) (fun a w' hI => h3 a w' (hI.st hok')) _ _ _ _ (by simp) (by simp) (fun j hj => ?_) ?_
  · simp [Array.getD_eq_getD_getElem?, Array.getElem?_replicate] at hj
    split at hj <;> cases hj
  · refine ⟨hst.sz, hst.df, hst.ext.trans Ext.drawn, ?_, ?_, fun t _ => (lkE E t).mono Ext.drawn (hst.sat t)⟩
    · intro j o hj; simp [Array.getD_eq_getD_getElem?, Array.getElem?_replicate] at hj; split at hj <;> cases hj
    · intro j o d hj; simp [Array.getD_eq_getD_getElem?, Array.getElem?_replicate] at hj; split at hj <;> cases hj
def okD (l : List Oper) (N : Nat) : Bool := l.all fun o => match o.dst with | some d => decide (d < N) | none => true
theorem mcA {m : List Oper} (hd : okD m N = true) : ∀ {E : Env}, LA P l wb (fun rest E => LX P N wb l Q rest E) m E → LX P N wb l Q m E := by
  induction m with
  | nil => intro E h; exact h
  | cons o rest ih =>
    intro E h
    simp only [okD, List.all_cons, Bool.and_eq_true] at hd
    rcases h with ⟨r, hs, h⟩ | h
    · intro a w hst
      simp only [wpList]
      refine ngA hs hst.ext (fun t _ => hst.sat t) (fun v w' he hv => ?_)
      refine ih hd.2 h _ _ (hst.push he (fun d hd' => ?_) (.inr hv))
      have := hd.1; rw [hd'] at this; simpa using this
    · exact h
theorem psA {K K' : List Oper → Env → Prop} (hK : ∀ rest E, K rest E → K' rest E) : ∀ {m : List Oper} {E : Env}, LA P l wb K m E → LA P l wb K' m E
  | [], _, h => hK _ _ h
  | _ :: _, _, .inl ⟨r, hs, h⟩ => .inl ⟨r, hs, psA hK h⟩
  | _ :: _, _, .inr h => .inr (hK _ _ h)
theorem q1A {id : Nat} {E : Env} (hd : okD l N = true) (h : ∀ K : List Oper → Env → Prop, (∀ rest E, LX P N wb l Q rest E → K rest E) → LA P l wb K l E) : CX P N wb (.region id l.toArray false) E Q :=
  fun a w hst => wp_region_list (by simpa using mcA hd (h _ (fun _ _ h => h)) a w hst)
theorem amA {m : List Oper} {E : Env} (hd : okD m N = true) (h : ∀ K : List Oper → Env → Prop, (∀ rest E, LX P N wb l Q rest E → K rest E) → LA P l wb K m E) : LX P N wb l Q m E :=
  mcA hd (h _ (fun _ _ h => h))
theorem n2A {id : Nat} {E : Env} (hP : P.follows .mixedOrders = true) (hok : okR l l.length N = true)
    (h : ∀ K : List Oper → Env → Prop, (∀ E, PX N wb Q .normal E → K [] E) → LA P l wb K l E) : CX P N wb (.region id l.toArray true) E Q :=
  i3A l.length hP hok (Nat.le_refl _) (psA (fun rest E h => by
    obtain ⟨h1, h2⟩ := h
    subst h1
    exact ⟨by simp, h2⟩) (h (fun rest E => rest = [] ∧ PX N wb Q .normal E) (fun E h => ⟨rfl, h⟩)))
theorem djA (n : Nat) {id : Nat} {E : Env} (hP : P.follows .mixedOrders = true) (hok : okR l n N = true) (hn : n ≤ l.length)
    (h : ∀ K : List Oper → Env → Prop, (∀ rest E, rest.length = l.length - n → LX P N wb l Q rest E → K rest E) → LA P l wb K l E) : CX P N wb (.region id l.toArray true) E Q :=
  i3A n hP hok hn (h _ (fun _ _ h1 h2 => ⟨h1, h2⟩))
theorem thA {E : Env} (h : PX N wb Q .normal E) : LX P N wb l Q [] E := h
variable {E : Env} {x y c : Code} {id : Nat}
theorem q0A (h : CX P N wb x E (Exit.then (y.wp P Q) Q)) : CX P N wb (.seq x y) E Q := fun a w s => wp_seq (h a w s)
theorem w3A (h : PX N wb Q .normal E) : CX P N wb .skip E Q := fun a w s => wp_skip (h a w s)
theorem soA {k : Nat} (h : PX N wb Q .normal E) : CX P N wb (.label k) E Q := fun a w s => wp_label (h a w s)
theorem w4A (h : PX N wb Q (.exit id) E) : CX P N wb (.exit id) E Q := fun a w s => wp_exit (h a w s)
theorem xpA (h : PX N wb Q .ret E) : CX P N wb .ret E Q := fun a w s => wp_ret (h a w s)
theorem srA (h : CX P N wb c E (Exit.inBlock id Q)) : CX P N wb (.block id c) E Q := fun a w s => wp_block (h a w s)
theorem spA {o : Operand} (hc : opE E o = .val (.bool true)) (h : CX P N wb x E Q) : CX P N wb (.cond o x y) E Q := fun a w s =>
  wp_cond_true (by have := s.opd o; rw [hc] at this; exact this) (h a w s)
theorem sqA {o : Operand} (hc : opE E o = .val (.bool false)) (h : CX P N wb y E Q) : CX P N wb (.cond o x y) E Q := fun a w s =>
  wp_cond_false (by have := s.opd o; rw [hc] at this; exact this) (h a w s)
theorem mjA {o : Operand} {b : Bool} (hc : opE E o = .val (.bool b)) (hx : b = true → CX P N wb x E Q) (hy : b = false → CX P N wb y E Q) : CX P N wb (.cond o x y) E Q := fun a w s => by
  have hv : a.eval o = .bool b := by have := s.opd o; rw [hc] at this; exact this
  cases b
  · exact wp_cond_false hv (hy rfl a w s)
  · exact wp_cond_true hv (hx rfl a w s)
theorem vnA (h : CX P N wb y E Q) : PX N wb (Exit.then (y.wp P Q) Q) .normal E := h
theorem s2A {F : Act → World → Prop} {k : Nat} (h : PX N wb Q (.exit k) E) : PX N wb (Exit.then F Q) (.exit k) E := h
theorem s3A {F : Act → World → Prop} (h : PX N wb Q .ret E) : PX N wb (Exit.then F Q) .ret E := h
theorem pcA (h : PX N wb Q .normal E) : PX N wb (Exit.inBlock id Q) .normal E := h
theorem paA (h : PX N wb Q .ret E) : PX N wb (Exit.inBlock id Q) .ret E := h
theorem p9A (h : PX N wb Q .normal E) : PX N wb (Exit.inBlock id Q) (.exit id) E := fun a w s => by simpa [Exit.inBlock] using h a w s
theorem pbA {k : Nat} (hk : (k == id) = false) (h : PX N wb Q (.exit k) E) : PX N wb (Exit.inBlock id Q) (.exit k) E := fun a w s => by
  have : k ≠ id := by simpa using hk
  simpa [Exit.inBlock, this] using h a w s
theorem frA {a : Act} {w : World} : ∀ (E : Env), (∀ d r, (d, r) ∈ E → r.ok (a.tmps.getD d undef) w) → ∀ t, (lkE E t).ok (a.tmps.getD t undef) w
  | [], _, _ => trivial
  | (d, r) :: E, h, t => by
    rw [btA]
    by_cases e : t = d
    · subst e; simpa using h t r (by simp)
    · simp only [e, if_false]; exact frA E (fun d r hm => h d r (by simp [hm])) t
def Sub (wb : World) (E E' : Env) : Prop := ∀ d r, (d, r) ∈ E' → ∀ v w, Ext wb w → (lkE E d).ok v w → r.ok v w
theorem Sub.nil : Sub wb E [] := fun _ _ hm => by cases hm
theorem Sub.cons {E' : Env} {d : Nat} {r : AD} (h : ∀ v w, Ext wb w → (lkE E d).ok v w → r.ok v w) (hs : Sub wb E E') : Sub wb E ((d, r) :: E') := fun d' r' hm => by
  simp only [List.mem_cons, Prod.mk.injEq] at hm
  rcases hm with ⟨rfl, rfl⟩ | hm
  · exact h
  · exact hs d' r' hm
theorem Sub.same {E' : Env} {d : Nat} {r : AD} (h : lkE E d = r) (hs : Sub wb E E') : Sub wb E ((d, r) :: E') := Sub.cons (fun _ _ _ hv => h ▸ hv) hs
theorem Sub.val {E' : Env} {d : Nat} {v v' : Value} (h : lkE E d = .val v) (hv : v = v') (hs : Sub wb E E') : Sub wb E ((d, .val v') :: E') := Sub.same (hv ▸ h) hs
theorem Sub.st {E' : Env} (h : Sub wb E E') (s : St N wb E a w) : St N wb E' a w :=
  ⟨s.sz, s.df, s.ext, frA E' fun d r hm => h d r hm _ _ s.ext (s.sat d)⟩
theorem gmA {ι : Type} (I : ι → Act → World → Prop) (μ : ι → Nat) (round : ∀ i a w, I i a w → c.wp P (Exit.then (fun a' w' => ∃ i', I i' a' w' ∧ μ i' < μ i) Q) a w) {i0 : ι} (h0 : I i0 a w) :
    (Code.loop c).wp P Q a w := by
  intro b k cs
  have key : ∀ n i a w, μ i = n → I i a w → ∃ e a' w', Q e a' w' ∧ Arrives P (lone (b.at a (.code c :: .inLoop c :: k)) cs w) b k cs e a' w' := by
    intro n
    induction n using Nat.strongRecOn with
    | _ n ih =>
      intro i a w hn hI
      obtain ⟨e, a₁, w₁, hq, harr⟩ := round i a w hI b (.inLoop c :: k) cs
      cases e with
      | normal =>
        obtain ⟨i', hI₁, hlt⟩ := hq
        obtain ⟨e₂, a₂, w₂, hq₂, harr₂⟩ := ih (μ i') (hn ▸ hlt) i' a₁ w₁ rfl hI₁
        exact ⟨e₂, a₂, w₂, hq₂, .of_steps (Steps.trans harr (.one step_inLoop)) harr₂⟩
      | exit id => exact ⟨_, a₁, w₁, hq, .pass (x := .inLoop c) rfl (fun _ _ => .inl (by simp)) harr⟩
      | goto l => exact ⟨_, a₁, w₁, hq, .pass (x := .inLoop c) rfl (fun _ _ => .inl (by simp)) harr⟩
      | ret => exact ⟨_, a₁, w₁, hq, .pass (x := .inLoop c) rfl (fun _ _ => .inl (by simp)) harr⟩
      | panic ch => exact ⟨_, a₁, w₁, hq, .pass (x := .inLoop c) rfl (fun _ _ => .inl (by simp)) harr⟩
      | outgrown => exact ⟨_, a₁, w₁, hq, .pass (x := .inLoop c) rfl (fun _ _ => .inl (by simp)) harr⟩
  obtain ⟨e, a', w', hq, harr⟩ := key _ i0 a w rfl h0
  exact ⟨e, a', w', hq, .of_steps (.one step_loop) harr⟩
def Rnd {ι : Type} (N : Nat) (wb : World) (J : ι → Env) (C : ι → Prop) (μ : ι → Nat) (m : Nat) : Act → World → Prop := fun a w => ∃ i, (C i ∧ St N wb (J i) a w) ∧ μ i < m
theorem b8A {ι : Type} (J : ι → Env) (C : ι → Prop) (μ : ι → Nat) (i0 : ι) (h0 : C i0) (hs : Sub wb E (J i0))
    (hr : ∀ i, C i → CX P N wb c (J i) (Exit.then (Rnd N wb J C μ (μ i)) Q)) : CX P N wb (.loop c) E Q := fun _ _ s =>
  gmA (fun i a w => C i ∧ St N wb (J i) a w) μ (fun i a w h => hr i h.1 a w h.2) ⟨h0, hs.st s⟩
theorem bpA {ι : Type} {J : ι → Env} {C : ι → Prop} {μ : ι → Nat} {m : Nat} (i : ι) (h0 : C i) (hm : μ i < m) (hs : Sub wb E (J i)) : PX N wb (Exit.then (Rnd N wb J C μ m) Q) .normal E :=
  fun _ _ s => ⟨i, ⟨h0, hs.st s⟩, hm⟩
def RndW {ι : Type} (N : Nat) (J : ι → Env) (I : ι → World → Prop) (μ : ι → Nat) (m : Nat) : Act → World → Prop := fun a w => ∃ i, (I i w ∧ St N w (J i) a w) ∧ μ i < m
theorem St.rebase (s : St N wb E a w) : St N w E a w := ⟨s.sz, s.df, Ext.refl _, s.sat⟩
theorem St.pick {t : Nat} (s : St N wb E a w) : St N w ((t, .val (a.tmps.getD t undef)) :: E) a w :=
  ⟨s.sz, s.df, Ext.refl _, fun u => by
    rw [btA]
    split
    · rename_i h; subst h; rfl
    · exact s.sat u⟩
theorem g6A (t : Nat) {φ : AV} (hl : lkE E t = .pred φ) (h : ∀ v w, Ext wb w → φ.p v w → CX P N w c ((t, .val v) :: E) Q) : CX P N wb c E Q := fun a w s =>
  h _ w s.ext (by have := s.sat t; rw [hl] at this; exact this) a w s.pick
theorem vpA (t : Nat) {φ : AV} {e : Exit} (hl : lkE E t = .pred φ) (h : ∀ v w, Ext wb w → φ.p v w → PX N w Q e ((t, .val v) :: E)) : PX N wb Q e E := fun a w s =>
  h _ w s.ext (by have := s.sat t; rw [hl] at this; exact this) a w s.pick
theorem byA (t : Nat) {φ : AV} {rest : List Oper} (hl : lkE E t = .pred φ) (h : ∀ v w, Ext wb w → φ.p v w → LX P N w l Q rest ((t, .val v) :: E)) : LX P N wb l Q rest E := fun a w s =>
  h _ w s.ext (by have := s.sat t; rw [hl] at this; exact this) a w s.pick
theorem ahA {ι : Type} (J : ι → Env) (I : ι → World → Prop) (μ : ι → Nat) (h0 : ∀ w, Ext wb w → ∃ i, I i w ∧ Sub wb E (J i))
    (hr : ∀ i w, I i w → CX P N w c (J i) (Exit.then (RndW N J I μ (μ i)) Q)) : CX P N wb (.loop c) E Q := fun a w s => by
  obtain ⟨i, h1, h2⟩ := h0 w s.ext
  exact gmA (fun i a w => I i w ∧ St N w (J i) a w) μ (fun i a w h => hr i w h.1 a w h.2) ⟨h1, (h2.st s).rebase⟩
theorem a7A {ι : Type} {J : ι → Env} {I : ι → World → Prop} {μ : ι → Nat} {m : Nat} (i : ι) (h0 : ∀ w, Ext wb w → I i w) (hm : μ i < m) (hs : Sub wb E (J i)) :
    PX N wb (Exit.then (RndW N J I μ m) Q) .normal E := fun _ w s => ⟨i, ⟨h0 w s.ext, (hs.st s).rebase⟩, hm⟩
def jyA : List Value → Nat → Env
  | [], _ => []
  | v :: r, i => (i, .val v) :: jyA r (i + 1)
theorem jxA (tmps : Array Value) : ∀ (args : List Value) (i : Nat), (∀ k v, args[k]? = some v → tmps.getD (i + k) undef = v) → ∀ d r, (d, r) ∈ jyA args i → ∀ w, r.ok (tmps.getD d undef) w
  | [], _, _, _, _, hm, _ => by cases hm
  | v :: args, i, h, d, r, hm, w => by
    simp only [jyA, List.mem_cons, Prod.mk.injEq] at hm
    rcases hm with ⟨rfl, rfl⟩ | hm
    · exact h 0 v rfl
    · exact jxA tmps args (i + 1) (fun k v hk => by have := h (k + 1) v (by simpa using hk); rw [← this]; congr 1; omega) d r hm w
def Ret (w : World) (r : AD) : Ending → World → Prop := fun e w' => ∃ v, e = .returned v ∧ Ext w w' ∧ r.ok v w'
theorem rrA {f : FuncId} {fn : Func} {args : List Value} {R : Ending → World → Prop} (hf : P.funcs[f]? = some fn) (hb : fn.body = some c) (hn : fn.ntmps = N) (hle : args.length ≤ N)
    (h : CX P N w c (jyA args 0) (bodyPost P fn R)) : Calls P f args.toArray w R := by
  refine calls_of_wp hf hb (h _ _ ⟨?_, rfl, Ext.refl _, ?_⟩)
  · simp [hn]; omega
  · refine frA _ (fun d r hm => jxA _ args 0 (fun k v hk => ?_) d r hm w)
    have hlt := (List.getElem?_eq_some_iff.1 hk).1
    have hv := (List.getElem?_eq_some_iff.1 hk).2
    simp only [Nat.zero_add, Array.getD_eq_getD_getElem?]
    rw [Array.getElem?_append_left (by simpa using hlt)]
    simp [hlt, hv]
theorem blA {fn : Func} {R : Ending → World → Prop} {t : Nat} (hr : fn.results = #[.tmp t]) (h : ∀ v w, Ext wb w → (lkE E t).ok v w → R (.returned v) w) : PX N wb (bodyPost P fn R) .ret E :=
  fun _ _ s => ⟨s.df, _, results_tmp hr _ _ _, h _ _ s.ext (s.sat t)⟩
theorem dqA {fn : Func} {R : Ending → World → Prop} {t u : Nat} (hr : fn.results = #[.tmp t, .tmp u]) (h : ∀ x y w, Ext wb w → (lkE E t).ok x w → (lkE E u).ok y w → R (.returned (.tuple #[x, y])) w) : PX N wb (bodyPost P fn R) .ret E :=
  fun _ _ s => ⟨s.df, _, results_tmp2 hr _ _ _, h _ _ _ s.ext (s.sat t) (s.sat u)⟩
theorem voA {fn : Func} {t : Nat} {c : Value} {w0 : World} {r : AD} (hr : fn.results = #[.tmp t]) (hl : lkE E t = .val c) (he : Ext w0 wb) (hc : ∀ w, Ext wb w → r.ok c w) : PX N wb (bodyPost P fn (Ret w0 r)) .ret E :=
  blA hr fun v w e hv => by
    rw [hl] at hv
    have hv : v = c := hv
    exact ⟨v, rfl, he.trans e, hv ▸ hc w e⟩
theorem abA {fn : Func} {t : Nat} {c c' : Value} {w0 : World} (hr : fn.results = #[.tmp t]) (hl : lkE E t = .val c) (he : Ext w0 wb) (hc : c = c') : PX N wb (bodyPost P fn (Ret w0 (.val c'))) .ret E :=
  voA hr hl he fun _ _ => hc
theorem alA {fn : Func} {t : Nat} {w0 : World} {r r' : AD} (hr : fn.results = #[.tmp t]) (hl : lkE E t = r') (he : Ext w0 wb) (hc : ∀ v w, Ext wb w → r'.ok v w → r.ok v w) : PX N wb (bodyPost P fn (Ret w0 r)) .ret E :=
  blA hr fun v w e hv => ⟨v, rfl, he.trans e, hc v w e (hl ▸ hv)⟩
theorem edA {fn : Func} {t u : Nat} {c c' b b' : Value} {w0 : World} (hr : fn.results = #[.tmp t, .tmp u]) (hl : lkE E t = .val c) (hl' : lkE E u = .val b) (he : Ext w0 wb) (hc : c = c') (hb : b = b') : PX N wb (bodyPost P fn (Ret w0 (.tup2 (.val c') (.val b')))) .ret E :=
  dqA hr fun x y w e hx hy => by
    rw [hl] at hx; rw [hl'] at hy
    exact ⟨_, rfl, he.trans e, x, y, rfl, Eq.trans hx hc, Eq.trans hy hb⟩
theorem b2A {fn : Func} {R : Ending → World → Prop} (hr : fn.results = #[]) (h : ∀ w, Ext wb w → R (.returned (.tuple #[])) w) {e : Exit} (he : e = .normal ∨ e = .ret) : PX N wb (bodyPost P fn R) e E :=
  fun _ _ s => by rcases he with rfl | rfl <;> exact ⟨s.df, _, results_none hr _ _ _, h _ s.ext⟩
variable {K : List Oper → Env → Prop} {rest : List Oper}
theorem b0A {o : Oper} (r : AD) (hg : b5A l E o.guard = some true) (hob : OB P wb E o r) (h : LA P l wb K rest (puE o.dst r E)) : LA P l wb K (o :: rest) E := .inl ⟨r, .inl ⟨hg, hob⟩, h⟩
theorem vvA {o : Oper} (hg : b5A l E o.guard = some false) (h : LA P l wb K rest (puE o.dst (.val undef) E)) : LA P l wb K (o :: rest) E := .inl ⟨_, .inr ⟨hg, rfl⟩, h⟩
theorem a4A {o : Oper} (h : K (o :: rest) E) : LA P l wb K (o :: rest) E := .inr h
theorem pqA (h : K [] E) : LA P l wb K [] E := h
theorem g3A {P : Program} {l : List Oper} {wb : World} {K : List Oper → Env → Prop} {E : Env} : LA P l wb K [] E ↔ K [] E := Iff.rfl
theorem dsA {P : Program} {l : List Oper} {wb : World} {K : List Oper → Env → Prop} {o : Oper} {rest : List Oper} {E : Env} : LA P l wb K (o :: rest) E ↔ ((∃ r, Stp P l wb E o r ∧ LA P l wb K rest (puE o.dst r E)) ∨ K (o :: rest) E) := Iff.rfl
end
attribute [irreducible] LA CX PX LX
end Go.LA
end
section
namespace Go.LA
open Go.RowKit
def guA (cs : List Value) : AV := ⟨fun v w => ∃ p : Addr, v = .pointer (some p) ∧ ∀ (j : Nat) (c : Value), cs[j]? = some c → w.cell? (p.add j) = some c,
  fun _ _ _ e ⟨p, h1, h2⟩ => ⟨p, h1, fun j c h => e.cell (h2 j c h)⟩⟩
def SlC (w : World) (v : Value) (n s : Nat) (cs : List Value) : Prop :=
  cs.length = n * s ∧ ∃ (a : Option Addr) (cap : Nat), v = .slice a n cap ∧ n ≤ cap ∧ cap ≤ maxLen ∧ (a = none → cap = 0) ∧ (n = 0 ∨ ∃ b off, a = some ⟨b, off, none⟩ ∧ ∀ (j : Nat) (c : Value), cs[j]? = some c → w.cell? ⟨b, off + j, none⟩ = some c)
theorem SlC.ext {w w' : World} {v : Value} {n s : Nat} {cs : List Value} (h : SlC w v n s cs) (e : Ext w w') : SlC w' v n s cs := by
  obtain ⟨h0, a, cap, h1, h2, h3, h4, h5⟩ := h
  refine ⟨h0, a, cap, h1, h2, h3, h4, ?_⟩
  rcases h5 with h5 | ⟨b, off, h5, h6⟩
  · exact .inl h5
  · exact .inr ⟨b, off, h5, fun j c hj => e.cell (h6 j c hj)⟩
def slC (n s : Nat) (cs : List Value) : AV := ⟨fun v w => SlC w v n s cs, fun _ _ _ e h => h.ext e⟩
def SlI (k : IntKind) (w : World) (v : Value) (xs : List Int) : Prop := SlC w v xs.length 1 (xs.map (Value.int k))
theorem SlI.ext {k : IntKind} {w w' : World} {v : Value} {xs : List Int} (h : SlI k w v xs) (e : Ext w w') : SlI k w' v xs := SlC.ext h e
def slI (k : IntKind) (xs : List Int) : AV := ⟨fun v w => SlI k w v xs, fun _ _ _ e h => h.ext e⟩
theorem SlI.len {k : IntKind} {w : World} {v : Value} {xs : List Int} (h : SlI k w v xs) : xs.length ≤ 9223372036854775807 := by
  obtain ⟨_, a, cap, _, h2, h3, _⟩ := h
  unfold maxLen at h3; omega
theorem SlC.len {w : World} {v : Value} {n s : Nat} {cs : List Value} (h : SlC w v n s cs) : n ≤ 9223372036854775807 := by
  obtain ⟨_, a, cap, _, h2, h3, _⟩ := h
  unfold maxLen at h3; omega
theorem SlC.isSlice {w : World} {v : Value} {n s : Nat} {cs : List Value} (h : SlC w v n s cs) : ∃ a c, v = .slice a n c := let ⟨_, a, c, h, _⟩ := h; ⟨a, c, h⟩
theorem SlI.isSlice {k : IntKind} {w : World} {v : Value} {xs : List Int} (h : SlI k w v xs) : ∃ a c, v = .slice a xs.length c := SlC.isSlice h
def HasC (wb : World) (r : AD) (n s : Nat) (cs : List Value) : Prop := ∀ v w, Ext wb w → r.ok v w → SlC w v n s cs
def HasI (wb : World) (r : AD) (k : IntKind) (xs : List Int) : Prop := ∀ v w, Ext wb w → r.ok v w → SlI k w v xs
theorem HasC.val {wb : World} {u : Value} {n s : Nat} {cs : List Value} (h : SlC wb u n s cs) : HasC wb (.val u) n s cs := fun v w e hv => by
  have hv : v = u := hv
  subst hv; exact h.ext e
theorem HasC.pred {wb : World} {n s : Nat} {cs : List Value} : HasC wb (.pred (slC n s cs)) n s cs := fun _ _ _ hv => hv
theorem HasI.val {wb : World} {u : Value} {k : IntKind} {xs : List Int} (h : SlI k wb u xs) : HasI wb (.val u) k xs := fun v w e hv => by
  have hv : v = u := hv
  subst hv; exact h.ext e
theorem HasI.pred {wb : World} {k : IntKind} {xs : List Int} : HasI wb (.pred (slI k xs)) k xs := fun _ _ _ hv => hv
theorem HasI.c {wb : World} {r : AD} {k : IntKind} {xs : List Int} (h : HasI wb r k xs) : HasC wb r xs.length 1 (xs.map (Value.int k)) := h
section
variable {P : Program} {l : List Oper} {N : Nat} {wb : World} {K : List Oper → Env → Prop} {rest : List Oper} {E : Env}
theorem bcA {o : Oper} {v : Value} (h : ∀ (a : Act) (w : World), Ext wb w → (∀ x ∈ o.op.operands, (opE E x).ok (a.eval x) w) → (execOp a.eval o).run P w = .ok (.value v) w) : OB P wb E o (.val v) := fun a w he hx => by
  rw [h a w he hx]; exact ⟨Ext.refl _, rfl⟩
variable {d : Tmp} {ty t t' : TypeId} {pos : String} {after : Array Edge} {g : Option (Nat × Bool)} {x y z : Operand} {k k' : IntKind}
theorem pdA {r : AD} {o : Oper} (ho : o.op = .move x ∨ o.op = .assign x) (hx : opE E x = r) : OB P wb E o r := fun a w he h => by
  obtain ⟨dst, op, ty, pos, after, guard⟩ := o
  simp only at ho h
  rcases ho with rfl | rfl
  · have h1 := h x (by simp [Op.operands])
    rw [hx] at h1
    simp only [execOp, Sem.run_pure]; exact ⟨Ext.refl _, h1⟩
  · have h1 := h x (by simp [Op.operands])
    rw [hx] at h1
    simp only [execOp, Sem.run_pure]; exact ⟨Ext.refl _, h1⟩
theorem j2A {r : AD} (hg : b5A l E g = some true) (hx : opE E x = r) (h : LA P l wb K rest ((d, r) :: E)) : LA P l wb K (⟨some d, .move x, ty, pos, after, g⟩ :: rest) E :=
  b0A r hg (pdA (.inl rfl) hx) h
theorem hiA {r : AD} (hg : b5A l E g = some true) (hx : opE E x = r) (h : LA P l wb K rest ((d, r) :: E)) : LA P l wb K (⟨some d, .assign x, ty, pos, after, g⟩ :: rest) E :=
  b0A r hg (pdA (.inr rfl) hx) h
theorem dbA {c : Value} (hg : b5A l E g = some true) (hx : opE E x = .val c) (h : LA P l wb K rest ((d, .val c) :: E)) : LA P l wb K (⟨some d, .move x, ty, pos, after, g⟩ :: rest) E := j2A hg hx h
theorem sgA {φ : AV} (hg : b5A l E g = some true) (hx : opE E x = .pred φ) (h : LA P l wb K rest ((d, .pred φ) :: E)) : LA P l wb K (⟨some d, .move x, ty, pos, after, g⟩ :: rest) E := j2A hg hx h
theorem sfA {a b : AD} (hg : b5A l E g = some true) (hx : opE E x = .tup2 a b) (h : LA P l wb K rest ((d, .tup2 a b) :: E)) : LA P l wb K (⟨some d, .move x, ty, pos, after, g⟩ :: rest) E := j2A hg hx h
theorem seA {a b c : AD} (hg : b5A l E g = some true) (hx : opE E x = .tup3 a b c) (h : LA P l wb K rest ((d, .tup3 a b c) :: E)) : LA P l wb K (⟨some d, .move x, ty, pos, after, g⟩ :: rest) E := j2A hg hx h
theorem i2A {c : Value} (hg : b5A l E g = some true) (hx : opE E x = .val c) (h : LA P l wb K rest ((d, .val c) :: E)) : LA P l wb K (⟨some d, .assign x, ty, pos, after, g⟩ :: rest) E := hiA hg hx h
theorem n1A {φ : AV} (hg : b5A l E g = some true) (hx : opE E x = .pred φ) (h : LA P l wb K rest ((d, .pred φ) :: E)) : LA P l wb K (⟨some d, .assign x, ty, pos, after, g⟩ :: rest) E := hiA hg hx h
theorem n0A {a b : AD} (hg : b5A l E g = some true) (hx : opE E x = .tup2 a b) (h : LA P l wb K rest ((d, .tup2 a b) :: E)) : LA P l wb K (⟨some d, .assign x, ty, pos, after, g⟩ :: rest) E := hiA hg hx h
theorem a0A {op : Op} (hg : b5A l E g = some false) (h : LA P l wb K rest ((d, .val undef) :: E)) : LA P l wb K (⟨some d, op, ty, pos, after, g⟩ :: rest) E := vvA hg h
theorem scA {r : AD} (hg : b5A l E g = some true) (hc : opE E x = .val (.bool true)) (hx : opE E y = r) (h : LA P l wb K rest ((d, r) :: E)) : LA P l wb K (⟨some d, .pick x y z, ty, pos, after, g⟩ :: rest) E :=
  b0A r hg (fun a w he hh => by
    have h0 := hh x (by simp [Op.operands]); have h1 := hh y (by simp [Op.operands])
    rw [hc] at h0; rw [hx] at h1; simp only [AD.ok] at h0
    simp only [execOp, h0, asBool, Sem.run_bind, Sem.run_pure, Result.andThen_ok, if_true]
    exact ⟨Ext.refl _, h1⟩) h
theorem sdA {r : AD} (hg : b5A l E g = some true) (hc : opE E x = .val (.bool false)) (hx : opE E z = r) (h : LA P l wb K rest ((d, r) :: E)) : LA P l wb K (⟨some d, .pick x y z, ty, pos, after, g⟩ :: rest) E :=
  b0A r hg (fun a w he hh => by
    have h0 := hh x (by simp [Op.operands]); have h1 := hh z (by simp [Op.operands])
    rw [hc] at h0; rw [hx] at h1; simp only [AD.ok] at h0
    simp only [execOp, h0, asBool, Sem.run_bind, Sem.run_pure, Result.andThen_ok, Bool.false_eq_true, if_false]
    exact ⟨Ext.refl _, h1⟩) h
theorem pmA {c : Value} (hg : b5A l E g = some true) (hc : opE E x = .val (.bool true)) (hx : opE E y = .val c) (h : LA P l wb K rest ((d, .val c) :: E)) : LA P l wb K (⟨some d, .pick x y z, ty, pos, after, g⟩ :: rest) E := scA hg hc hx h
theorem pnA {c : Value} (hg : b5A l E g = some true) (hc : opE E x = .val (.bool false)) (hx : opE E z = .val c) (h : LA P l wb K rest ((d, .val c) :: E)) : LA P l wb K (⟨some d, .pick x y z, ty, pos, after, g⟩ :: rest) E := sdA hg hc hx h
theorem ppA {b : Bool} (hg : b5A l E g = some true) (hc : opE E x = .val (.bool b)) (h : LA P l wb K rest ((d, .val (.bool (!b))) :: E)) : LA P l wb K (⟨some d, .unOp .not t x, ty, pos, after, g⟩ :: rest) E :=
  b0A _ hg (bcA fun a w he hh => by
    have h0 := hh x (by simp [Op.operands])
    rw [hc] at h0; simp only [AD.ok] at h0
    simp only [execOp, h0, Op.unary, Sem.run_bind, Sem.run_pure, Result.andThen_ok]) h
theorem vwA (hg : b5A l E g = some true) (hc : opE E x = .val (.bool true)) (h : LA P l wb K rest ((d, .val (.bool false)) :: E)) : LA P l wb K (⟨some d, .unOp .not t x, ty, pos, after, g⟩ :: rest) E := ppA hg hc h
theorem vxA (hg : b5A l E g = some true) (hc : opE E x = .val (.bool false)) (h : LA P l wb K rest ((d, .val (.bool true)) :: E)) : LA P l wb K (⟨some d, .unOp .not t x, ty, pos, after, g⟩ :: rest) E := ppA hg hc h
theorem w1A {r r' : AD} (hg : b5A l E g = some true) (hx : opE E x = .tup2 r r') (h : LA P l wb K rest ((d, r) :: E)) : LA P l wb K (⟨some d, .extract x 0, ty, pos, after, g⟩ :: rest) E :=
  b0A _ hg (fun a w he hh => by
    have h0 := hh x (by simp [Op.operands])
    rw [hx] at h0
    obtain ⟨u, v, h1, h2, h3⟩ := h0
    simp only [execOp, h1, Instr.extract, Sem.run_bind]; exact ⟨Ext.refl _, h2⟩) h
theorem w0A {r r' : AD} (hg : b5A l E g = some true) (hx : opE E x = .tup2 r r') (h : LA P l wb K rest ((d, r') :: E)) : LA P l wb K (⟨some d, .extract x 1, ty, pos, after, g⟩ :: rest) E :=
  b0A _ hg (fun a w he hh => by
    have h0 := hh x (by simp [Op.operands])
    rw [hx] at h0
    obtain ⟨u, v, h1, h2, h3⟩ := h0
    simp only [execOp, h1, Instr.extract, Sem.run_bind]; exact ⟨Ext.refl _, h3⟩) h
theorem sjA {r r' r'' : AD} (hg : b5A l E g = some true) (hx : opE E x = .tup3 r r' r'') (h : LA P l wb K rest ((d, r) :: E)) : LA P l wb K (⟨some d, .extract x 0, ty, pos, after, g⟩ :: rest) E :=
  b0A _ hg (fun a w he hh => by
    have h0 := hh x (by simp [Op.operands])
    rw [hx] at h0
    obtain ⟨u, v, z, h1, h2, h3, h4⟩ := h0
    simp only [execOp, h1, Instr.extract, Sem.run_bind]; exact ⟨Ext.refl _, h2⟩) h
theorem siA {r r' r'' : AD} (hg : b5A l E g = some true) (hx : opE E x = .tup3 r r' r'') (h : LA P l wb K rest ((d, r') :: E)) : LA P l wb K (⟨some d, .extract x 1, ty, pos, after, g⟩ :: rest) E :=
  b0A _ hg (fun a w he hh => by
    have h0 := hh x (by simp [Op.operands])
    rw [hx] at h0
    obtain ⟨u, v, z, h1, h2, h3, h4⟩ := h0
    simp only [execOp, h1, Instr.extract, Sem.run_bind]; exact ⟨Ext.refl _, h3⟩) h
theorem shA {r r' r'' : AD} (hg : b5A l E g = some true) (hx : opE E x = .tup3 r r' r'') (h : LA P l wb K rest ((d, r'') :: E)) : LA P l wb K (⟨some d, .extract x 2, ty, pos, after, g⟩ :: rest) E :=
  b0A _ hg (fun a w he hh => by
    have h0 := hh x (by simp [Op.operands])
    rw [hx] at h0
    obtain ⟨u, v, z, h1, h2, h3, h4⟩ := h0
    simp only [execOp, h1, Instr.extract, Sem.run_bind]; exact ⟨Ext.refl _, h4⟩) h
def ioA : BinOp → Bool
  | .lss | .leq | .gtr | .geq | .eql | .neq => true
  | _ => false
def j8A : BinOp → Int → Int → Prop
  | .lss, a, b => a < b
  | .leq, a, b => a ≤ b
  | .gtr, a, b => b < a
  | .geq, a, b => b ≤ a
  | .eql, a, b => a = b
  | .neq, a, b => a ≠ b
  | _, _, _ => False
theorem u3A {op : BinOp} {a b : Int} {v : Bool} (hc : ioA op = true) (hv : j8A op a b ↔ v = true) (w : World) : (binOp op t (.int k a) (.int k b)).run P w = .ok (.bool v) w := by
  cases op <;> simp only [ioA, Bool.false_eq_true] at hc <;> simp only [binOp_lss, binOp_leq, binOp_gtr, binOp_geq, binOp_eql, binOp_neq, Sem.run_pure, j8A] at hv ⊢ <;>
    (congr 2; rw [Bool.eq_iff_iff, ← hv]; simp)
theorem peA {op : BinOp} {a b : Int} {v : Bool} (hx : opE E x = .val (.int k a)) (hy : opE E y = .val (.int k b)) (hc : ioA op = true) (hv : j8A op a b ↔ v = true) :
    OB P wb E ⟨some d, .binOp op t x y t', ty, pos, after, g⟩ (.val (.bool v)) := bcA fun a w he h => by
  have h1 := h x (by simp [Op.operands]); have h2 := h y (by simp [Op.operands])
  rw [hx] at h1; rw [hy] at h2
  simp only [AD.ok] at h1 h2
  simp only [execOp, h1, h2, Sem.run_bind, eqGuard_at_int, Sem.run_pure, Result.andThen_ok, u3A hc hv]
theorem kzA {op : BinOp} {a b : Int} (hg : b5A l E g = some true) (hx : opE E x = .val (.int k a)) (hy : opE E y = .val (.int k b)) (hc : ioA op = true) (hp : j8A op a b)
    (h : LA P l wb K rest ((d, .val (.bool true)) :: E)) : LA P l wb K (⟨some d, .binOp op t x y t', ty, pos, after, g⟩ :: rest) E :=
  b0A _ hg (peA hx hy hc ⟨fun _ => rfl, fun _ => hp⟩) h
theorem g4A {op : BinOp} {a b : Int} (hg : b5A l E g = some true) (hx : opE E x = .val (.int k a)) (hy : opE E y = .val (.int k b)) (hc : ioA op = true) (hp : ¬ j8A op a b)
    (h : LA P l wb K rest ((d, .val (.bool false)) :: E)) : LA P l wb K (⟨some d, .binOp op t x y t', ty, pos, after, g⟩ :: rest) E :=
  b0A (.val (.bool false)) hg (peA hx hy hc ⟨fun h => absurd h hp, fun h => by cases h⟩) h
theorem xnA {op : BinOp} {a b : Int} (hg : b5A l E g = some true) (hx : opE E x = .val (.int k a)) (hy : opE E y = .val (.int k b)) (hc : ioA op = true)
    (h : j8A op a b → LA P l wb K rest ((d, .val (.bool true)) :: E)) (h' : ¬ j8A op a b → LA P l wb K rest ((d, .val (.bool false)) :: E)) :
    LA P l wb K (⟨some d, .binOp op t x y t', ty, pos, after, g⟩ :: rest) E := by
  by_cases hp : j8A op a b
  · exact kzA hg hx hy hc hp (h hp)
  · exact g4A hg hx hy hc hp (h' hp)
def isAr : BinOp → Bool
  | .add | .sub | .mul => true
  | _ => false
def arI : BinOp → Int → Int → Int
  | .add, a, b => a + b
  | .sub, a, b => a - b
  | .mul, a, b => a * b
  | _, a, _ => a
theorem OB_ar {op : BinOp} {a b : Int} (hx : opE E x = .val (.int k a)) (hy : opE E y = .val (.int k b)) (hc : isAr op = true) :
    OB P wb E ⟨some d, .binOp op t x y t', ty, pos, after, g⟩ (.val (.int k (k.wrap (arI op a b)))) := bcA fun a w he h => by
  have h1 := h x (by simp [Op.operands]); have h2 := h y (by simp [Op.operands])
  rw [hx] at h1; rw [hy] at h2
  simp only [AD.ok] at h1 h2
  cases op <;> simp only [isAr, Bool.false_eq_true] at hc <;>
    simp only [execOp, h1, h2, Sem.run_bind, eqGuard_at_int, Sem.run_pure, Result.andThen_ok, binOp_add, binOp_sub, binOp_mul, Op.intArith, arI]
theorem miA {op : BinOp} {a b : Int} (hg : b5A l E g = some true) (hx : opE E x = .val (.int k a)) (hy : opE E y = .val (.int k b)) (hc : isAr op = true)
    (h : LA P l wb K rest ((d, .val (.int k (k.wrap (arI op a b)))) :: E)) :
    LA P l wb K (⟨some d, .binOp op t x y t', ty, pos, after, g⟩ :: rest) E := b0A _ hg (OB_ar hx hy hc) h
theorem f0A {src dst : TypeId} {n : Int} {kd : IntKind} (hg : b5A l E g = some true) (hs : (P.underlying src).isSome = true) (hd : P.underlying dst = some (.int kd)) (hx : opE E x = .val (.int k n))
    (h : LA P l wb K rest ((d, .val (.int kd (kd.wrap n))) :: E)) : LA P l wb K (⟨some d, .convert src dst x, ty, pos, after, g⟩ :: rest) E :=
  b0A _ hg (bcA fun a w he hh => by
    have h1 := hh x (by simp [Op.operands])
    rw [hx] at h1; simp only [AD.ok] at h1
    obtain ⟨u, hu⟩ := Option.isSome_iff_exists.mp hs
    simp only [execOp, h1, convert, Sem.run_bind, run_underlying hd, run_underlying hu, Conv.intToInt, Sem.run_pure, Result.andThen_ok]) h
def fits : IntKind → Int → Prop
  | .i64, n => -9223372036854775808 ≤ n ∧ n ≤ 9223372036854775807
  | .u64, n => 0 ≤ n ∧ n ≤ 18446744073709551615
  | .i32, n => -2147483648 ≤ n ∧ n ≤ 2147483647
  | .u32, n => 0 ≤ n ∧ n ≤ 4294967295
  | .i16, n => -32768 ≤ n ∧ n ≤ 32767
  | .u16, n => 0 ≤ n ∧ n ≤ 65535
  | .i8, n => -128 ≤ n ∧ n ≤ 127
  | .u8, n => 0 ≤ n ∧ n ≤ 255
theorem ddA (k : IntKind) (n : Int) (h : fits k n) : k.wrap n = n := by
  cases k <;> simp only [fits] at h
  · exact IntWalk.i8_in n h
  · exact IntWalk.i16_in n h
  · exact IntWalk.i32_in n h
  · exact IntWalk.i64_in n h
  · exact IntWalk.u8_in n h
  · exact IntWalk.u16_in n h
  · exact IntWalk.u32_in n h
  · exact IntWalk.u64_in n h
theorem mhA {src dst : TypeId} {n : Int} {kd : IntKind} (hg : b5A l E g = some true) (hs : (P.underlying src).isSome = true) (hd : P.underlying dst = some (.int kd)) (hx : opE E x = .val (.int k n)) (hf : fits kd n)
    (h : LA P l wb K rest ((d, .val (.int kd n)) :: E)) : LA P l wb K (⟨some d, .convert src dst x, ty, pos, after, g⟩ :: rest) E :=
  f0A hg hs hd hx (by rw [ddA kd n hf]; exact h)
theorem ejA {n m : Int} {km : IntKind} (hg : b5A l E g = some true) (hx : opE E x = .val (.int k n)) (hy : opE E y = .val (.int km m)) (h0 : 0 ≤ m) (h1 : m ≤ k.bits)
    (h : LA P l wb K rest ((d, .val (.int k (n / 2 ^ m.toNat))) :: E)) : LA P l wb K (⟨some d, .binOp .shr t x y t', ty, pos, after, g⟩ :: rest) E :=
  b0A _ hg (bcA fun a w he hh => by
    have e1 := hh x (by simp [Op.operands]); have e2 := hh y (by simp [Op.operands])
    rw [hx] at e1; rw [hy] at e2; simp only [AD.ok] at e1 e2
    simp only [execOp, e1, e2, Sem.run_bind, eqGuard_at_int, Sem.run_pure, Result.andThen_ok, binOp_shr, shift_shr k km n m h0 h1]) h
theorem hbA {n m : Int} {km : IntKind} (hg : b5A l E g = some true) (hx : opE E x = .val (.int k n)) (hy : opE E y = .val (.int km m)) (h0 : 0 ≤ m) (h1 : m ≤ k.bits)
    (h : LA P l wb K rest ((d, .val (.int k (k.wrap (n * 2 ^ m.toNat)))) :: E)) : LA P l wb K (⟨some d, .binOp .shl t x y t', ty, pos, after, g⟩ :: rest) E :=
  b0A _ hg (bcA fun a w he hh => by
    have e1 := hh x (by simp [Op.operands]); have e2 := hh y (by simp [Op.operands])
    rw [hx] at e1; rw [hy] at e2; simp only [AD.ok] at e1 e2
    simp only [execOp, e1, e2, Sem.run_bind, eqGuard_at_int, Sem.run_pure, Result.andThen_ok, binOp_shl, shift_shl k km n m h0 h1]) h
theorem chA {op : BinOp} {n m : Int} (hop : op = .and ∨ op = .or ∨ op = .xor ∨ op = .andNot) (hg : b5A l E g = some true) (hx : opE E x = .val (.int k n)) (hy : opE E y = .val (.int k m))
    (h : LA P l wb K rest ((d, .val (.int k (bits op k n m))) :: E)) : LA P l wb K (⟨some d, .binOp op t x y t', ty, pos, after, g⟩ :: rest) E :=
  b0A _ hg (bcA fun a w he hh => by
    have e1 := hh x (by simp [Op.operands]); have e2 := hh y (by simp [Op.operands])
    rw [hx] at e1; rw [hy] at e2; simp only [AD.ok] at e1 e2
    rcases hop with rfl | rfl | rfl | rfl <;>
      simp only [execOp, e1, e2, Sem.run_bind, eqGuard_at_int, Sem.run_pure, Result.andThen_ok, binOp_and, binOp_or, binOp_xor, binOp_andNot, intBits_and, intBits_or, intBits_xor, intBits_andNot]) h
theorem hvA {tb : TypeId} {a b : Bool} {w : World} (ht : P.underlying tb = some .bool) : (Op.equal tb (.bool a) (.bool b)).run P w = .ok (a == b) w := by
  unfold Op.equal
  have : ∀ n, n ≠ 0 → (Op.equalIn n tb (.bool a) (.bool b)).run P w = .ok (a == b) w := fun n hn => by
    cases n with
    | zero => exact absurd rfl hn
    | succ n => simp [Op.equalIn, run_underlying ht]
  exact this _ (by decide)
theorem u2A {tb : TypeId} {a b : Bool} {w : World} (ht : P.underlying tb = some .bool) : (binOp .eql tb (.bool a) (.bool b)).run P w = .ok (.bool (a == b)) w := by
  show ((do pure (.bool (← Op.equal tb (.bool a) (.bool b))) : Sem Value)).run P w = _
  simp only [Sem.run_bind, hvA ht, Result.andThen_ok, Sem.run_pure]
theorem u0A {tb : TypeId} {a b : Bool} {w : World} (ht : P.underlying tb = some .bool) : (binOp .neq tb (.bool a) (.bool b)).run P w = .ok (.bool (!(a == b))) w := by
  show ((do pure (.bool (!(← Op.equal tb (.bool a) (.bool b)))) : Sem Value)).run P w = _
  simp only [Sem.run_bind, hvA ht, Result.andThen_ok, Sem.run_pure]
theorem hhA {tb : TypeId} {a b : Bool} (hg : b5A l E g = some true) (ht : P.underlying tb = some .bool) (hx : opE E x = .val (.bool a)) (hy : opE E y = .val (.bool b))
    (h : LA P l wb K rest ((d, .val (.bool (a == b))) :: E)) : LA P l wb K (⟨some d, .binOp .eql tb x y t', ty, pos, after, g⟩ :: rest) E :=
  b0A _ hg (bcA fun ac w he hh => by
    have e1 := hh x (by simp [Op.operands]); have e2 := hh y (by simp [Op.operands])
    rw [hx] at e1; rw [hy] at e2; simp only [AD.ok] at e1 e2
    have : (binOp .eql tb (.bool a) (.bool b)).run P w = .ok (.bool (a == b)) w := u2A ht
    simp only [execOp, e1, e2, Sem.run_bind, eqGuard_at_bool, Sem.run_pure, Result.andThen_ok, this]) h
theorem myA {tb : TypeId} {a b : Bool} (hg : b5A l E g = some true) (ht : P.underlying tb = some .bool) (hx : opE E x = .val (.bool a)) (hy : opE E y = .val (.bool b)) (hab : a = b)
    (h : LA P l wb K rest ((d, .val (.bool true)) :: E)) : LA P l wb K (⟨some d, .binOp .eql tb x y t', ty, pos, after, g⟩ :: rest) E := hhA hg ht hx hy (by rw [show (a == b) = true by simp [hab]]; exact h)
theorem mzA {tb : TypeId} {a b : Bool} (hg : b5A l E g = some true) (ht : P.underlying tb = some .bool) (hx : opE E x = .val (.bool a)) (hy : opE E y = .val (.bool b)) (hab : a ≠ b)
    (h : LA P l wb K rest ((d, .val (.bool false)) :: E)) : LA P l wb K (⟨some d, .binOp .eql tb x y t', ty, pos, after, g⟩ :: rest) E := hhA hg ht hx hy (by rw [show (a == b) = false by simp [hab]]; exact h)
theorem hgA {tb : TypeId} {a b : Bool} (hg : b5A l E g = some true) (ht : P.underlying tb = some .bool) (hx : opE E x = .val (.bool a)) (hy : opE E y = .val (.bool b))
    (h : LA P l wb K rest ((d, .val (.bool (!(a == b)))) :: E)) : LA P l wb K (⟨some d, .binOp .neq tb x y t', ty, pos, after, g⟩ :: rest) E :=
  b0A _ hg (bcA fun ac w he hh => by
    have e1 := hh x (by simp [Op.operands]); have e2 := hh y (by simp [Op.operands])
    rw [hx] at e1; rw [hy] at e2; simp only [AD.ok] at e1 e2
    have : (binOp .neq tb (.bool a) (.bool b)).run P w = .ok (.bool (!(a == b))) w := u0A ht
    simp only [execOp, e1, e2, Sem.run_bind, eqGuard_at_bool, Sem.run_pure, Result.andThen_ok, this]) h
theorem pxA {op : BinOp} {a b : Int} (hg : b5A l E g = some true) (hx : opE E x = .val (.int k a)) (hy : opE E y = .val (.int k b)) (hc : isAr op = true) (hf : fits k (arI op a b))
    (h : LA P l wb K rest ((d, .val (.int k (arI op a b))) :: E)) : LA P l wb K (⟨some d, .binOp op t x y t', ty, pos, after, g⟩ :: rest) E :=
  miA hg hx hy hc (by rw [ddA k _ hf]; exact h)
theorem mwA {tb : TypeId} {a b : Bool} (hg : b5A l E g = some true) (ht : P.underlying tb = some .bool) (hx : opE E x = .val (.bool a)) (hy : opE E y = .val (.bool b)) (hab : a ≠ b)
    (h : LA P l wb K rest ((d, .val (.bool true)) :: E)) : LA P l wb K (⟨some d, .binOp .neq tb x y t', ty, pos, after, g⟩ :: rest) E := hgA hg ht hx hy (by rw [show (!(a == b)) = true by simp [hab]]; exact h)
theorem mxA {tb : TypeId} {a b : Bool} (hg : b5A l E g = some true) (ht : P.underlying tb = some .bool) (hx : opE E x = .val (.bool a)) (hy : opE E y = .val (.bool b)) (hab : a = b)
    (h : LA P l wb K rest ((d, .val (.bool false)) :: E)) : LA P l wb K (⟨some d, .binOp .neq tb x y t', ty, pos, after, g⟩ :: rest) E := hgA hg ht hx hy (by rw [show (!(a == b)) = false by simp [hab]]; exact h)
theorem ayA {a b : Int} (hg : b5A l E g = some true) (hx : opE E x = .val (.int k a)) (hy : opE E y = .val (.int k b)) (hf : fits k (a + b))
    (h : LA P l wb K rest ((d, .val (.int k (a + b))) :: E)) : LA P l wb K (⟨some d, .binOp .add t x y t', ty, pos, after, g⟩ :: rest) E := pxA hg hx hy rfl hf h
theorem a9A {a b : Int} (hg : b5A l E g = some true) (hx : opE E x = .val (.int k a)) (hy : opE E y = .val (.int k b)) (hf : fits k (a - b))
    (h : LA P l wb K rest ((d, .val (.int k (a - b))) :: E)) : LA P l wb K (⟨some d, .binOp .sub t x y t', ty, pos, after, g⟩ :: rest) E := pxA hg hx hy rfl hf h
theorem vyA {a b : Int} (hg : b5A l E g = some true) (hx : opE E x = .val (.int k a)) (hy : opE E y = .val (.int k b)) (hf : fits k (a * b))
    (h : LA P l wb K rest ((d, .val (.int k (a * b))) :: E)) : LA P l wb K (⟨some d, .binOp .mul t x y t', ty, pos, after, g⟩ :: rest) E := pxA hg hx hy rfl hf h
theorem l2A {a b : Int} (hg : b5A l E g = some true) (hx : opE E x = .val (.int k a)) (hy : opE E y = .val (.int k b))
    (h : LA P l wb K rest ((d, .val (.int k (k.wrap (a + b)))) :: E)) : LA P l wb K (⟨some d, .binOp .add t x y t', ty, pos, after, g⟩ :: rest) E := miA hg hx hy rfl h
theorem vtA {a b : Int} (hg : b5A l E g = some true) (hx : opE E x = .val (.int k a)) (hy : opE E y = .val (.int k b))
    (h : LA P l wb K rest ((d, .val (.int k (k.wrap (a - b)))) :: E)) : LA P l wb K (⟨some d, .binOp .sub t x y t', ty, pos, after, g⟩ :: rest) E := miA hg hx hy rfl h
theorem prA {a b : Int} (hg : b5A l E g = some true) (hx : opE E x = .val (.int k a)) (hy : opE E y = .val (.int k b))
    (h : LA P l wb K rest ((d, .val (.int k (k.wrap (a * b)))) :: E)) : LA P l wb K (⟨some d, .binOp .mul t x y t', ty, pos, after, g⟩ :: rest) E := miA hg hx hy rfl h
theorem bmA {n : Nat} (hg : b5A l E g = some true) (e : TypeId) (ht : P.underlying t = some (.slice e)) {r : AD} {s : Nat} {cs : List Value} (hr : opE E x = r) (hx : HasC wb r n s cs)
    (h : LA P l wb K rest ((d, .val (.int .i64 n)) :: E)) : LA P l wb K (⟨some d, .call ⟨.builtin .len, #[x], #[t]⟩, ty, pos, after, g⟩ :: rest) E :=
  b0A _ hg (bcA fun a w he hh => by
    obtain ⟨u, c, hv⟩ := (hx _ _ he (hr ▸ hh x (by simp [Op.operands, Call.operands]))).isSlice
    have : (Builtin.len_ #[t] ty #[.slice u n c]).run P w = .ok (goInt n) w := by simp [Builtin.len_, run_underlying ht]
    simp only [execOp, resolve, Sem.run_bind, Sem.run_pure, Result.andThen_ok, List.map_toArray, List.map_cons, List.map_nil, hv, invoke, builtin, this]
    rfl) h
theorem cnA {n s : Nat} {cs : List Value} {i : Int} (hg : b5A l E g = some true) (e : TypeId) (ht : P.underlying t = some (.slice e)) (hs : ∀ w, (sizeOf e).run P w = .ok s w)
    {r : AD} (hr : opE E x = r) (hx : HasC wb r n s cs) (hi : opE E y = .val (.int k i)) (j : Nat) (hj : i = j) (hn : j < n)
    (h : LA P l wb K rest ((d, .pred (guA ((cs.drop (j * s)).take s))) :: E)) : LA P l wb K (⟨some d, .indexAddr t x y, ty, pos, after, g⟩ :: rest) E := by
  refine b0A (.pred (guA ((cs.drop (j * s)).take s))) hg (fun a w he hh => ?_) h
  obtain ⟨h0, ad, cap, hv, hnc, hm, -, hcs⟩ := hx _ _ he (hr ▸ hh x (by simp [Op.operands]))
  have h2 := hh y (by simp [Op.operands])
  rw [hi] at h2; simp only [AD.ok] at h2
  subst hj
  rcases hcs with rfl | ⟨b, off, rfl, hc⟩
  · omega
  · have hrun : (Instr.indexAt t (.slice (some ⟨b, off, none⟩) n cap) (.int k (j : Int))).run P w = .ok (.pointer (some (Addr.add ⟨b, off, none⟩ (j * s)))) w := by
      simp [Instr.indexAt, run_underlying ht, asIntOf, hs, hn]
    simp only [execOp, hv, h2, Sem.run_bind, hrun, Result.andThen_ok, Sem.run_pure]
    refine ⟨Ext.refl _, _, rfl, fun i c hc' => ?_⟩
    rw [List.getElem?_take] at hc'
    split at hc'
    · rw [List.getElem?_drop] at hc'
      have := hc _ _ hc'
      rw [Addr.add_lit, Addr.add_lit, Nat.add_assoc]; exact this
    · cases hc'
theorem glA {k' : IntKind} {xs : List Int} {i : Int} (hg : b5A l E g = some true) (e : TypeId) (ht : P.underlying t = some (.slice e)) (hs : ∀ w, (sizeOf e).run P w = .ok 1 w)
    {r : AD} (hr : opE E x = r) (hx : HasI wb r k' xs) (hi : opE E y = .val (.int k i)) (h0 : 0 ≤ i) (hn : i < xs.length)
    (h : LA P l wb K rest ((d, .pred (guA [.int k' (xs.getD i.toNat 0)])) :: E)) : LA P l wb K (⟨some d, .indexAddr t x y, ty, pos, after, g⟩ :: rest) E := by
  refine cnA hg e ht hs hr hx.c hi i.toNat (by omega) (by omega) ?_
  have : ((xs.map (Value.int k')).drop (i.toNat * 1)).take 1 = [.int k' (xs.getD i.toNat 0)] := by
    rw [Nat.mul_one, List.drop_eq_getElem_cons (by simp; omega)]
    simp [List.getD, List.getElem?_eq_getElem (by omega : i.toNat < xs.length)]
  rw [this]; exact h
theorem asA {k' : IntKind} {xs : List Int} {j : Nat} (hg : b5A l E g = some true) (e : TypeId) (ht : P.underlying t = some (.slice e)) (hs : ∀ w, (sizeOf e).run P w = .ok 1 w)
    {r : AD} (hr : opE E x = r) (hx : HasI wb r k' xs) (hi : opE E y = .val (.int k ((j : Nat) : Int))) (hn : j < xs.length)
    (h : LA P l wb K rest ((d, .pred (guA [.int k' (xs.getD j 0)])) :: E)) : LA P l wb K (⟨some d, .indexAddr t x y, ty, pos, after, g⟩ :: rest) E :=
  glA hg e ht hs hr hx hi (by omega) (by omega) h
theorem dzA {c : Value} (hg : b5A l E g = some true) (ht : ∀ w, (isAgg t).run P w = .ok false w) (hx : opE E x = .pred (guA [c])) (h : LA P l wb K rest ((d, .val c) :: E)) :
    LA P l wb K (⟨some d, .load t x, ty, pos, after, g⟩ :: rest) E :=
  b0A _ hg (bcA fun a w he hh => by
    have h1 := hh x (by simp [Op.operands])
    rw [hx] at h1
    obtain ⟨p, hv, hc⟩ := h1
    have hc := hc 0 c rfl
    have e0 : p.add 0 = p := Addr.add_zero' p
    rw [e0] at hc
    simp only [execOp, hv, Instr.loadAt, Instr.sureAddr, loadVar, Sem.run_bind, Sem.run_pure, Result.andThen_ok, ht, Bool.false_eq_true, if_false, run_load, hc]) h
theorem j4A {c : Value} {p : Addr} (hg : b5A l E g = some true) (ht : ∀ w, (isAgg t).run P w = .ok false w) (hx : opE E x = .val (.pointer (some p))) (hc : wb.cell? p = some c) (h : LA P l wb K rest ((d, .val c) :: E)) :
    LA P l wb K (⟨some d, .load t x, ty, pos, after, g⟩ :: rest) E :=
  b0A _ hg (bcA fun a w he hh => by
    have h1 := hh x (by simp [Op.operands])
    rw [hx] at h1; simp only [AD.ok] at h1
    have hc := he.cell hc
    simp only [execOp, h1, Instr.loadAt, Instr.sureAddr, loadVar, Sem.run_bind, Sem.run_pure, Result.andThen_ok, ht, Bool.false_eq_true, if_false, run_load, hc]) h
def Fc (P : Program) (f : FuncId) (args : Array Value) (w : World) (R : Ending → World → Prop) : Prop :=
  (∀ (args : Array Value) (w : World), (callFunc f args).run P w = .ok (.enter f args) w) ∧ Calls P f args w R
theorem i9A {f : FuncId} {fn : Func} {c : Code} (hf : P.funcs[f]? = some fn) (hb : fn.body = some c) (hn : (fn.name == "runtime.NumGoroutine") = false) (args : Array Value) (w : World) :
    (callFunc f args).run P w = .ok (.enter f args) w := by
  unfold callFunc
  simp only [Sem.run_bind, run_program, Result.andThen_ok, hf, hn, hb, Option.isNone_some, Bool.false_eq_true, if_false]
  rfl
theorem Fc.of {f : FuncId} {fn : Func} {c : Code} {args : List Value} {w : World} {R : Ending → World → Prop} (hf : P.funcs[f]? = some fn) (hb : fn.body = some c) (hname : (fn.name == "runtime.NumGoroutine") = false) (hn : fn.ntmps = N) (hle : args.length ≤ N)
    (h : CX P N w c (jyA args 0) (bodyPost P fn R)) : Fc P f args.toArray w R := ⟨i9A hf hb hname, rrA hf hb hn hle h⟩
theorem Fc.mono {f : FuncId} {args : Array Value} {w : World} {R R' : Ending → World → Prop} (h : Fc P f args w R) (hr : ∀ e w', R e w' → R' e w') : Fc P f args w R' := ⟨h.1, h.2.mono hr⟩
theorem c2A {f : FuncId} {args : Array Operand} {ats : Array TypeId} {w : World} {ρ : Operand → Value} {fv : Operand} (hfv : ρ fv = .func (.func f) #[] #[]) (hf : (callFunc f (args.map ρ)).run P w = .ok (.enter f (args.map ρ)) w) :
    (execOp ρ ⟨some d, .call ⟨.value fv, args, ats⟩, ty, pos, after, g⟩).run P w = .ok (.enter f (args.map ρ)) w := by
  simp only [execOp, resolve, Deferred.ofValue, hfv, Sem.run_bind, Sem.run_pure, Result.andThen_ok, invoke]
  simpa using hf
theorem dcA {f : FuncId} {ats : Array TypeId} {fv : Operand} (hg : b5A l E g = some true) (hfv : opE E fv = .val (.func (.func f) #[] #[])) (r : AD) (hc : ∀ w, Ext wb w → Fc P f #[] w (Ret w r))
    (h : LA P l wb K rest ((d, r) :: E)) : LA P l wb K (⟨some d, .call ⟨.value fv, #[], ats⟩, ty, pos, after, g⟩ :: rest) E :=
  b0A r hg (fun a w he hh => by
    have h1 := hh fv (by simp [Op.operands, Call.operands])
    rw [hfv] at h1
    rw [c2A h1 ((hc w he).1 _ _)]
    refine ⟨rfl, ?_⟩; simp only [List.map_toArray, List.map_nil]; exact (hc w he).2) h
theorem a1A {f : FuncId} {ats : Array TypeId} {fv : Operand} {r1 : AD} (hg : b5A l E g = some true) (hfv : opE E fv = .val (.func (.func f) #[] #[])) (hu1 : opE E x = r1) (r : AD)
    (hc : ∀ u1 w, Ext wb w → r1.ok u1 w → Fc P f #[u1] w (Ret w r))
    (h : LA P l wb K rest ((d, r) :: E)) : LA P l wb K (⟨some d, .call ⟨.value fv, #[x], ats⟩, ty, pos, after, g⟩ :: rest) E :=
  b0A r hg (fun a w he hh => by
    have h1 := hh fv (by simp [Op.operands, Call.operands])
    rw [hfv] at h1
    have eu1 := hh x (by simp [Op.operands, Call.operands])
    rw [hu1] at eu1
    have := hc _ w he eu1
    rw [c2A h1 (this.1 _ _)]
    refine ⟨rfl, ?_⟩; simp only [List.map_toArray, List.map_cons, List.map_nil]; exact this.2) h
theorem a3A {f : FuncId} {ats : Array TypeId} {fv : Operand} {r1 r2 : AD} (hg : b5A l E g = some true) (hfv : opE E fv = .val (.func (.func f) #[] #[])) (hu1 : opE E x = r1) (hu2 : opE E y = r2) (r : AD)
    (hc : ∀ u1 u2 w, Ext wb w → r1.ok u1 w → r2.ok u2 w → Fc P f #[u1, u2] w (Ret w r))
    (h : LA P l wb K rest ((d, r) :: E)) : LA P l wb K (⟨some d, .call ⟨.value fv, #[x, y], ats⟩, ty, pos, after, g⟩ :: rest) E :=
  b0A r hg (fun a w he hh => by
    have h1 := hh fv (by simp [Op.operands, Call.operands])
    rw [hfv] at h1
    have eu1 := hh x (by simp [Op.operands, Call.operands])
    rw [hu1] at eu1
    have eu2 := hh y (by simp [Op.operands, Call.operands])
    rw [hu2] at eu2
    have := hc _ _ w he eu1 eu2
    rw [c2A h1 (this.1 _ _)]
    refine ⟨rfl, ?_⟩; simp only [List.map_toArray, List.map_cons, List.map_nil]; exact this.2) h
theorem bhA {f : FuncId} {ats : Array TypeId} {fv : Operand} {r1 r2 r3 : AD} (hg : b5A l E g = some true) (hfv : opE E fv = .val (.func (.func f) #[] #[])) (hu1 : opE E x = r1) (hu2 : opE E y = r2) (hu3 : opE E z = r3) (r : AD)
    (hc : ∀ u1 u2 u3 w, Ext wb w → r1.ok u1 w → r2.ok u2 w → r3.ok u3 w → Fc P f #[u1, u2, u3] w (Ret w r))
    (h : LA P l wb K rest ((d, r) :: E)) : LA P l wb K (⟨some d, .call ⟨.value fv, #[x, y, z], ats⟩, ty, pos, after, g⟩ :: rest) E :=
  b0A r hg (fun a w he hh => by
    have h1 := hh fv (by simp [Op.operands, Call.operands])
    rw [hfv] at h1
    have eu1 := hh x (by simp [Op.operands, Call.operands])
    rw [hu1] at eu1
    have eu2 := hh y (by simp [Op.operands, Call.operands])
    rw [hu2] at eu2
    have eu3 := hh z (by simp [Op.operands, Call.operands])
    rw [hu3] at eu3
    have := hc _ _ _ w he eu1 eu2 eu3
    rw [c2A h1 (this.1 _ _)]
    refine ⟨rfl, ?_⟩; simp only [List.map_toArray, List.map_cons, List.map_nil]; exact this.2) h
theorem agA {f : FuncId} {args : Array Value} {w : World} {b b' : Value} (hb : b = b') (h : Fc P f args w (Ret w (.val b))) : Fc P f args w (Ret w (.val b')) := hb ▸ h
theorem qmA {f : FuncId} {args : Array Value} {w : World} {b : Bool} (h : Fc P f args w (Ret w (.val (.bool b)))) (hb : b = true) : Fc P f args w (Ret w (.val (.bool true))) := hb ▸ h
theorem Fc.run {f : FuncId} {args : Array Value} {w : World} {R : Ending → World → Prop} (h : Fc P f args w R) (args' : Array Value) (w' : World) : (callFunc f args').run P w' = .ok (.enter f args') w' := h.1 _ _
theorem Fc.calls {f : FuncId} {args : Array Value} {w : World} {R : Ending → World → Prop} (h : Fc P f args w R) : Calls P f args w R := h.2
end
attribute [irreducible] Fc
end Go.LA
end
section
namespace Go.LA
open Go.RowKit
structure El (P : Program) (t e : TypeId) (z : Value) (s b : Nat) : Prop where
  ht : P.underlying t = some (.slice e)
  info : (P.info? e).map (fun i => (i.zero, i.size, i.bytes)) = some (some z, s, b)
  zs : z.cells.size = s
  pos : 0 < s
theorem El.parts {P : Program} {t e : TypeId} {z : Value} {s b : Nat} (h : El P t e z s b) : ∃ i, P.info? e = some i ∧ i.zero = some z ∧ i.size = s ∧ i.bytes = b := by
  have h1 := h.info
  cases hi : P.info? e with
  | none => rw [hi] at h1; cases h1
  | some i =>
    rw [hi] at h1
    simp only [Option.map_some, Option.some.injEq, Prod.mk.injEq] at h1
    exact ⟨i, rfl, h1.1, h1.2.1, h1.2.2⟩
theorem El.sizeOf {P : Program} {t e : TypeId} {z : Value} {s b : Nat} (h : El P t e z s b) (w : World) : (sizeOf e).run P w = .ok s w := by
  obtain ⟨i, h1, h2, h3, h4⟩ := h.parts
  simp [Go.sizeOf, typeInfo, h1, h3]
theorem El.zero {P : Program} {t e : TypeId} {z : Value} {s b : Nat} (h : El P t e z s b) (w : World) : (zeroValue e).run P w = .ok z w := by
  obtain ⟨i, h1, h2, h3, h4⟩ := h.parts
  simp [zeroValue, typeInfo, h1, h2]
def Own (base : Nat) (e s : Nat) (w : World) (v : Value) (n : Nat) (cs : List Value) : Prop := w.ownsRow base e s v n cs
theorem Own.nil {base e s : Nat} {w : World} : Own base e s w (.slice none 0 0) 0 [] := World.ownsRow_nil w base e s
theorem Own.slC {base e s : Nat} {w : World} {v : Value} {n : Nat} {cs : List Value} (h : Own base e s w v n cs) : SlC w v n s cs := by
  refine ⟨h.1, ?_⟩
  rcases h.2 with ⟨rfl, rfl⟩ | ⟨g, cap, cur, rfl, hb, hg, hnc, hm, hsz, htake⟩
  · exact ⟨none, 0, rfl, Nat.le_refl _, Nat.zero_le _, fun _ => rfl, .inl rfl⟩
  · refine ⟨_, cap, rfl, hnc, hm, (fun h => by cases h), .inr ⟨g, 0, rfl, fun j c hj => ?_⟩⟩
    have := World.ownsRow.cells (w := w) (v := .slice (some ⟨g, 0, none⟩) n cap) h (g := g) rfl j c hj
    rwa [Addr.add_lit] at this
theorem Own.ext {base e s : Nat} {w w' : World} {v : Value} {n : Nat} {cs : List Value} (h : Own base e s w v n cs) (x : Ext w w') : Own base e s w' v n cs := by
  refine ⟨h.1, ?_⟩
  rcases h.2 with hn | ⟨g, cap, cur, hv, hb, hg, r⟩
  · exact .inl hn
  · exact .inr ⟨g, cap, cur, hv, hb, x.block hg, r⟩
theorem Own.base {base base' e s : Nat} {w : World} {v : Value} {n : Nat} {cs : List Value} (h : Own base e s w v n cs) (hb : base' ≤ base) : Own base' e s w v n cs := by
  refine ⟨h.1, ?_⟩
  rcases h.2 with hn | ⟨g, cap, cur, hv, hb', r⟩
  · exact .inl hn
  · exact .inr ⟨g, cap, cur, hv, Nat.le_trans hb hb', r⟩
theorem Own.lt {base e s : Nat} {w : World} {v : Value} {n : Nat} {cs : List Value} (h : Own base e s w v n cs) : ∀ k, v.ownBlock = some k → base ≤ k ∧ k < w.heap.size := World.ownsRow.lt h
theorem Own.kept {base e s : Nat} {w w' : World} {v : Value} {n : Nat} {cs : List Value} {row : Option Nat} (h : Own base e s w v n cs) (hg : w.grownBy w' row) (hne : v.ownBlock = none ∨ v.ownBlock ≠ row) : Own base e s w' v n cs := World.ownsRow.kept h hg hne
theorem Ext.grown {w0 w w' : World} {row : Option Nat} (h : Ext w0 w) (hg : w.grownBy w' row) (hr : ∀ k, row = some k → w0.heap.size ≤ k) : Ext w0 w' := Below.grown h hg h.size hr
def hpA (base e s : Nat) (n : Nat) (cs : List Value) : AV := ⟨fun v w => Own base e s w v n cs, fun _ _ _ x h => h.ext x⟩
def OwnI (base e : Nat) (k : IntKind) (w : World) (v : Value) (xs : List Int) : Prop := Own base e 1 w v xs.length (xs.map (Value.int k))
theorem OwnI.slI {base e : Nat} {k : IntKind} {w : World} {v : Value} {xs : List Int} (h : OwnI base e k w v xs) : SlI k w v xs := Own.slC h
theorem OwnI.ext {base e : Nat} {k : IntKind} {w w' : World} {v : Value} {xs : List Int} (h : OwnI base e k w v xs) (x : Ext w w') : OwnI base e k w' v xs := Own.ext h x
theorem OwnI.nil {base e : Nat} {k : IntKind} {w : World} : OwnI base e k w (.slice none 0 0) [] := Own.nil
def bjA (base e : Nat) (k : IntKind) (xs : List Int) : AV := ⟨fun v w => OwnI base e k w v xs, fun _ _ _ x h => h.ext x⟩
theorem HasI.own {wb : World} {base e : Nat} {k : IntKind} {xs : List Int} : HasI wb (.pred (bjA base e k xs)) k xs := fun _ _ _ hv => OwnI.slI hv
theorem HasC.own {wb : World} {base e s n : Nat} {cs : List Value} : HasC wb (.pred (hpA base e s n cs)) n s cs := fun _ _ _ hv => Own.slC hv
theorem HasI.ownV {wb : World} {base e : Nat} {k : IntKind} {xs : List Int} {v : Value} (h : OwnI base e k wb v xs) : HasI wb (.val v) k xs := HasI.val h.slI
theorem HasC.ownV {wb : World} {base e s n : Nat} {cs : List Value} {v : Value} (h : Own base e s wb v n cs) : HasC wb (.val v) n s cs := HasC.val h.slC
theorem OwnI.cells {base e : Nat} {k : IntKind} {w : World} {v : Value} {xs : List Int} (h : OwnI base e k w v xs) : v.cells = #[v] := by
  obtain ⟨a, c, rfl⟩ := h.slI.isSlice; rfl
theorem OwnI.one {base e : Nat} {k : IntKind} {w : World} {v : Value} {xs : List Int} (h : OwnI base e k w v xs) : v.oneCell' = true := by
  obtain ⟨a, c, rfl⟩ := h.slI.isSlice; rfl
theorem aaA {w : World} {base base' e : Nat} {k : IntKind} {xs : List Int} (hb : base' ≤ base) (en : Ending) (w' : World) (h : Ret w (.pred (bjA base e k xs)) en w') : Ret w (.pred (bjA base' e k xs)) en w' := by
  obtain ⟨v, h1, h2, h3⟩ := h
  exact ⟨v, h1, h2, Own.base h3 hb⟩
def dyA (v : Value) (l h s : Nat) : Value := match v with
  | .slice a _ cap => sliced a l h cap s
  | _ => v
theorem SlC.sub {w : World} {v : Value} {n s : Nat} {cs : List Value} (hs : SlC w v n s cs) {l h : Nat} (h1 : l ≤ h) (h2 : h ≤ n) : SlC w (dyA v l h s) (h - l) s ((cs.take (h * s)).drop (l * s)) := by
  obtain ⟨h0, a, cap, rfl, hc, hm, hn, hcs⟩ := hs
  have hh : h * s ≤ n * s := Nat.mul_le_mul_right _ h2
  refine ⟨by rw [List.length_drop, List.length_take, h0, Nat.min_eq_left hh, Nat.sub_mul], ?_⟩
  simp only [dyA, sliced]
  refine ⟨_, cap - l, rfl, by omega, by omega, fun ha => ?_, ?_⟩
  · split at ha
    · omega
    · cases a with
      | none => have := hn rfl; omega
      | some a => simp at ha
  · by_cases hz : h - l = 0
    · exact .inl hz
    · rcases hcs with rfl | ⟨b, off, rfl, hc'⟩
      · omega
      · refine .inr ⟨b, off + l * s, ?_, fun j c hj => ?_⟩
        · rw [if_neg (by omega)]; simp [Addr.add_lit]
        · rw [List.getElem?_drop, List.getElem?_take] at hj
          split at hj
          · have := hc' _ _ hj; rw [Nat.add_assoc]; exact this
          · cases hj
theorem SlI.sub {k : IntKind} {w : World} {v : Value} {xs : List Int} (hs : SlI k w v xs) {l h : Nat} (h1 : l ≤ h) (h2 : h ≤ xs.length) : SlI k w (dyA v l h 1) ((xs.take h).drop l) := by
  have := SlC.sub hs h1 h2
  unfold SlI
  have e : ((xs.take h).drop l).length = h - l := by simp; omega
  rw [e]
  simpa [List.map_take, List.map_drop] using this
theorem SlI.drop {k : IntKind} {w : World} {v : Value} {xs : List Int} (hs : SlI k w v xs) {l : Nat} (h1 : l ≤ xs.length) : SlI k w (dyA v l xs.length 1) (xs.drop l) := by
  have := SlI.sub hs h1 (Nat.le_refl _)
  rwa [List.take_length] at this
def vals : Env → Env
  | [] => []
  | (d, r) :: E => (d, match r with | .val v => .val v | _ => .any) :: vals E
theorem ndA (E : Env) (t : Nat) : lkE (vals E) t = (match lkE E t with | .val v => .val v | _ => .any) := by
  induction E with
  | nil => rfl
  | cons p E ih =>
    obtain ⟨d, r⟩ := p
    simp only [vals, btA]
    split
    · rfl
    · exact ih
section
variable {P : Program} {l : List Oper} {N : Nat} {wb : World} {K : List Oper → Env → Prop} {rest : List Oper} {E : Env} {Q : Exit → Act → World → Prop}
variable {d : Tmp} {ty t t' : TypeId} {pos : String} {after : Array Edge} {g : Option (Nat × Bool)} {x y z : Operand} {k k' : IntKind}
theorem St.vals {a : Act} {w w' : World} (s : St N wb E a w) : St N w' (LA.vals E) a w' := by
  refine ⟨s.sz, s.df, Ext.refl _, fun t => ?_⟩
  rw [ndA]
  have := s.sat t
  split
  · rename_i v hv; rw [hv] at this; exact this
  · trivial
theorem k8A {n s : Nat} {cs : List Value} {v : Value} {w : World} {e : TypeId} (ht : P.underlying t = some (.slice e)) (hs : ∀ w, (sizeOf e).run P w = .ok s w) (h : SlC w v n s cs) (lo hi : Option Value) (l h' : Nat)
    (hb : ∀ cap, n ≤ cap → (Instr.sliceBounds true n cap lo hi none).run P w = .ok (l, h', cap) w) : (Instr.sliceAt t v lo hi none).run P w = .ok (dyA v l h' s) w := by
  have fin : ∀ (a : Option Addr) (cap : Nat), n ≤ cap → (Instr.sliceAt t (.slice a n cap) lo hi none).run P w = .ok (dyA (.slice a n cap) l h' s) w := fun a cap hc => by
    simp only [Instr.sliceAt, Instr.slice, Sem.run_bind, run_underlying ht, Result.andThen_ok, hb cap hc, hs, dyA]
    simp [sliced]
  obtain ⟨h0, a, cap, rfl, hc, -⟩ := h
  exact fin _ _ hc
theorem rtA {n cap l : Nat} {w : World} (h1 : l ≤ n) : (Instr.sliceBounds true n cap (some (.int k (l : Int))) none none).run P w = .ok (l, n, cap) w := by
  simp only [Instr.sliceBounds, Sem.run_bind, Sem.run_pure, Result.andThen_ok]
  rw [run_sliceBound w k l n _ (by omega) (by omega)]
  simp
theorem m9A {n cap h : Nat} {w : World} (h1 : h ≤ cap) : (Instr.sliceBounds true n cap none (some (.int k (h : Int))) none).run P w = .ok (0, h, cap) w := by
  simp only [Instr.sliceBounds, Sem.run_bind, Sem.run_pure, Result.andThen_ok]
  rw [run_sliceBound w k h cap _ (by omega) (by omega)]
  simp
theorem p2A {n cap l h : Nat} {w : World} (h0 : l ≤ h) (h1 : h ≤ cap) : (Instr.sliceBounds true n cap (some (.int k (l : Int))) (some (.int k' (h : Int))) none).run P w = .ok (l, h, cap) w := by
  simp only [Instr.sliceBounds, Sem.run_bind, Sem.run_pure, Result.andThen_ok]
  rw [run_sliceBound w k' h cap _ (by omega) (by omega)]
  simp only [Result.andThen_ok, Int.toNat_natCast]
  rw [run_sliceBound w k l h _ (by omega) (by omega)]
  simp
theorem cdA {n s : Nat} {cs : List Value} {v : Value} {i : Int} (hg : b5A l E g = some true) (e : TypeId) (ht : P.underlying t = some (.slice e))
    (hx : opE E x = .val v) (hv : HasC wb (.val v) n s cs) (hi : opE E y = .val (.int k i)) (h0 : 0 ≤ i) (hn : i ≤ n) (hs : ∀ w, (sizeOf e).run P w = .ok s w) (h : LA P l wb K rest ((d, .val (dyA v i.toNat n s)) :: E)) :
    LA P l wb K (⟨some d, .slice t x (some y) none none, ty, pos, after, g⟩ :: rest) E :=
  b0A _ hg (bcA fun a w he hh => by
    have h1 := hh x (by simp [Op.operands])
    have h2 := hh y (by simp [Op.operands])
    rw [hx] at h1; rw [hi] at h2; simp only [AD.ok] at h1 h2
    obtain ⟨j, rfl⟩ := Int.eq_ofNat_of_zero_le h0
    simp only [execOp, Option.map_some, Option.map_none, h1, h2, Sem.run_bind, k8A ht hs (hv v w he rfl) _ _ j n (fun cap hc => rtA (by omega)), Result.andThen_ok, Sem.run_pure, Int.toNat_natCast]) h
theorem exA {n s : Nat} {cs : List Value} {v : Value} {i : Int} (hg : b5A l E g = some true) (e : TypeId) (ht : P.underlying t = some (.slice e))
    (hx : opE E x = .val v) (hv : HasC wb (.val v) n s cs) (hi : opE E y = .val (.int k i)) (h0 : 0 ≤ i) (hn : i ≤ n) (hs : ∀ w, (sizeOf e).run P w = .ok s w) (h : LA P l wb K rest ((d, .val (dyA v 0 i.toNat s)) :: E)) :
    LA P l wb K (⟨some d, .slice t x none (some y) none, ty, pos, after, g⟩ :: rest) E :=
  b0A _ hg (bcA fun a w he hh => by
    have h1 := hh x (by simp [Op.operands])
    have h2 := hh y (by simp [Op.operands])
    rw [hx] at h1; rw [hi] at h2; simp only [AD.ok] at h1 h2
    obtain ⟨j, rfl⟩ := Int.eq_ofNat_of_zero_le h0
    simp only [execOp, Option.map_some, Option.map_none, h1, h2, Sem.run_bind, k8A ht hs (hv v w he rfl) _ _ 0 j (fun cap hc => m9A (by omega)), Result.andThen_ok, Sem.run_pure, Int.toNat_natCast]) h
theorem mvA {n s : Nat} {cs : List Value} {v : Value} {i i' : Int} (hg : b5A l E g = some true) (e : TypeId) (ht : P.underlying t = some (.slice e))
    (hx : opE E x = .val v) (hv : HasC wb (.val v) n s cs) (hi : opE E y = .val (.int k i)) (hi' : opE E z = .val (.int k' i')) (h0 : 0 ≤ i) (h1 : i ≤ i') (hn : i' ≤ n) (hs : ∀ w, (sizeOf e).run P w = .ok s w) (h : LA P l wb K rest ((d, .val (dyA v i.toNat i'.toNat s)) :: E)) :
    LA P l wb K (⟨some d, .slice t x (some y) (some z) none, ty, pos, after, g⟩ :: rest) E :=
  b0A _ hg (bcA fun a w he hh => by
    have h3 := hh x (by simp [Op.operands])
    have h4 := hh y (by simp [Op.operands])
    have h5 := hh z (by simp [Op.operands])
    rw [hx] at h3; rw [hi] at h4; rw [hi'] at h5; simp only [AD.ok] at h3 h4 h5
    obtain ⟨j, rfl⟩ := Int.eq_ofNat_of_zero_le h0
    obtain ⟨j', rfl⟩ := Int.eq_ofNat_of_zero_le (by omega : 0 ≤ i')
    simp only [execOp, Option.map_some, Option.map_none, h3, h4, h5, Sem.run_bind, k8A ht hs (hv v w he rfl) _ _ j j' (fun cap hc => p2A (by omega) (by omega)), Result.andThen_ok, Sem.run_pure, Int.toNat_natCast]) h
theorem m1A {c : Value} {z : Array Value} (hc : c.cells = #[c]) (_hz : z.size = 1) : Instr.fill (fun i => some (i * 1, 1)) ((Array.range (1 * 1)).map (fun j => z[j % z.size]!)) [(0, c)] = some #[c] := by
  have e : Array.range (1 * 1) = #[0] := rfl
  rw [e]; simp [Instr.fill, hc]
theorem poA {c z : Value} {b : Nat} {e : TypeId} (hg : b5A l E g = some true) (hel : El P t e z 1 b) (hx : opE E x = .val c) (hc : c.cells = #[c]) (h : LA P l wb K rest ((d, .pred (slC 1 1 [c])) :: E)) :
    LA P l wb K (⟨some d, .buildSlice t 1 #[(0, x)], ty, pos, after, g⟩ :: rest) E := by
  refine b0A (.pred (slC 1 1 [c])) hg (fun a w he hh => ?_) h
  have h1 := hh x (by simp [Op.operands])
  rw [hx] at h1; simp only [AD.ok] at h1
  have hrun : (Instr.buildSlice t 1 #[(0, c)]).run P w = .ok (.slice (some ⟨w.heap.size, 0, none⟩) 1 1) (w.alloc (.cells #[c] e)) := by
    simp only [Instr.buildSlice, Sem.run_bind, run_underlying hel.ht, Result.andThen_ok, hel.sizeOf, Nat.reduceMul, Nat.reducePow, gt_iff_lt, Nat.reduceLT, if_false, Sem.run_pure, Nat.reduceEqDiff, hel.zero, m1A hc hel.zs]
    rfl
  simp only [execOp, List.map_toArray, List.map_cons, List.map_nil, h1, Sem.run_bind, hrun, Result.andThen_ok, Sem.run_pure]
  refine ⟨Ext.alloc _ _, rfl, _, 1, rfl, Nat.le_refl _, by decide, (fun h => by cases h), .inr ⟨w.heap.size, 0, rfl, fun j c' hj => ?_⟩⟩
  rw [World.cell?_alloc_at _ _ _ _ rfl]
  match j, hj with
  | 0, hj => simpa using hj
theorem hmA {w : World} {base e s b n m : Nat} {v vy z : Value} {cs news : List Value} (hel : El P t e z s b) (hown : Own base e s w v n cs) (hy : SlC w vy m s news) (h1 : ∀ u ∈ news, u.oneCell' = true)
    (h63 : n + m ≤ maxLen) (hbytes : (n + m) * b ≤ 140737488355328) (hbase : base ≤ w.heap.size) :
    ∃ v' w', (Builtin.append_ #[t, t] ty #[v, vy]).run P w = .ok v' w' ∧ Own base e s w' v' (n + m) (cs ++ news) ∧ w.grownBy w' v.ownBlock := by
  obtain ⟨i, hi1, hi2, hi3, hi4⟩ := hel.parts
  obtain ⟨h0, a, cap, rfl, hc, hm, hn, hcs⟩ := hy
  cases a with
  | none =>
    obtain rfl := hn rfl
    obtain rfl : m = 0 := by omega
    have hnews : news = [] := List.eq_nil_of_length_eq_zero (by simpa using h0)
    subst hnews
    exact ⟨v, w, run_append_owned_none (P := P) w base t ty e i s hel.ht hi1 v n cs hown, by simpa using hown, ⟨rfl, rfl, rfl, Nat.le_refl _, fun _ _ _ => rfl⟩⟩
  | some a =>
    have hcells : ∀ (j : Nat) (u : Value), news[j]? = some u → w.cell? (a.add j) = some u := fun j u hj => by
      rcases hcs with rfl | ⟨b', off, ha, hc'⟩
      · have : news = [] := List.eq_nil_of_length_eq_zero (by simpa using h0)
        subst this; cases hj
      · obtain rfl := Option.some.inj ha
        rw [Addr.add_lit]; exact hc' j u hj
    obtain ⟨v', w', g1, g2, g3, g4⟩ := run_append_own (P := P) w base t ty e i z s b hel.ht hi1 hi2 hi3 hi4 hel.zs hel.pos v n cs hown a m cap news h0 hcells h1 h63 hbytes hbase
    exact ⟨v', w', g1, g2, g3⟩
theorem ctA {base e s b n m : Nat} {v z : Value} {cs news : List Value} {r : AD} (hg : g = none) (hd : d < N) (hel : El P t e z s b) (hx : opE E x = .val v) (hown : Own base e s wb v n cs) (hr : opE E y = r) (hy : HasC wb r m s news)
    (h1 : ∀ u ∈ news, u.oneCell' = true) (h63 : n + m ≤ maxLen) (hbytes : (n + m) * b ≤ 140737488355328) (hbase : base ≤ wb.heap.size)
    (h : ∀ v' w w', Ext wb w → Own base e s w' v' (n + m) (cs ++ news) → w.grownBy w' v.ownBlock → LX P N w' l Q rest ((d, .val v') :: vals E)) :
    LX P N wb l Q (⟨some d, .call ⟨.builtin .append, #[x, y], #[t, t]⟩, ty, pos, after, g⟩ :: rest) E := by
  unfold LX
  intro a w st
  have e1 := st.opd x; rw [hx] at e1; simp only [AD.ok] at e1
  have e2 := st.opd y; rw [hr] at e2
  obtain ⟨v', w', g1, g2, g3⟩ := hmA (t := t) (ty := ty) hel (hown.ext st.ext) (hy _ _ st.ext e2) h1 h63 hbytes (Nat.le_trans hbase st.ext.size)
  refine wpList_plain hg fun Kc hK => ?_
  unfold Oper.wp
  simp only [execOp, resolve, invoke, builtin, Sem.run_bind, Sem.run_pure, Result.andThen_ok, List.map_toArray, List.map_cons, List.map_nil, e1, g1, Oper.upon]
  refine hK _ _ ?_
  have h2 := h v' w w' st.ext g2 g3
  unfold LX at h2
  exact h2 _ _ ((st.vals (w' := w')).push (Ext.refl _) (dst := some d) (r := .val v') (fun d' hd' => by cases hd'; exact hd) (.inr rfl))
theorem i1A {w0 : World} {e b : Nat} {v : Value} {z c : Int} {cs : List Int} {kd : IntKind} (hg : g = none) (hd : d < N) (hel : El P t e (.int kd z) 1 b) (hx : opE E x = .val v) (hown : OwnI w0.heap.size e kd wb v cs) (hy : opE E y = .pred (slC 1 1 [.int kd c]))
    (h63 : cs.length + 1 ≤ 9223372036854775807) (hbytes : (cs.length + 1) * b ≤ 140737488355328) (hbase : Ext w0 wb)
    (h : ∀ v' w', Ext w0 w' → OwnI w0.heap.size e kd w' v' (cs ++ [c]) → LX P N w' l Q rest ((d, .val v') :: vals E)) :
    LX P N wb l Q (⟨some d, .call ⟨.builtin .append, #[x, y], #[t, t]⟩, ty, pos, after, g⟩ :: rest) E :=
  ctA hg hd hel hx hown hy HasC.pred (by simp [Value.oneCell']) (by unfold maxLen; omega) hbytes hbase.size (fun v' w w' he ho hgr => by
    refine h v' w' ((hbase.trans he).grown hgr (fun k hk => (Own.lt hown k hk).1)) ?_
    unfold OwnI
    simpa using ho)
def t4A (base : Nat) (cs : Array Value) (e : TypeId) : AV := ⟨fun v w => ∃ b, base ≤ b ∧ v = .pointer (some ⟨b, 0, none⟩) ∧ w.heap[b]? = some (.cells cs e (0, 0)),
  fun _ _ _ x ⟨b, h1, h2, h3⟩ => ⟨b, h1, h2, x.block h3⟩⟩
theorem bgA {e : TypeId} {z : Value} (hg : b5A l E g = some true) (hz : ∀ w, (zeroValue e).run P w = .ok z w) (h : LA P l wb K rest ((d, .pred (t4A wb.heap.size z.cells e)) :: E)) :
    LA P l wb K (⟨some d, .alloc e, ty, pos, after, g⟩ :: rest) E :=
  b0A _ hg (fun a w he hh => by
    have hrun : (Instr.alloc e true (.tuple #[])).run P w = .ok (.pointer (some ⟨w.heap.size, 0, none⟩)) (w.alloc (.cells z.cells e)) := by
      simp only [Instr.alloc, Sem.run_bind, hz, Result.andThen_ok]
      rfl
    simp only [execOp, Sem.run_bind, hrun, Result.andThen_ok, Sem.run_pure]
    exact ⟨Ext.alloc _ _, w.heap.size, he.size, rfl, heap_alloc_new w _⟩) h
theorem k1A {e : TypeId} {c : Value} (hg : b5A l E g = some true) (hx : opE E x = .val c) (h : LA P l wb K rest ((d, .pred (t4A wb.heap.size c.cells e)) :: E)) :
    LA P l wb K (⟨some d, .box e x, ty, pos, after, g⟩ :: rest) E :=
  b0A _ hg (fun a w he hh => by
    have h0 := hh x (by simp [Op.operands])
    rw [hx] at h0; simp only [AD.ok] at h0
    have hrun : (Instr.box e c).run P w = .ok (.pointer (some ⟨w.heap.size, 0, none⟩)) (w.alloc (.cells c.cells e)) := rfl
    simp only [execOp, h0, Sem.run_bind, hrun, Result.andThen_ok, Sem.run_pure]
    exact ⟨Ext.alloc _ _, w.heap.size, he.size, rfl, heap_alloc_new w _⟩) h
theorem Ext.setRow {w0 w : World} (h : Ext w0 w) {b : Nat} (hb : w0.heap.size ≤ b) (cs : Array Value) : Ext w0 (w.setRow b cs) :=
  Below.trans h ⟨rfl, rfl, rfl, by simp, fun k hk => setRow_other w b k cs (by omega)⟩
theorem k6A {w : World} {b : Nat} {cs : Array Value} {p : Addr} (h : p.block ≠ b) : (w.setRow b cs).cell? p = w.cell? p := World.cell?_of_block (setRow_other w b p.block cs h)
theorem Own.setRow {base e s n : Nat} {w : World} {v : Value} {cs : List Value} (h : Own base e s w v n cs) {b : Nat} (cur : Array Value) (hne : v.ownBlock ≠ some b) : Own base e s (w.setRow b cur) v n cs := by
  refine ⟨h.1, ?_⟩
  rcases h.2 with hn | ⟨g, cap, cur', rfl, hb', hg, r⟩
  · exact .inl hn
  · refine .inr ⟨g, cap, cur', rfl, hb', ?_, r⟩
    rw [setRow_other w b g cur (fun e => hne (by simp [Value.ownBlock, e]))]; exact hg
theorem SlC.setRow {w : World} {v : Value} {n s : Nat} {cs : List Value} (h : SlC w v n s cs) {b : Nat} (cur : Array Value) (hne : v.ownBlock ≠ some b) : SlC (w.setRow b cur) v n s cs := by
  obtain ⟨h0, a, cap, rfl, h2, h3, h4, h5⟩ := h
  refine ⟨h0, a, cap, rfl, h2, h3, h4, ?_⟩
  rcases h5 with h5 | ⟨g, off, rfl, h5⟩
  · exact .inl h5
  · refine .inr ⟨g, off, rfl, fun j c hj => ?_⟩
    rw [k6A (fun e => hne (by simp [Value.ownBlock]; exact e))]; exact h5 j c hj
theorem kyA {b n s o : Nat} {e : TypeId} {i : Int} (hg : b5A l E g = some true) (ht : P.underlying t = some (.array n e)) (hs : ∀ w, (sizeOf e).run P w = .ok s w) (hx : opE E x = .val (.pointer (some ⟨b, o, none⟩)))
    (hi : opE E y = .val (.int k i)) (j : Nat) (hj : i = j) (hn : j < n) (h : LA P l wb K rest ((d, .val (.pointer (some ⟨b, o + j * s, none⟩))) :: E)) : LA P l wb K (⟨some d, .indexAddr t x y, ty, pos, after, g⟩ :: rest) E :=
  b0A _ hg (bcA fun a w he hh => by
    have h1 := hh x (by simp [Op.operands])
    have h2 := hh y (by simp [Op.operands])
    rw [hx] at h1; rw [hi] at h2; simp only [AD.ok] at h1 h2
    subst hj
    have hrun : (Instr.indexAt t (.pointer (some ⟨b, o, none⟩)) (.int k (j : Int))).run P w = .ok (.pointer (some (Addr.add ⟨b, o, none⟩ (j * s)))) w := by
      simp [Instr.indexAt, run_underlying ht, asIntOf, hs, hn, Instr.sureAddr]
    simp only [execOp, h1, h2, Sem.run_bind, hrun, Result.andThen_ok, Sem.run_pure, Addr.add_lit]) h
theorem a8A {b o : Nat} {cs : Array Value} {e : TypeId} {c : Value} (hg : b5A l E g = some true) (ht : ∀ w, (isAgg t).run P w = .ok false w) (hx : opE E x = .val (.pointer (some ⟨b, o, none⟩))) (hb : wb.heap[b]? = some (.cells cs e (0, 0))) (hc : cs[o]? = some c)
    (h : LA P l wb K rest ((d, .val c) :: E)) : LA P l wb K (⟨some d, .load t x, ty, pos, after, g⟩ :: rest) E :=
  j4A hg ht hx (by rw [cell_of_row wb b o cs e (0, 0) hb]; exact hc) h
theorem b6A {b : Nat} {cs : Array Value} {e : TypeId} (hg : b5A l E g = some true) (ht : ∀ w, (isAgg t).run P w = .ok true w) (hs : ∀ w, (sizeOf t).run P w = .ok cs.size w) (hx : opE E x = .val (.pointer (some ⟨b, 0, none⟩))) (hb : wb.heap[b]? = some (.cells cs e (0, 0)))
    (h : LA P l wb K rest ((d, .val (.agg cs)) :: E)) : LA P l wb K (⟨some d, .load t x, ty, pos, after, g⟩ :: rest) E :=
  b0A _ hg (bcA fun a w he hh => by
    have h1 := hh x (by simp [Op.operands])
    rw [hx] at h1; simp only [AD.ok] at h1
    have hl := run_loadCells_list (P := P) w ⟨b, 0, none⟩ cs.toList (fun j v hj => by
      rw [Addr.add_lit, cell_of_row w b (0 + j) cs e (0, 0) (he.block hb)]; simpa using hj)
    simp only [Array.length_toList, Array.toArray_toList] at hl
    simp only [execOp, h1, Instr.loadAt, Instr.sureAddr, loadVar, Sem.run_bind, Sem.run_pure, Result.andThen_ok, ht, if_true, hs, hl]) h
theorem k0A {x0 : Operand} {v0 : Value} {j0 : Nat} {c : Value} (hg : b5A l E g = some true) (h0 : opE E x0 = .val v0) (hr : ∀ w, (Instr.build t #[(j0, v0)]).run P w = .ok c w) (h : LA P l wb K rest ((d, .val c) :: E)) :
    LA P l wb K (⟨some d, .build t #[(j0, x0)], ty, pos, after, g⟩ :: rest) E :=
  b0A _ hg (bcA fun a w he hh => by
    have e0 := hh x0 (by simp [Op.operands])
    rw [h0] at e0; simp only [AD.ok] at e0
    simp only [execOp, List.map_toArray, List.map_cons, List.map_nil, Sem.run_bind, e0, hr, Result.andThen_ok, Sem.run_pure]) h
theorem cfA {x0 x1 : Operand} {v0 v1 : Value} {j0 j1 : Nat} {c : Value} (hg : b5A l E g = some true) (h0 : opE E x0 = .val v0) (h1 : opE E x1 = .val v1) (hr : ∀ w, (Instr.build t #[(j0, v0), (j1, v1)]).run P w = .ok c w) (h : LA P l wb K rest ((d, .val c) :: E)) :
    LA P l wb K (⟨some d, .build t #[(j0, x0), (j1, x1)], ty, pos, after, g⟩ :: rest) E :=
  b0A _ hg (bcA fun a w he hh => by
    have e0 := hh x0 (by simp [Op.operands])
    rw [h0] at e0; simp only [AD.ok] at e0
    have e1 := hh x1 (by simp [Op.operands])
    rw [h1] at e1; simp only [AD.ok] at e1
    simp only [execOp, List.map_toArray, List.map_cons, List.map_nil, Sem.run_bind, e0, e1, hr, Result.andThen_ok, Sem.run_pure]) h
theorem ceA {x0 x1 x2 : Operand} {v0 v1 v2 : Value} {j0 j1 j2 : Nat} {c : Value} (hg : b5A l E g = some true) (h0 : opE E x0 = .val v0) (h1 : opE E x1 = .val v1) (h2 : opE E x2 = .val v2) (hr : ∀ w, (Instr.build t #[(j0, v0), (j1, v1), (j2, v2)]).run P w = .ok c w) (h : LA P l wb K rest ((d, .val c) :: E)) :
    LA P l wb K (⟨some d, .build t #[(j0, x0), (j1, x1), (j2, x2)], ty, pos, after, g⟩ :: rest) E :=
  b0A _ hg (bcA fun a w he hh => by
    have e0 := hh x0 (by simp [Op.operands])
    rw [h0] at e0; simp only [AD.ok] at e0
    have e1 := hh x1 (by simp [Op.operands])
    rw [h1] at e1; simp only [AD.ok] at e1
    have e2 := hh x2 (by simp [Op.operands])
    rw [h2] at e2; simp only [AD.ok] at e2
    simp only [execOp, List.map_toArray, List.map_cons, List.map_nil, Sem.run_bind, e0, e1, e2, hr, Result.andThen_ok, Sem.run_pure]) h
end
theorem wf_k {k : IntKind} {n : Int} (h : (Lit.int k n).wf = true) : k.min ≤ n ∧ n ≤ k.max := by simpa [Lit.wf] using h
theorem wf_u64 {n : Int} (h : (Lit.int .u64 n).wf = true) : 0 ≤ n ∧ n < 18446744073709551616 := by
  have h1 := wf_k h
  have e1 : IntKind.u64.min = 0 := by decide
  have e2 : IntKind.u64.max = 18446744073709551615 := by decide
  omega
theorem ret_said {w : World} (en : Ending) (w' : World) (h : Ret w (.val (.bool true)) en w') : en = .returned (.bool true) ∧ Below w.heap.size w w' := by
  obtain ⟨v, h1, h2, h3⟩ := h
  have h3 : v = .bool true := h3
  subst h3; exact ⟨h1, h2⟩
end Go.LA
end
section
set_option linter.unusedSimpArgs false
set_option linter.unusedVariables false
namespace Go.LA
open Go.RowKit
section
variable {P : Program} {l : List Oper} {N : Nat} {wb : World} {K : List Oper → Env → Prop} {rest : List Oper} {E : Env} {Q : Exit → Act → World → Prop}
variable {d : Tmp} {ty t t' : TypeId} {pos : String} {after : Array Edge} {g : Option (Nat × Bool)} {x y z : Operand} {k k' : IntKind}
theorem gqA {w : World} {u : Value} {m s j : Nat} {xs : List Value} (h : SlC w u m s xs) (hj : j ≤ m) : (Builtin.firstCells s j u).run P w = .ok (xs.take (j * s)).toArray w := by
  obtain ⟨h0, a, cap, rfl, hc, hm, hn, hcs⟩ := h
  have hlen : (xs.take (j * s)).length = j * s := by
    rw [List.length_take, h0]; exact Nat.min_eq_left (Nat.mul_le_mul_right _ hj)
  cases a with
  | none =>
    obtain rfl := hn rfl
    obtain rfl : m = 0 := by omega
    obtain rfl : j = 0 := by omega
    simp [Builtin.firstCells]
  | some a =>
    show (loadCells a (j * s)).run P w = _
    rw [← hlen]
    rw [run_loadCells_list w a (xs.take (j * s)) (fun i v hv => ?_)]
    · rw [hlen]
    · rw [List.getElem?_take] at hv
      split at hv
      · rcases hcs with rfl | ⟨b, off, ha, hc'⟩
        · have : j = 0 := by omega
          subst this; simp at *
        · obtain rfl := Option.some.inj ha
          rw [Addr.add_lit]; exact hc' i v hv
      · cases hv
theorem jcA {w : World} {base e s n m : Nat} {v u z : Value} {b : Nat} {cs xs : List Value} (hel : El P t e z s b) (hown : Own base e s w v n cs) (hsrc : SlC w u m s xs) (i : Nat) (hi : i ≤ n) (h1 : ∀ c ∈ xs.take (min m (n - i) * s), c.oneCell' = true) (tt : TypeId) :
    ∃ w', (Builtin.copy_ #[t, tt] ty #[dyA v i n s, u]).run P w = .ok (goInt ((min m (n - i) : Nat) : Int)) w' ∧
      Own base e s w' v n (cs.take (i * s) ++ xs.take (min m (n - i) * s) ++ cs.drop ((i + min m (n - i)) * s)) ∧ w.grownBy w' v.ownBlock := by
  have hlen : ∀ u', (∃ a c, u' = Value.slice a m c) → (Builtin.lenOf u').run P w = .ok m w := by rintro _ ⟨a, c, rfl⟩; rfl
  have hf := gqA (P := P) hsrc (Nat.min_le_left m (n - i))
  have hcl := hown.1
  rcases hown.2 with ⟨rfl, rfl⟩ | ⟨gb, cap, cur, rfl, hb, hg, hnc, hm, hsz, htake⟩
  · obtain rfl : i = 0 := by omega
    refine ⟨w, ?_, ?_, ⟨rfl, rfl, rfl, Nat.le_refl _, fun _ _ _ => rfl⟩⟩
    · simp only [Nat.zero_sub, Nat.min_zero, Nat.sub_zero] at hf ⊢
      have e1 : dyA (.slice none 0 0) 0 0 s = .slice none 0 0 := by simp [dyA, sliced]
      rw [e1]
      simp only [Builtin.copy_, Sem.run_bind, run_underlying hel.ht, Result.andThen_ok, hlen u hsrc.isSlice, hel.sizeOf]
      simp [run_underlying hel.ht, hlen u hsrc.isSlice, hel.sizeOf, hf]
    · have : cs = [] := List.eq_nil_of_length_eq_zero (by simpa using hcl)
      subst this
      simpa using hown
  · have hks : (xs.take (min m (n - i) * s)).length = min m (n - i) * s := by
      rw [List.length_take, hsrc.1]; exact Nat.min_eq_left (Nat.mul_le_mul_right _ (Nat.min_le_left _ _))
    have hle : i * s + min m (n - i) * s ≤ n * s := by
      rw [← Nat.add_mul]; exact Nat.mul_le_mul_right _ (by omega)
    have hcap : n * s ≤ cap * s := Nat.mul_le_mul_right _ hnc
    have hst := run_storeCells_at P gb (i * s) e (xs.take (min m (n - i) * s)) 0 cur w hg (by rw [hks, hsz]; omega) h1
    simp only [Nat.add_zero, hks] at hst
    refine ⟨w.setRow gb (cur.toList.take (i * s) ++ xs.take (min m (n - i) * s) ++ cur.toList.drop (i * s + min m (n - i) * s)).toArray, ?_, ?_, ?_⟩
    · by_cases hci : cap = i
      · have e0 : min m (n - i) = 0 := by omega
        rw [e0] at hst hf ⊢
        simp only [Nat.zero_mul, List.take_zero, List.append_nil, Nat.add_zero, List.take_append_drop, Array.toArray_toList] at hst hf ⊢
        rw [setRow_self w gb cur e (0, 0) hg]
        have e1 : dyA (.slice (some ⟨gb, 0, none⟩) n cap) i n s = .slice (some ⟨gb, 0, none⟩) (n - i) (cap - i) := by simp only [dyA, sliced]; rw [if_pos hci]
        rw [e1]
        simp only [Builtin.copy_, Sem.run_bind, run_underlying hel.ht, Result.andThen_ok, hlen u hsrc.isSlice, hel.sizeOf, List.getElem?_toArray, List.getElem?_cons_zero, List.getElem?_cons_succ, Nat.min_eq_min, e0, hf, storeCells]
        simp [storeCells]
      · have e1 : dyA (.slice (some ⟨gb, 0, none⟩) n cap) i n s = .slice (some ⟨gb, i * s, none⟩) (n - i) (cap - i) := by simp only [dyA, sliced]; rw [if_neg hci]; simp [Addr.add_lit]
        rw [e1]
        simp only [Builtin.copy_, Sem.run_bind, run_underlying hel.ht, Result.andThen_ok, hlen u hsrc.isSlice, hel.sizeOf, List.getElem?_toArray, List.getElem?_cons_zero, List.getElem?_cons_succ, Nat.min_eq_min, hf, hst]
        simp [hst]
    · refine ⟨?_, .inr ⟨gb, cap, _, rfl, hb, setRow_heap w gb cur _ e _ hg, hnc, hm, ?_, ?_⟩⟩
      · simp only [List.length_append, List.length_take, List.length_drop, hcl, hks, hsrc.1, Nat.add_mul]
        have := Nat.min_eq_left (Nat.mul_le_mul_right s (Nat.min_le_left m (n - i)))
        omega
      · simp only [List.size_toArray, List.length_append, List.length_take, List.length_drop, Array.length_toList, hsz, hks, hsrc.1]
        have := Nat.min_eq_left (Nat.mul_le_mul_right s (Nat.min_le_left m (n - i)))
        omega
      · rw [← htake]
        have l1 : (cur.toList.take (i * s)).length = i * s := by rw [List.length_take, Array.length_toList, hsz]; omega
        simp only [List.take_take, Nat.add_mul]
        rw [List.take_append, List.take_append, List.length_append, l1, hks, Nat.min_eq_left (by omega : i * s ≤ n * s)]
        rw [List.take_of_length_le (by omega : (cur.toList.take (i * s)).length ≤ n * s), List.take_of_length_le (by omega : (xs.take (min m (n - i) * s)).length ≤ n * s - i * s), List.drop_take]
    · exact ⟨rfl, rfl, rfl, by simp, fun k _ hk => setRow_other w gb k _ (fun e => hk (by simp [Value.ownBlock, e]))⟩
theorem grA {w : World} {e s b n kn : Nat} {v z : Value} {cap : Nat} {a : Option Addr} {cs : List Value} {tn : TypeId} {kd kd' : IntKind} (hel : El P t e z s b) (htn : P.underlying tn = some (.int kd')) (hv : SlC w (.slice a n cap) n s cs) (hroom : cap < n + kn) (hk : 0 < kn)
    (hz1 : ∀ c ∈ z.cells.toList, c.oneCell' = true) (hbytes : (n + kn) * b ≤ 140737488355328) (h63 : n + kn ≤ 9223372036854775807) :
    ∃ (v' : Value) (w' : World) (zs : List Value), (Builtin.append_ #[t, tn] ty #[.slice a n cap, .int kd (kn : Int)]).run P w = .ok v' w' ∧ zs.length = kn * s ∧ (∀ c ∈ zs, c.oneCell' = true) ∧ Own w.heap.size e s w' v' (n + kn) (cs ++ zs) ∧ Ext w w' := by
  obtain ⟨i, hi1, hi2, hi3, hi4⟩ := hel.parts
  have hf := gqA (P := P) hv (Nat.le_refl n)
  have hcl := hv.1
  have hle1 : kn * b ≤ (n + kn) * b := Nat.mul_le_mul_right _ (by omega)
  have hw : IntKind.i64.wrap (kn : Int) = kn := by rw [IntKind.wrap_i64]; omega
  have hneg : ¬ ((kn : Int) < 0) := by omega
  have h48i : ¬ (281474976710656 < (kn : Int) * (i.bytes : Int)) := by
    rw [hi4, ← Int.natCast_mul]; omega
  have h48 := growslice_fits (old := cap) (need := n + kn) (bytes := i.bytes) (by omega) (by rw [hi4]; exact hbytes)
  have hneed : ¬ (n + kn ≤ cap) := by omega
  have hns : ¬ (kn * i.size = 0) := by rw [hi3]; exact Nat.mul_ne_zero (by omega) (by have := hel.pos; omega)
  have hzc : ∀ j, (Builtin.zeroCells z.cells j).toList.length = j * s := fun j => by simp [Builtin.zeroCells, hel.zs]
  have hz1' : ∀ j, ∀ c ∈ (Builtin.zeroCells z.cells j).toList, c.oneCell' = true := fun j c hc => by
    simp only [Builtin.zeroCells, Array.toList_map, List.mem_map] at hc
    obtain ⟨q, _, rfl⟩ := hc
    refine hz1 _ ?_
    have : q % z.cells.size < z.cells.size := Nat.mod_lt _ (by rw [hel.zs]; exact hel.pos)
    rw [getElem!_pos z.cells _ this]
    simp
  refine ⟨.slice (some ⟨w.heap.size, 0, none⟩) (n + kn) (grownCap w (n + kn) cap e), w.drew.alloc (.cells (cs.toArray ++ Builtin.zeroCells z.cells kn ++ Builtin.zeroCells z.cells (grownCap w (n + kn) cap e - (n + kn))) e), (Builtin.zeroCells z.cells kn).toList, ?_, hzc kn, hz1' kn, ?_, ?_⟩
  · have hf' : (Builtin.firstCells i.size n (.slice a n cap)).run P w.drew = .ok cs.toArray w.drew := by
      have := gqA (P := P) (w := w.drew) (hv.ext ⟨rfl, rfl, rfl, Nat.le_refl _, fun _ _ => rfl⟩) (Nat.le_refl n)
      rw [hi3]
      rw [List.take_of_length_le (by rw [hcl]; exact Nat.le_refl _)] at this
      exact this
    have h64 : ¬ (9223372036854775807 < ((n + kn : Nat) : Int)) := by omega
    simp [Builtin.append_, run_underlying hel.ht, run_underlying htn, sizeOf, typeInfo, zeroValue, hi1, hi2, asInt, asIntOf, hw, hneg, h48i, hneed, hns, h48, Question.forced, newRow, grownCap, hf']
    rw [if_neg (by omega), if_neg (by omega)]
  · exact ⟨by rw [List.length_append, hcl, hzc, Nat.add_mul], .inr ⟨w.heap.size, grownCap w (n + kn) cap e, _, rfl, Nat.le_refl _, heap_alloc_new w.drew _, grownCap_ge .., grownCap_le_maxLen _ _ _ _ (by unfold maxLen; omega), by
      have := grownCap_ge w (n + kn) cap e
      simp [hcl, Builtin.zeroCells, hel.zs]
      rw [← Nat.add_assoc, ← Nat.add_mul, ← Nat.add_mul]; congr 1; omega, by
      have l1 : (cs ++ (Builtin.zeroCells z.cells kn).toList).length = (n + kn) * s := by rw [List.length_append, hcl, hzc, Nat.add_mul]
      rw [Array.toList_append, Array.toList_append]
      rw [List.take_append_of_le_length (by rw [← l1]; simp), List.take_of_length_le (by rw [← l1]; simp)]⟩⟩
  · exact ⟨rfl, rfl, rfl, by simp, fun k hk => heap_alloc_old w.drew _ hk⟩
theorem snA {c : Code} (h : CX P N wb c E (Exit.noGoto Q)) : CX P N wb (.scope c) E Q := by unfold CX at *; exact fun a w st => wp_scope_straight (h a w st)
theorem p8A (h : PX N wb Q .normal E) : PX N wb (Exit.noGoto Q) .normal E := by unfold PX at *; exact h
theorem p7A (h : PX N wb Q .ret E) : PX N wb (Exit.noGoto Q) .ret E := by unfold PX at *; exact h
theorem p6A {k : Nat} (h : PX N wb Q (.exit k) E) : PX N wb (Exit.noGoto Q) (.exit k) E := by unfold PX at *; exact h
theorem cmA {a b : Int} {ats : Array TypeId} (hg : b5A l E g = some true) (hx : opE E x = .val (.int k a)) (hy : opE E y = .val (.int k' b)) (h : LA P l wb K rest ((d, .val (.int k (min a b))) :: E)) :
    LA P l wb K (⟨some d, .call ⟨.builtin .min, #[x, y], ats⟩, ty, pos, after, g⟩ :: rest) E :=
  b0A _ hg (bcA fun ac w he hh => by
    have e1 := hh x (by simp [Op.operands, Call.operands]); have e2 := hh y (by simp [Op.operands, Call.operands])
    rw [hx] at e1; rw [hy] at e2; simp only [AD.ok] at e1 e2
    have : (Builtin.min_ ats ty #[.int k a, .int k' b]).run P w = .ok (.int k (min a b)) w := by
      simp only [Builtin.min_, List.foldlM, Builtin.min2]
      have : (if b < a then b else a) = min a b := by omega
      simp [this]
    simp only [execOp, resolve, Sem.run_bind, Sem.run_pure, Result.andThen_ok, List.map_toArray, List.map_cons, List.map_nil, e1, e2, invoke, builtin, this]) h
theorem egA {a b : Int} {ats : Array TypeId} (hg : b5A l E g = some true) (hx : opE E x = .val (.int k a)) (hy : opE E y = .val (.int k' b)) (h : LA P l wb K rest ((d, .val (.int k (max a b))) :: E)) :
    LA P l wb K (⟨some d, .call ⟨.builtin .max, #[x, y], ats⟩, ty, pos, after, g⟩ :: rest) E :=
  b0A _ hg (bcA fun ac w he hh => by
    have e1 := hh x (by simp [Op.operands, Call.operands]); have e2 := hh y (by simp [Op.operands, Call.operands])
    rw [hx] at e1; rw [hy] at e2; simp only [AD.ok] at e1 e2
    have : (Builtin.max_ ats ty #[.int k a, .int k' b]).run P w = .ok (.int k (max a b)) w := by
      simp only [Builtin.max_, List.foldlM, Builtin.max2]
      have : (if b > a then b else a) = max a b := by omega
      simp [this]
    simp only [execOp, resolve, Sem.run_bind, Sem.run_pure, Result.andThen_ok, List.map_toArray, List.map_cons, List.map_nil, e1, e2, invoke, builtin, this]) h
theorem hdA {e : TypeId} {a : Option Addr} {n c : Nat} (hg : b5A l E g = some true) (ht : P.underlying t = some (.slice e)) (hx : opE E x = .val (.slice a n c)) (h : LA P l wb K rest ((d, .val (.int .i64 c)) :: E)) :
    LA P l wb K (⟨some d, .call ⟨.builtin .cap, #[x], #[t]⟩, ty, pos, after, g⟩ :: rest) E :=
  b0A _ hg (bcA fun ac w he hh => by
    have e1 := hh x (by simp [Op.operands, Call.operands])
    rw [hx] at e1; simp only [AD.ok] at e1
    have : (Builtin.cap_ #[t] ty #[.slice a n c]).run P w = .ok (goInt c) w := by simp [Builtin.cap_, run_underlying ht]
    simp only [execOp, resolve, Sem.run_bind, Sem.run_pure, Result.andThen_ok, List.map_toArray, List.map_cons, List.map_nil, e1, invoke, builtin, this]
    rfl) h
theorem hfA {c : Value} (hg : b5A l E g = some true) (hr : ∀ w, (Instr.build t #[]).run P w = .ok c w) (h : LA P l wb K rest ((d, .val c) :: E)) :
    LA P l wb K (⟨some d, .build t #[], ty, pos, after, g⟩ :: rest) E :=
  b0A _ hg (bcA fun a w he hh => by
    have := hr w
    simp only [execOp, List.map_toArray, List.map_nil, Sem.run_bind, this, Result.andThen_ok, Sem.run_pure]) h
theorem a2A {a a' : Addr} {f : Nat} (hg : b5A l E g = some true) (hx : opE E x = .val (.pointer (some a))) (hr : ∀ w, (Instr.fieldAt t (.pointer (some a)) f).run P w = .ok (.pointer (some a')) w)
    (h : LA P l wb K rest ((d, .val (.pointer (some a'))) :: E)) : LA P l wb K (⟨some d, .fieldAddr t x f, ty, pos, after, g⟩ :: rest) E :=
  b0A _ hg (bcA fun ac w he hh => by
    have e1 := hh x (by simp [Op.operands])
    rw [hx] at e1; simp only [AD.ok] at e1
    simp only [execOp, Sem.run_bind, e1, hr, Result.andThen_ok, Sem.run_pure]) h
theorem akA {a : Addr} (hg : b5A l E g = some true) (hx : opE E x = .val (.pointer (some a))) (h : LA P l wb K rest ((d, .val (.pointer (some a))) :: E)) :
    LA P l wb K (⟨some d, .nilCheck x, ty, pos, after, g⟩ :: rest) E :=
  b0A _ hg (bcA fun ac w he hh => by
    have e1 := hh x (by simp [Op.operands])
    rw [hx] at e1; simp only [AD.ok] at e1
    simp only [execOp, e1, Sem.run_pure]) h
theorem c9A {op : BinOp} {u v c : Value} (hg : b5A l E g = some true) (hx : opE E x = .val u) (hy : opE E y = .val v) (hr : ∀ w, (do eqGuard op t x y u v; binOp op t u v : Sem Value).run P w = .ok c w)
    (h : LA P l wb K rest ((d, .val c) :: E)) : LA P l wb K (⟨some d, .binOp op t x y t', ty, pos, after, g⟩ :: rest) E :=
  b0A _ hg (bcA fun ac w he hh => by
    have e1 := hh x (by simp [Op.operands]); have e2 := hh y (by simp [Op.operands])
    rw [hx] at e1; rw [hy] at e2; simp only [AD.ok] at e1 e2
    have := hr w
    simp only [execOp, Sem.run_bind, e1, e2, Result.andThen_ok, Sem.run_pure] at this ⊢
    rw [this]; rfl) h
theorem cuA {b off n cap s : Nat} {e : TypeId} {i : Int} (hg : b5A l E g = some true) (ht : P.underlying t = some (.slice e)) (hs : ∀ w, (sizeOf e).run P w = .ok s w) (hx : opE E x = .val (.slice (some ⟨b, off, none⟩) n cap))
    (hy : opE E y = .val (.int k i)) (h0 : 0 ≤ i) (h1 : i < n) (h : LA P l wb K rest ((d, .val (.pointer (some ⟨b, off + i.toNat * s, none⟩))) :: E)) :
    LA P l wb K (⟨some d, .indexAddr t x y, ty, pos, after, g⟩ :: rest) E :=
  b0A _ hg (bcA fun a w he hh => by
    have e1 := hh x (by simp [Op.operands]); have e2 := hh y (by simp [Op.operands])
    rw [hx] at e1; rw [hy] at e2; simp only [AD.ok] at e1 e2
    obtain ⟨j, rfl⟩ : ∃ j : Nat, i = j := ⟨i.toNat, by omega⟩
    have hn : j < n := by omega
    have hrun : (Instr.indexAt t (.slice (some ⟨b, off, none⟩) n cap) (.int k (j : Int))).run P w = .ok (.pointer (some (Addr.add ⟨b, off, none⟩ (j * s)))) w := by
      simp [Instr.indexAt, run_underlying ht, asIntOf, hs, hn, Instr.sureAddr]
    simp only [execOp, e1, e2, Sem.run_bind, hrun, Result.andThen_ok, Sem.run_pure, Addr.add_lit, Int.toNat_natCast]) h
theorem OwnI.row {base e : Nat} {kd : IntKind} {w : World} {v : Value} {xs : List Int} (h : OwnI base e kd w v xs) (hp : 0 < xs.length) :
    ∃ b cap cur, v = .slice (some ⟨b, 0, none⟩) xs.length cap ∧ base ≤ b ∧ w.heap[b]? = some (.cells cur e (0, 0)) ∧ xs.length ≤ cap ∧ cap ≤ maxLen ∧ cur.size = cap ∧ cur.toList.take xs.length = xs.map (Value.int kd) := by
  rcases h.2 with ⟨_, h0⟩ | ⟨gb, cap, cur, h1, hb, hg, hnc, hm, hsz, htake⟩
  · omega
  · exact ⟨gb, cap, cur, h1, hb, hg, hnc, hm, by simpa using hsz, by simpa using htake⟩
theorem OwnI.set {base e b cap : Nat} {kd : IntKind} {w : World} {cur : Array Value} {xs : List Int} (hb : base ≤ b) (hg : w.heap[b]? = some (.cells cur e (0, 0))) (hnc : xs.length ≤ cap) (hm : cap ≤ maxLen) (hsz : cur.size = cap) (ht : cur.toList.take xs.length = xs.map (Value.int kd)) (i : Nat) (hi : i < xs.length) (c : Int) :
    OwnI base e kd (w.setRow b (cur.setIfInBounds i (.int kd c))) (.slice (some ⟨b, 0, none⟩) xs.length cap) (xs.set i c) := by
  refine ⟨by simp, .inr ⟨b, cap, cur.setIfInBounds i (.int kd c), by simp, hb, setRow_heap w b cur _ e _ hg, by simpa using hnc, hm, by simpa using hsz, ?_⟩⟩
  rw [Array.toList_setIfInBounds, List.map_set, ← ht]
  simp only [Nat.mul_one, List.length_set]
  rw [List.take_set]
theorem deA {b o : Nat} {cur : Array Value} {e : TypeId} {c : Value} (hg : g = none) (hx : opE E x = .val (.pointer (some ⟨b, o, none⟩))) (hy : opE E y = .val c) (hb : wb.heap[b]? = some (.cells cur e (0, 0)))
    (hs : ∀ w, (sizeOf t).run P w = .ok 1 w) (ho : o < cur.size) (hc : c.cells = #[c]) (h1 : c.oneCell' = true) (h : ∀ w, Ext wb w → LX P N (w.setRow b (cur.setIfInBounds o c)) l Q rest (vals E)) :
    LX P N wb l Q (⟨none, .store t x y, ty, pos, after, g⟩ :: rest) E := by
  unfold LX
  intro a w st
  have e1 := st.opd x; rw [hx] at e1; simp only [AD.ok] at e1
  have e2 := st.opd y; rw [hy] at e2; simp only [AD.ok] at e2
  have hrun : (Instr.storeAt t (.pointer (some ⟨b, o, none⟩)) c).run P w = .ok () (w.setRow b (cur.setIfInBounds o c)) := by
    have hst := run_storeCells_at P b o e [c] 0 cur w (st.ext.block hb) (by simp; omega) (by simpa using h1)
    have e3 : (cur.toList.take (o + 0) ++ [c] ++ cur.toList.drop (o + 0 + [c].length)).toArray = cur.setIfInBounds o c := by
      apply Array.ext'
      rw [Array.toList_setIfInBounds, List.set_eq_take_append_cons_drop, if_pos (by simpa using ho)]
      simp
    rw [e3] at hst
    simp only [Instr.storeAt, Instr.sureAddr, storeVar, Sem.run_bind, Sem.run_pure, Result.andThen_ok, hs, hc, ne_eq, if_false, List.size_toArray, List.length_cons, List.length_nil, Nat.zero_add, not_true_eq_false, hst]
  refine wpList_plain hg fun Kc hK => ?_
  unfold Oper.wp
  simp only [execOp, Sem.run_bind, e1, e2, hrun, Result.andThen_ok, Sem.run_pure, Oper.upon]
  refine hK _ _ ?_
  have h2 := h w st.ext
  unfold LX at h2
  exact h2 _ _ (st.vals (w' := w.setRow b (cur.setIfInBounds o c)))
theorem fpA {f : FuncId} {ats : Array TypeId} {fv : Operand} {v1 : Value} (hg : g = none) (hd : d < N) (hfv : opE E fv = .val (.func (.func f) #[] #[])) (hv1 : opE E x = .val v1) (R : Value → World → Prop)
    (hc : ∀ w, Ext wb w → Fc P f #[v1] w (fun e w' => ∃ v, e = .returned v ∧ R v w')) (h : ∀ v w, R v w → LX P N w l Q rest ((d, .val v) :: vals E)) :
    LX P N wb l Q (⟨some d, .call ⟨.value fv, #[x], ats⟩, ty, pos, after, g⟩ :: rest) E := by
  unfold LX
  intro a w st
  have h0 := st.opd fv; rw [hfv] at h0; simp only [AD.ok] at h0
  have ev1 := st.opd x; rw [hv1] at ev1; simp only [AD.ok] at ev1
  have hcc := hc w st.ext
  refine wpList_plain hg fun Kc hK => ?_
  unfold Oper.wp
  rw [c2A h0 (Fc.run hcc _ _)]
  simp only [Oper.upon, List.map_toArray, List.map_cons, List.map_nil, ev1]
  refine hcc.calls.mono ?_
  rintro e w' ⟨v, rfl, hv⟩
  refine hK _ _ ?_
  have h2 := h v w' hv
  unfold LX at h2
  exact h2 _ _ ((st.vals (w' := w')).push (Ext.refl _) (dst := some d) (r := .val v) (fun d' hd' => by cases hd'; exact hd) (.inr rfl))
theorem s5A {f : FuncId} {ats : Array TypeId} {fv : Operand} {v1 v2 : Value} (hg : g = none) (hd : d < N) (hfv : opE E fv = .val (.func (.func f) #[] #[])) (hv1 : opE E x = .val v1) (hv2 : opE E y = .val v2) (R : Value → World → Prop)
    (hc : ∀ w, Ext wb w → Fc P f #[v1, v2] w (fun e w' => ∃ v, e = .returned v ∧ R v w')) (h : ∀ v w, R v w → LX P N w l Q rest ((d, .val v) :: vals E)) :
    LX P N wb l Q (⟨some d, .call ⟨.value fv, #[x, y], ats⟩, ty, pos, after, g⟩ :: rest) E := by
  unfold LX
  intro a w st
  have h0 := st.opd fv; rw [hfv] at h0; simp only [AD.ok] at h0
  have ev1 := st.opd x; rw [hv1] at ev1; simp only [AD.ok] at ev1
  have ev2 := st.opd y; rw [hv2] at ev2; simp only [AD.ok] at ev2
  have hcc := hc w st.ext
  refine wpList_plain hg fun Kc hK => ?_
  unfold Oper.wp
  rw [c2A h0 (Fc.run hcc _ _)]
  simp only [Oper.upon, List.map_toArray, List.map_cons, List.map_nil, ev1, ev2]
  refine hcc.calls.mono ?_
  rintro e w' ⟨v, rfl, hv⟩
  refine hK _ _ ?_
  have h2 := h v w' hv
  unfold LX at h2
  exact h2 _ _ ((st.vals (w' := w')).push (Ext.refl _) (dst := some d) (r := .val v) (fun d' hd' => by cases hd'; exact hd) (.inr rfl))
theorem c1A {f : FuncId} {ats : Array TypeId} {fv : Operand} {v1 v2 v3 : Value} (hg : g = none) (hd : d < N) (hfv : opE E fv = .val (.func (.func f) #[] #[])) (hv1 : opE E x = .val v1) (hv2 : opE E y = .val v2) (hv3 : opE E z = .val v3) (R : Value → World → Prop)
    (hc : ∀ w, Ext wb w → Fc P f #[v1, v2, v3] w (fun e w' => ∃ v, e = .returned v ∧ R v w')) (h : ∀ v w, R v w → LX P N w l Q rest ((d, .val v) :: vals E)) :
    LX P N wb l Q (⟨some d, .call ⟨.value fv, #[x, y, z], ats⟩, ty, pos, after, g⟩ :: rest) E := by
  unfold LX
  intro a w st
  have h0 := st.opd fv; rw [hfv] at h0; simp only [AD.ok] at h0
  have ev1 := st.opd x; rw [hv1] at ev1; simp only [AD.ok] at ev1
  have ev2 := st.opd y; rw [hv2] at ev2; simp only [AD.ok] at ev2
  have ev3 := st.opd z; rw [hv3] at ev3; simp only [AD.ok] at ev3
  have hcc := hc w st.ext
  refine wpList_plain hg fun Kc hK => ?_
  unfold Oper.wp
  rw [c2A h0 (Fc.run hcc _ _)]
  simp only [Oper.upon, List.map_toArray, List.map_cons, List.map_nil, ev1, ev2, ev3]
  refine hcc.calls.mono ?_
  rintro e w' ⟨v, rfl, hv⟩
  refine hK _ _ ?_
  have h2 := h v w' hv
  unfold LX at h2
  exact h2 _ _ ((st.vals (w' := w')).push (Ext.refl _) (dst := some d) (r := .val v) (fun d' hd' => by cases hd'; exact hd) (.inr rfl))
theorem d5A {f : FuncId} {ats : Array TypeId} {fv : Operand} {q : Operand} {v1 v2 v3 v4 : Value} (hg : g = none) (hd : d < N) (hfv : opE E fv = .val (.func (.func f) #[] #[])) (hv1 : opE E x = .val v1) (hv2 : opE E y = .val v2) (hv3 : opE E z = .val v3) (hv4 : opE E q = .val v4) (R : Value → World → Prop)
    (hc : ∀ w, Ext wb w → Fc P f #[v1, v2, v3, v4] w (fun e w' => ∃ v, e = .returned v ∧ R v w')) (h : ∀ v w, R v w → LX P N w l Q rest ((d, .val v) :: vals E)) :
    LX P N wb l Q (⟨some d, .call ⟨.value fv, #[x, y, z, q], ats⟩, ty, pos, after, g⟩ :: rest) E := by
  unfold LX
  intro a w st
  have h0 := st.opd fv; rw [hfv] at h0; simp only [AD.ok] at h0
  have ev1 := st.opd x; rw [hv1] at ev1; simp only [AD.ok] at ev1
  have ev2 := st.opd y; rw [hv2] at ev2; simp only [AD.ok] at ev2
  have ev3 := st.opd z; rw [hv3] at ev3; simp only [AD.ok] at ev3
  have ev4 := st.opd q; rw [hv4] at ev4; simp only [AD.ok] at ev4
  have hcc := hc w st.ext
  refine wpList_plain hg fun Kc hK => ?_
  unfold Oper.wp
  rw [c2A h0 (Fc.run hcc _ _)]
  simp only [Oper.upon, List.map_toArray, List.map_cons, List.map_nil, ev1, ev2, ev3, ev4]
  refine hcc.calls.mono ?_
  rintro e w' ⟨v, rfl, hv⟩
  refine hK _ _ ?_
  have h2 := h v w' hv
  unfold LX at h2
  exact h2 _ _ ((st.vals (w' := w')).push (Ext.refl _) (dst := some d) (r := .val v) (fun d' hd' => by cases hd'; exact hd) (.inr rfl))
theorem xmA {n : Int} (hg : b5A l E g = some true) (hx : opE E x = .val (.int k n)) (h : LA P l wb K rest ((d, .val (.int k (k.wrap (-n)))) :: E)) : LA P l wb K (⟨some d, .unOp .neg t x, ty, pos, after, g⟩ :: rest) E :=
  b0A _ hg (bcA fun a w he hh => by
    have h0 := hh x (by simp [Op.operands])
    rw [hx] at h0; simp only [AD.ok] at h0
    simp [execOp, h0, Op.unary, Op.intArith]) h
theorem brA (n : Nat) {id : Nat} (hn : l.length = n + 1) (hP : P.follows .mixedOrders = true) (hok : okR l n N = true)
    (h : ∀ K : List Oper → Env → Prop, (∀ rest E, rest.length = 1 → LX P N wb l Q rest E → K rest E) → LA P l wb K l E) : CX P N wb (.region id l.toArray true) E Q :=
  djA n hP hok (by omega) (fun K hK => h K (fun rest E hr => hK rest E (by omega)))
theorem j5A (e : TypeId) {s : Nat} (hg : b5A l E g = some true)
    (hr : ∀ w, (Instr.buildSlice t 0 #[]).run P w = .ok (.slice (some ⟨w.heap.size, 0, none⟩) 0 0) (w.alloc (.cells #[] e))) (h : LA P l wb K rest ((d, .pred (hpA wb.heap.size e s 0 [])) :: E)) :
    LA P l wb K (⟨some d, .buildSlice t 0 #[], ty, pos, after, g⟩ :: rest) E :=
  b0A _ hg (fun a w he hh => by
    simp only [execOp, List.map_toArray, List.map_nil, Sem.run_bind, hr, Result.andThen_ok, Sem.run_pure]
    refine ⟨Ext.alloc _ _, ?_⟩
    have := World.ownsRow_lit (base := wb.heap.size) (e := e) (size := s) w #[] 0 he.size (by decide) (by simp)
    show Own _ _ _ _ _ _ _
    simpa [Own] using this) h
theorem ezA {c z : Value} {b : Nat} {e : TypeId} (hg : b5A l E g = some true) (hel : El P t e z 1 b) (hx : opE E x = .val c) (hc : c.cells = #[c]) (h : LA P l wb K rest ((d, .pred (hpA wb.heap.size e 1 1 [c])) :: E)) :
    LA P l wb K (⟨some d, .buildSlice t 1 #[(0, x)], ty, pos, after, g⟩ :: rest) E := by
  refine b0A (.pred (hpA wb.heap.size e 1 1 [c])) hg (fun a w he hh => ?_) h
  have h1 := hh x (by simp [Op.operands])
  rw [hx] at h1; simp only [AD.ok] at h1
  have hrun : (Instr.buildSlice t 1 #[(0, c)]).run P w = .ok (.slice (some ⟨w.heap.size, 0, none⟩) 1 1) (w.alloc (.cells #[c] e)) := by
    simp only [Instr.buildSlice, Sem.run_bind, run_underlying hel.ht, Result.andThen_ok, hel.sizeOf, Nat.reduceMul, Nat.reducePow, gt_iff_lt, Nat.reduceLT, if_false, Sem.run_pure, Nat.reduceEqDiff, hel.zero, m1A hc hel.zs]
    rfl
  simp only [execOp, List.map_toArray, List.map_cons, List.map_nil, h1, Sem.run_bind, hrun, Result.andThen_ok, Sem.run_pure]
  refine ⟨Ext.alloc _ _, ?_⟩
  have := World.ownsRow_lit (base := wb.heap.size) (e := e) (size := 1) w #[c] 1 he.size (by decide) (by simp)
  show Own _ _ _ _ _ _ _
  simpa [Own] using this
theorem Own.more {base e s n cap gb : Nat} {w : World} {cs : List Value} (h : Own base e s w (.slice (some ⟨gb, 0, none⟩) n cap) n cs) (m : Nat) (hm : n + m ≤ cap) : ∃ zs : List Value, zs.length = m * s ∧ Own base e s w (.slice (some ⟨gb, 0, none⟩) (n + m) cap) (n + m) (cs ++ zs) := by
  rcases h.2 with ⟨h1, _⟩ | ⟨gb', cap', cur, h1, hb, hg, hnc, hmx, hsz, htake⟩
  · cases h1
  · cases h1
    have hle : (n + m) * s ≤ cap * s := Nat.mul_le_mul_right _ hm
    have e1 : (n + m) * s = n * s + m * s := Nat.add_mul ..
    refine ⟨(cur.toList.drop (n * s)).take (m * s), ?_, ?_⟩
    · rw [List.length_take, List.length_drop, Array.length_toList, hsz]; omega
    · refine ⟨?_, .inr ⟨gb, cap, cur, rfl, hb, hg, hm, hmx, hsz, ?_⟩⟩
      · rw [List.length_append, h.1, List.length_take, List.length_drop, Array.length_toList, hsz]; omega
      · rw [e1, List.take_add, htake]
theorem eyA {n cap gb s : Nat} {i : Int} (hg : b5A l E g = some true) (e : TypeId) (ht : P.underlying t = some (.slice e))
    (hx : opE E x = .val (.slice (some ⟨gb, 0, none⟩) n cap)) (hi : opE E y = .val (.int k i)) (h0 : 0 ≤ i) (hc0 : 0 < cap) (hn : i ≤ cap) (hs : ∀ w, (sizeOf e).run P w = .ok s w) (h : LA P l wb K rest ((d, .val (.slice (some ⟨gb, 0, none⟩) i.toNat cap)) :: E)) :
    LA P l wb K (⟨some d, .slice t x none (some y) none, ty, pos, after, g⟩ :: rest) E :=
  b0A _ hg (bcA fun a w he hh => by
    have h1 := hh x (by simp [Op.operands])
    have h2 := hh y (by simp [Op.operands])
    rw [hx] at h1; rw [hi] at h2; simp only [AD.ok] at h1 h2
    obtain ⟨j, rfl⟩ := Int.eq_ofNat_of_zero_le h0
    have hrun : (Instr.sliceAt t (.slice (some ⟨gb, 0, none⟩) n cap) none (some (.int k (j : Int))) none).run P w = .ok (.slice (some ⟨gb, 0, none⟩) j cap) w := by
      simp only [Instr.sliceAt, Instr.slice, Sem.run_bind, run_underlying ht, Result.andThen_ok, m9A (k := k) (n := n) (cap := cap) (h := j) (w := w) (P := P) (by omega), hs]
      simp only [sliced, Nat.zero_mul, Nat.sub_zero]
      rw [if_neg (by omega)]
      simp [Addr.add_zero']
    simp only [execOp, Option.map_some, Option.map_none, h1, h2, Sem.run_bind, hrun, Result.andThen_ok, Sem.run_pure, Int.toNat_natCast]) h
theorem jhA {base e s n cap gb : Nat} {w : World} {cs : List Value} (h : Own base e s w (.slice (some ⟨gb, 0, none⟩) n cap) n cs) : w.shape? gb = some (e, cap * s) ∧ (∀ o, w.frozen? ⟨gb, o, none⟩ = false) := by
  rcases h.2 with ⟨h1, _⟩ | ⟨gb', cap', cur, h1, hb, hg, hnc, hmx, hsz, htake⟩
  · cases h1
  · cases h1
    refine ⟨by simp [World.shape?, hg, hsz], fun o => by simp [World.frozen?, hg]⟩
theorem ehA {w : World} {ba bb e s na ca nb cb ga gb : Nat} {xs ys : List Value} {tR : TypeId} (ht : P.underlying t = some (.slice e)) (hs : ∀ w, (sizeOf e).run P w = .ok s w) (hsp : 0 < s)
    (ha : Own ba e s w (.slice (some ⟨ga, 0, none⟩) na ca) na xs) (hb : Own bb e s w (.slice (some ⟨gb, 0, none⟩) nb cb) nb ys) (hcb : 0 < cb) (hne : ga ≠ gb) (o l' c' : Nat) :
    (Extern.SlicesOverlaps.overlaps #[t, t] #[tR] #[.slice (some ⟨ga, 0, none⟩) na ca, .slice (some ⟨gb, o, none⟩) l' c']).run P w = .ok (.bool false) w := by
  obtain ⟨a1, a2⟩ := jhA ha
  obtain ⟨b1, b2⟩ := jhA hb
  exact Lib.run_overlaps_apart w t tR e ht s hs ⟨ga, 0, none⟩ ⟨gb, o, none⟩ na ca l' c' hne e e (ca * s) (cb * s) a1 b1 (by have := Nat.mul_pos hcb hsp; omega) (a2 _) (a2 _)
theorem puA {f : FuncId} {ats : Array TypeId} {fv : Operand} {v1 v2 c : Value} (hg : b5A l E g = some true) (hfv : opE E fv = .val (.func (.func f) #[] #[])) (h1 : opE E x = .val v1) (h2 : opE E y = .val v2)
    (hr : ∀ w, Ext wb w → (callFunc f #[v1, v2]).run P w = .ok (.value c) w) (h : LA P l wb K rest ((d, .val c) :: E)) : LA P l wb K (⟨some d, .call ⟨.value fv, #[x, y], ats⟩, ty, pos, after, g⟩ :: rest) E :=
  b0A _ hg (fun a w he hh => by
    have h0 := hh fv (by simp [Op.operands, Call.operands])
    rw [hfv] at h0; simp only [AD.ok] at h0
    have e1 := hh x (by simp [Op.operands, Call.operands])
    rw [h1] at e1; simp only [AD.ok] at e1
    have e2 := hh y (by simp [Op.operands, Call.operands])
    rw [h2] at e2; simp only [AD.ok] at e2
    have hrun : (execOp a.eval ⟨some d, .call ⟨.value fv, #[x, y], ats⟩, ty, pos, after, g⟩).run P w = .ok (.value c) w := by
      simp only [execOp, resolve, Deferred.ofValue, h0, Sem.run_bind, Sem.run_pure, Result.andThen_ok, invoke, List.map_toArray, List.map_cons, List.map_nil, e1, e2]
      simpa using hr w he
    rw [hrun]; exact ⟨Ext.refl _, rfl⟩) h
theorem eeA {base e s b n m : Nat} {v u z : Value} {cs xs : List Value} {tt : TypeId} (i : Nat) (hg : g = none) (hd : ∀ q, (some d : Option Tmp) = some q → q < N) (hel : El P t e z s b) (hx : opE E x = .val (dyA v i n s)) (hy : opE E y = .val u) (hown : Own base e s wb v n cs) (hsrc : SlC wb u m s xs) (hi : i ≤ n)
    (h1 : ∀ c ∈ xs.take (min m (n - i) * s), c.oneCell' = true) (h : ∀ w w', Ext wb w → Own base e s w' v n (cs.take (i * s) ++ xs.take (min m (n - i) * s) ++ cs.drop ((i + min m (n - i)) * s)) → w.grownBy w' v.ownBlock → LX P N w' l Q rest ((d, .val (goInt ((min m (n - i) : Nat) : Int))) :: vals E)) :
    LX P N wb l Q (⟨some d, .call ⟨.builtin .copy, #[x, y], #[t, tt]⟩, ty, pos, after, g⟩ :: rest) E := by
  unfold LX
  intro a w st
  have e1 := st.opd x; rw [hx] at e1; simp only [AD.ok] at e1
  have e2 := st.opd y; rw [hy] at e2; simp only [AD.ok] at e2
  obtain ⟨w', g1, g2, g3⟩ := jcA (ty := ty) hel (hown.ext st.ext) (hsrc.ext st.ext) i hi h1 tt
  refine wpList_plain hg fun Kc hK => ?_
  unfold Oper.wp
  simp only [execOp, resolve, invoke, builtin, Sem.run_bind, Sem.run_pure, Result.andThen_ok, List.map_toArray, List.map_cons, List.map_nil, e1, e2, g1, Oper.upon]
  refine hK _ _ ?_
  have h2 := h w w' st.ext g2 g3
  unfold LX at h2
  exact h2 _ _ ((st.vals (w' := w')).push (Ext.refl _) (dst := some d) (r := .val _) hd (.inr rfl))
theorem efA {e s b n kn cap : Nat} {z : Value} {a : Option Addr} {cs : List Value} {tn : TypeId} {kd kd' : IntKind} {i : Int} (hg : g = none) (hd : d < N) (hel : El P t e z s b) (htn : P.underlying tn = some (.int kd')) (hx : opE E x = .val (.slice a n cap)) (hy : opE E y = .val (.int kd i)) (hv : SlC wb (.slice a n cap) n s cs)
    (hik : i = (kn : Int)) (hroom : cap < n + kn) (hk : 0 < kn) (hz1 : ∀ c ∈ z.cells.toList, c.oneCell' = true) (hbytes : (n + kn) * b ≤ 140737488355328) (h63 : n + kn ≤ 9223372036854775807)
    (h : ∀ v' w w' zs, Ext wb w → zs.length = kn * s → (∀ c ∈ zs, c.oneCell' = true) → Own w.heap.size e s w' v' (n + kn) (cs ++ zs) → Ext w w' → LX P N w' l Q rest ((d, .val v') :: vals E)) :
    LX P N wb l Q (⟨some d, .call ⟨.builtin .append, #[x, y], #[t, tn]⟩, ty, pos, after, g⟩ :: rest) E := by
  unfold LX
  intro ac w st
  have e1 := st.opd x; rw [hx] at e1; simp only [AD.ok] at e1
  have e2 := st.opd y; rw [hy, hik] at e2; simp only [AD.ok] at e2
  obtain ⟨v', w', zs, g1, g2, g3, g4, g5⟩ := grA (v := undef) (t := t) (ty := ty) (kd := kd) hel htn (hv.ext st.ext) hroom hk hz1 hbytes h63
  refine wpList_plain hg fun Kc hK => ?_
  unfold Oper.wp
  simp only [execOp, resolve, invoke, builtin, Sem.run_bind, Sem.run_pure, Result.andThen_ok, List.map_toArray, List.map_cons, List.map_nil, e1, e2, g1, Oper.upon]
  refine hK _ _ ?_
  have h2 := h v' w w' zs st.ext g2 g3 g4 g5
  unfold LX at h2
  exact h2 _ _ ((st.vals (w' := w')).push (Ext.refl _) (dst := some d) (r := .val v') (fun d' hd' => by cases hd'; exact hd) (.inr rfl))
theorem e8A {gb n cap l h s : Nat} (hl : l < cap) : dyA (.slice (some ⟨gb, 0, none⟩) n cap) l h s = .slice (some ⟨gb, l * s, none⟩) (h - l) (cap - l) := by
  simp only [dyA, sliced]; rw [if_neg (by omega)]; simp [Addr.add_lit]
theorem igA {base e s n cap gb : Nat} {w : World} {cs : List Value} (h : Own base e s w (.slice (some ⟨gb, 0, none⟩) n cap) n cs) (i : Nat) (hi : i ≤ n) : Own base e s w (.slice (some ⟨gb, 0, none⟩) i cap) i (cs.take (i * s)) := by
  rcases h.2 with ⟨h1, _⟩ | ⟨gb', cap', cur, h1, hb, hg, hnc, hmx, hsz, htake⟩
  · cases h1
  · cases h1
    have hle : i * s ≤ n * s := Nat.mul_le_mul_right _ hi
    refine ⟨by rw [List.length_take, h.1]; exact Nat.min_eq_left hle, .inr ⟨gb, cap, cur, rfl, hb, hg, Nat.le_trans hi hnc, hmx, hsz, ?_⟩⟩
    rw [← htake, List.take_take, Nat.min_eq_left hle]
theorem huA {A Z xs D : List Value} {i n s : Nat} (hi : i < n) (hA : A.length = i * s) (hx : xs.length = s) (hZ : Z.length = (n + 1 - i) * s) (hD : D.length = (n - i) * s) :
    ((A ++ Z).take (i * s) ++ xs.take (min 1 (n + 1 - i) * s) ++ (A ++ Z).drop ((i + min 1 (n + 1 - i)) * s)).take ((i + 1) * s) ++ D.take (min (n - i) (n + 1 - (i + 1)) * s) ++ ((A ++ Z).take (i * s) ++ xs.take (min 1 (n + 1 - i) * s) ++ (A ++ Z).drop ((i + min 1 (n + 1 - i)) * s)).drop ((i + 1 + min (n - i) (n + 1 - (i + 1))) * s) = A ++ xs ++ D := by
  have m1 : min 1 (n + 1 - i) = 1 := by omega
  have m2 : min (n - i) (n + 1 - (i + 1)) = n - i := by omega
  have m3 : i + 1 + (n - i) = n + 1 := by omega
  have e1 : (i + 1) * s = i * s + s := by rw [Nat.add_mul, Nat.one_mul]
  have e2 : (n + 1 - i) * s = (n - i) * s + s := by rw [show n + 1 - i = (n - i) + 1 by omega, Nat.add_mul, Nat.one_mul]
  have e3 : (n + 1) * s = i * s + (n - i) * s + s := by rw [← Nat.add_mul, show i + (n - i) = n by omega, Nat.add_mul, Nat.one_mul]
  have f1 : (A ++ Z).take (i * s) = A := by rw [List.take_append_of_le_length (by omega), List.take_of_length_le (by omega)]
  have f2 : xs.take s = xs := List.take_of_length_le (by omega)
  have f3 : D.take ((n - i) * s) = D := List.take_of_length_le (by omega)
  have f4 : (A ++ Z).drop ((i + 1) * s) = Z.drop s := by rw [e1, ← hA, List.drop_append]; simp
  have f5 : (A ++ xs ++ Z.drop s).take ((i + 1) * s) = A ++ xs := by rw [List.take_append_of_le_length (by rw [List.length_append]; omega), List.take_of_length_le (by rw [List.length_append]; omega)]
  have f6 : (A ++ xs ++ Z.drop s).drop ((n + 1) * s) = [] := List.drop_of_length_le (by simp only [List.length_append, List.length_drop]; omega)
  rw [m1, m2, m3, Nat.one_mul, f1, f2, f3, f4, f5, f6, List.append_nil]
theorem goA {C Z xs : List Value} {i n s : Nat} (hi : i < n) (hC : C.length = n * s) (hx : xs.length = s) (hZ : Z.length = 1 * s) :
    ((C ++ Z).take ((i + 1) * s) ++ (((C ++ Z).take ((n + 1) * s)).drop (i * s)).take (min (n + 1 - i) (n + 1 - (i + 1)) * s) ++ (C ++ Z).drop ((i + 1 + min (n + 1 - i) (n + 1 - (i + 1))) * s)).take (i * s) ++ xs.take (min 1 (n + 1 - i) * s) ++
      ((C ++ Z).take ((i + 1) * s) ++ (((C ++ Z).take ((n + 1) * s)).drop (i * s)).take (min (n + 1 - i) (n + 1 - (i + 1)) * s) ++ (C ++ Z).drop ((i + 1 + min (n + 1 - i) (n + 1 - (i + 1))) * s)).drop ((i + min 1 (n + 1 - i)) * s) = C.take (i * s) ++ xs ++ C.drop (i * s) := by
  have m1 : min 1 (n + 1 - i) = 1 := by omega
  have m2 : min (n + 1 - i) (n + 1 - (i + 1)) = n - i := by omega
  have m3 : i + 1 + (n - i) = n + 1 := by omega
  have e1 : (i + 1) * s = i * s + s := by rw [Nat.add_mul, Nat.one_mul]
  have e3 : (n + 1) * s = n * s + s := by rw [Nat.add_mul, Nat.one_mul]
  have e5 : n * s = i * s + (n - i) * s := by rw [← Nat.add_mul, show i + (n - i) = n by omega]
  have e6 : s ≤ (n - i) * s := by have := Nat.mul_le_mul_right s (show 1 ≤ n - i by omega); omega
  have d1 : (C ++ Z).take ((n + 1) * s) = C ++ Z := List.take_of_length_le (by rw [List.length_append]; omega)
  have d2 : (C ++ Z).drop ((n + 1) * s) = [] := List.drop_of_length_le (by rw [List.length_append]; omega)
  have d3 : ((C ++ Z).drop (i * s)).take ((n - i) * s) = C.drop (i * s) := by
    rw [List.drop_append_of_le_length (by omega), List.take_append_of_le_length (by rw [List.length_drop]; omega), List.take_of_length_le (by rw [List.length_drop]; omega)]
  have d4 : (C ++ Z).take ((i + 1) * s) = C.take ((i + 1) * s) := List.take_append_of_le_length (by omega)
  have l4 : (C.take ((i + 1) * s)).length = (i + 1) * s := by rw [List.length_take]; omega
  rw [m1, m2, m3, d1, d2, d3, d4, List.append_nil, Nat.one_mul, List.take_of_length_le (by omega : xs.length ≤ s), List.take_append_of_le_length (by omega), List.take_take, Nat.min_eq_left (by omega : i * s ≤ (i + 1) * s)]
  congr 1
  rw [List.drop_append, l4, Nat.sub_self, List.drop_of_length_le (by omega : (C.take ((i + 1) * s)).length ≤ (i + 1) * s)]
  rfl
theorem ldA {C Z : List Value} {i n s : Nat} (hi : i < n) (hC : C.length = n * s) (hZ : Z.length = 1 * s) :
    (((C ++ Z).take ((n + 1) * s)).drop (i * s)).take (min (n + 1 - i) (n + 1 - (i + 1)) * s) = C.drop (i * s) := by
  have m2 : min (n + 1 - i) (n + 1 - (i + 1)) = n - i := by omega
  have e3 : (n + 1) * s = n * s + s := by rw [Nat.add_mul, Nat.one_mul]
  have e5 : n * s = i * s + (n - i) * s := by rw [← Nat.add_mul, show i + (n - i) = n by omega]
  have d1 : (C ++ Z).take ((n + 1) * s) = C ++ Z := List.take_of_length_le (by rw [List.length_append]; omega)
  rw [m2, d1, List.drop_append_of_le_length (by omega), List.take_append_of_le_length (by rw [List.length_drop]; omega), List.take_of_length_le (by rw [List.length_drop]; omega)]
theorem e4A {w w2 w3 : World} {b : Option Nat} (e : Ext w w2) (h : w2.grownBy w3 b) : w.grownBy w3 b :=
  ⟨h.os.trans e.os, h.tape.trans e.tape, h.output.trans e.output, Nat.le_trans e.size h.size, fun k hk hn => (h.block k (Nat.lt_of_lt_of_le hk e.size) hn).trans (Below.block e k hk)⟩
theorem f5A {w w2 w3 : World} {b : Option Nat} (h : w.grownBy w2 b) (e : Ext w2 w3) : w.grownBy w3 b :=
  ⟨e.os.trans h.os, e.tape.trans h.tape, e.output.trans h.output, Nat.le_trans h.size e.size, fun k hk hn => (Below.block e k (Nat.lt_of_lt_of_le hk h.size)).trans (h.block k hk hn)⟩
theorem h2A {w w2 w3 : World} {b : Option Nat} (h : w.grownBy w2 b) (h' : w2.grownBy w3 b) : w.grownBy w3 b :=
  ⟨h'.os.trans h.os, h'.tape.trans h.tape, h'.output.trans h.output, Nat.le_trans h.size h'.size, fun k hk hn => (h'.block k (Nat.lt_of_lt_of_le hk h.size) hn).trans (h.block k hk hn)⟩
theorem jsA {w w2 : World} (b : Option Nat) (e : Ext w w2) : w.grownBy w2 b :=
  ⟨e.os, e.tape, e.output, e.size, fun k hk _ => Below.block e k hk⟩
theorem rgA {w w2 : World} (h : w.grownBy w2 none) : Ext w w2 := ⟨h.os, h.tape, h.output, h.size, fun k hk => h.block k hk (by simp)⟩
theorem o9A (k : IntKind) (n : Nat) : (madeCells (Value.int k 0).cells (n * 1)).toList = (List.replicate n (0 : Int)).map (Value.int k) := by
  rw [List.map_replicate]
  refine List.ext_getElem (by simp [madeCells]) fun i h1 h2 => ?_
  simp [madeCells, Value.cells, Nat.mod_one]
theorem j3A {e : TypeId} {b n : Nat} {kl kc : IntKind} (hg : b5A l E g = some true) (hel : El P t e (.int k 0) 1 b) (hx : opE E x = .val (.int kl (n : Int))) (hy : opE E y = .val (.int kc (n : Int))) (hb : b * n ≤ 281474976710656) (hn : n ≤ 9223372036854775807)
    (h : LA P l wb K rest ((d, .pred (bjA wb.heap.size e k (List.replicate n 0))) :: E)) : LA P l wb K (⟨some d, .makeSlice t x y, ty, pos, after, g⟩ :: rest) E :=
  b0A (.pred (bjA wb.heap.size e k (List.replicate n 0))) hg (fun a w he hh => by
    have e1 := hh x (by simp [Op.operands]); have e2 := hh y (by simp [Op.operands])
    rw [hx] at e1; rw [hy] at e2; simp only [AD.ok] at e1 e2
    obtain ⟨i, hi1, hi2, hi3, hi4⟩ := hel.parts
    obtain ⟨w', g1, g2, g3⟩ := run_make_full (P := P) w wb.heap.size t e i _ 1 hel.ht hi1 hi2 hi3 kl kc n (by rw [hi4]; exact hb) (by unfold maxLen; omega) he.size
    rw [o9A] at g2
    simp only [execOp, Sem.run_bind, e1, e2, g1, Result.andThen_ok, Sem.run_pure]
    refine ⟨rgA g3, ?_⟩
    show Own _ _ _ _ _ _ _
    rw [List.length_replicate]
    exact g2) h
theorem xlA {a b : Int} (hg : b5A l E g = some true) (hx : opE E x = .val (.int k a)) (hy : opE E y = .val (.int k b)) (ha : 0 ≤ a) (hb : 0 < b) (hf : fits k (a / b)) (h : LA P l wb K rest ((d, .val (.int k (a / b))) :: E)) :
    LA P l wb K (⟨some d, .binOp .quo t x y t', ty, pos, after, g⟩ :: rest) E :=
  b0A _ hg (bcA fun ac w he hh => by
    have e1 := hh x (by simp [Op.operands]); have e2 := hh y (by simp [Op.operands])
    rw [hx] at e1; rw [hy] at e2; simp only [AD.ok] at e1 e2
    have h0 : b ≠ 0 := by omega
    simp [execOp, e1, e2, eqGuard_quo, binOp_quo, Op.intDiv, h0, Int.tdiv_eq_ediv_of_nonneg ha, ddA k _ hf]) h
theorem xkA {a b : Int} (hg : b5A l E g = some true) (hx : opE E x = .val (.int k a)) (hy : opE E y = .val (.int k b)) (ha : 0 ≤ a) (hb : 0 < b) (hf : fits k (a % b)) (h : LA P l wb K rest ((d, .val (.int k (a % b))) :: E)) :
    LA P l wb K (⟨some d, .binOp .rem t x y t', ty, pos, after, g⟩ :: rest) E :=
  b0A _ hg (bcA fun ac w he hh => by
    have e1 := hh x (by simp [Op.operands]); have e2 := hh y (by simp [Op.operands])
    rw [hx] at e1; rw [hy] at e2; simp only [AD.ok] at e1 e2
    have h0 : b ≠ 0 := by omega
    simp [execOp, e1, e2, eqGuard_rem, binOp_rem, Op.intDiv, h0, Int.tmod_eq_emod_of_nonneg ha, ddA k _ hf]) h
theorem vzA {k'' : IntKind} {a b c : Int} {ats : Array TypeId} (hg : b5A l E g = some true) (hx : opE E x = .val (.int k a)) (hy : opE E y = .val (.int k' b)) (hz : opE E z = .val (.int k'' c)) (h : LA P l wb K rest ((d, .val (.int k (min (min a b) c))) :: E)) :
    LA P l wb K (⟨some d, .call ⟨.builtin .min, #[x, y, z], ats⟩, ty, pos, after, g⟩ :: rest) E :=
  b0A _ hg (bcA fun ac w he hh => by
    have e1 := hh x (by simp [Op.operands, Call.operands]); have e2 := hh y (by simp [Op.operands, Call.operands]); have e3 := hh z (by simp [Op.operands, Call.operands])
    rw [hx] at e1; rw [hy] at e2; rw [hz] at e3; simp only [AD.ok] at e1 e2 e3
    have : (Builtin.min_ ats ty #[.int k a, .int k' b, .int k'' c]).run P w = .ok (.int k (min (min a b) c)) w := by
      have h1 : (if b < a then b else a) = min a b := by omega
      have h2 : (if c < min a b then c else min a b) = min (min a b) c := by omega
      simp [Builtin.min_, List.foldlM, Builtin.min2, h1, h2]
    simp only [execOp, resolve, Sem.run_bind, Sem.run_pure, Result.andThen_ok, List.map_toArray, List.map_cons, List.map_nil, e1, e2, e3, invoke, builtin, this]) h
end
end Go.LA
end
section
set_option linter.unusedSimpArgs false
set_option linter.unusedVariables false
namespace Go.LA
open Go.RowKit
section
variable {P : Program} {l : List Oper} {N : Nat} {wb : World} {K : List Oper → Env → Prop} {rest : List Oper} {E : Env} {Q : Exit → Act → World → Prop}
variable {d : Tmp} {dd : Option Tmp} {ty t t' : TypeId} {pos : String} {after : Array Edge} {g : Option (Nat × Bool)} {x y z : Operand} {k k' km : IntKind} {op : Op} {o o1 o2 o3 : Option Operand}
theorem oD (n : Nat) (h : LA P l wb K (⟨some n, op, ty, pos, after, g⟩ :: rest) E) : LA P l wb K (⟨some n, op, ty, pos, after, g⟩ :: rest) E := h
theorem oM (h : LA P l wb K (⟨dd, .move x, ty, pos, after, g⟩ :: rest) E) : LA P l wb K (⟨dd, .move x, ty, pos, after, g⟩ :: rest) E := h
theorem oA (h : LA P l wb K (⟨dd, .assign x, ty, pos, after, g⟩ :: rest) E) : LA P l wb K (⟨dd, .assign x, ty, pos, after, g⟩ :: rest) E := h
theorem oP (h : LA P l wb K (⟨dd, .pick x y z, ty, pos, after, g⟩ :: rest) E) : LA P l wb K (⟨dd, .pick x y z, ty, pos, after, g⟩ :: rest) E := h
theorem oN (h : LA P l wb K (⟨dd, .unOp .not t x, ty, pos, after, g⟩ :: rest) E) : LA P l wb K (⟨dd, .unOp .not t x, ty, pos, after, g⟩ :: rest) E := h
theorem oX {n : Nat} (h : LA P l wb K (⟨dd, .extract x n, ty, pos, after, g⟩ :: rest) E) : LA P l wb K (⟨dd, .extract x n, ty, pos, after, g⟩ :: rest) E := h
theorem oB (b : BinOp) (h : LA P l wb K (⟨dd, .binOp b t x y t', ty, pos, after, g⟩ :: rest) E) : LA P l wb K (⟨dd, .binOp b t x y t', ty, pos, after, g⟩ :: rest) E := h
theorem oI (h : LA P l wb K (⟨dd, .indexAddr t x y, ty, pos, after, g⟩ :: rest) E) : LA P l wb K (⟨dd, .indexAddr t x y, ty, pos, after, g⟩ :: rest) E := h
theorem oL (h : LA P l wb K (⟨dd, .load t x, ty, pos, after, g⟩ :: rest) E) : LA P l wb K (⟨dd, .load t x, ty, pos, after, g⟩ :: rest) E := h
theorem oLt (t : TypeId) (h : LA P l wb K (⟨dd, .load t x, ty, pos, after, g⟩ :: rest) E) : LA P l wb K (⟨dd, .load t x, ty, pos, after, g⟩ :: rest) E := h
theorem oF (n : Nat) (h : LA P l wb K (⟨dd, .fieldAddr t x n, ty, pos, after, g⟩ :: rest) E) : LA P l wb K (⟨dd, .fieldAddr t x n, ty, pos, after, g⟩ :: rest) E := h
theorem oV (h : LA P l wb K (⟨dd, .convert t t' x, ty, pos, after, g⟩ :: rest) E) : LA P l wb K (⟨dd, .convert t t' x, ty, pos, after, g⟩ :: rest) E := h
theorem oS (h : LA P l wb K (⟨dd, .slice t x o1 o2 o3, ty, pos, after, g⟩ :: rest) E) : LA P l wb K (⟨dd, .slice t x o1 o2 o3, ty, pos, after, g⟩ :: rest) E := h
theorem cyA {as0 : Array Operand} {ats : Array TypeId} (h : LA P l wb K (⟨dd, .call ⟨.builtin .len, as0, ats⟩, ty, pos, after, g⟩ :: rest) E) : LA P l wb K (⟨dd, .call ⟨.builtin .len, as0, ats⟩, ty, pos, after, g⟩ :: rest) E := h
theorem oC (f : FuncId) {as0 : Array Operand} {ats : Array TypeId} (h : LA P l wb K (⟨dd, .call ⟨.value (.func f), as0, ats⟩, ty, pos, after, g⟩ :: rest) E) : LA P l wb K (⟨dd, .call ⟨.value (.func f), as0, ats⟩, ty, pos, after, g⟩ :: rest) E := h
theorem oCv {fv : Operand} {as0 : Array Operand} {ats : Array TypeId} (h : LA P l wb K (⟨dd, .call ⟨.value fv, as0, ats⟩, ty, pos, after, g⟩ :: rest) E) : LA P l wb K (⟨dd, .call ⟨.value fv, as0, ats⟩, ty, pos, after, g⟩ :: rest) E := h
theorem oLA (h : LA P l wb K rest E) : LA P l wb K rest E := h
theorem oCX {c : Code} (h : CX P N wb c E Q) : CX P N wb c E Q := h
theorem oPX {e : Exit} (h : PX N wb Q e E) : PX N wb Q e E := h
theorem oLX (h : LX P N wb l Q rest E) : LX P N wb l Q rest E := h
theorem stAdd {a b : Int} (hg : b5A l E g = some true) (hx : opE E x = .val (.int k a)) (hy : opE E y = .val (.int k b)) (h : LA P l wb K rest ((d, .val (.int k (a + b))) :: E)) (hf : fits k (a + b) := by dsimp only [fits]; omega) : LA P l wb K (⟨some d, .binOp .add t x y t', ty, pos, after, g⟩ :: rest) E := ayA hg hx hy hf h
theorem stSub {a b : Int} (hg : b5A l E g = some true) (hx : opE E x = .val (.int k a)) (hy : opE E y = .val (.int k b)) (h : LA P l wb K rest ((d, .val (.int k (a - b))) :: E)) (hf : fits k (a - b) := by dsimp only [fits]; omega) : LA P l wb K (⟨some d, .binOp .sub t x y t', ty, pos, after, g⟩ :: rest) E := a9A hg hx hy hf h
theorem stMul {a b : Int} (hg : b5A l E g = some true) (hx : opE E x = .val (.int k a)) (hy : opE E y = .val (.int k b)) (h : LA P l wb K rest ((d, .val (.int k (a * b))) :: E)) (hf : fits k (a * b) := by dsimp only [fits]; omega) : LA P l wb K (⟨some d, .binOp .mul t x y t', ty, pos, after, g⟩ :: rest) E := vyA hg hx hy hf h
theorem stQuo {a b : Int} (hg : b5A l E g = some true) (hx : opE E x = .val (.int k a)) (hy : opE E y = .val (.int k b)) (h : LA P l wb K rest ((d, .val (.int k (a / b))) :: E)) (ha : 0 ≤ a := by omega) (hb : 0 < b := by omega) (hf : fits k (a / b) := by dsimp only [fits]; omega) : LA P l wb K (⟨some d, .binOp .quo t x y t', ty, pos, after, g⟩ :: rest) E := xlA hg hx hy ha hb hf h
theorem stRem {a b : Int} (hg : b5A l E g = some true) (hx : opE E x = .val (.int k a)) (hy : opE E y = .val (.int k b)) (h : LA P l wb K rest ((d, .val (.int k (a % b))) :: E)) (ha : 0 ≤ a := by omega) (hb : 0 < b := by omega) (hf : fits k (a % b) := by dsimp only [fits]; omega) : LA P l wb K (⟨some d, .binOp .rem t x y t', ty, pos, after, g⟩ :: rest) E := xkA hg hx hy ha hb hf h
theorem stShr {n m : Int} (hg : b5A l E g = some true) (hx : opE E x = .val (.int k n)) (hy : opE E y = .val (.int km m)) (h : LA P l wb K rest ((d, .val (.int k (n / 2 ^ m.toNat))) :: E)) (h0 : 0 ≤ m := by omega) (h1 : m ≤ k.bits := by dsimp only [IntKind.bits]; omega) : LA P l wb K (⟨some d, .binOp .shr t x y t', ty, pos, after, g⟩ :: rest) E := ejA hg hx hy h0 h1 h
theorem stShl {n m : Int} (hg : b5A l E g = some true) (hx : opE E x = .val (.int k n)) (hy : opE E y = .val (.int km m)) (h : LA P l wb K rest ((d, .val (.int k (k.wrap (n * 2 ^ m.toNat)))) :: E)) (h0 : 0 ≤ m := by omega) (h1 : m ≤ k.bits := by dsimp only [IntKind.bits]; omega) : LA P l wb K (⟨some d, .binOp .shl t x y t', ty, pos, after, g⟩ :: rest) E := hbA hg hx hy h0 h1 h
theorem stCnv {src dst : TypeId} {n : Int} {kd : IntKind} (hg : b5A l E g = some true) (hs : (P.underlying src).isSome = true) (hd : P.underlying dst = some (.int kd)) (hx : opE E x = .val (.int k n)) (h : LA P l wb K rest ((d, .val (.int kd n)) :: E)) (hf : fits kd n := by dsimp only [fits]; omega) : LA P l wb K (⟨some d, .convert src dst x, ty, pos, after, g⟩ :: rest) E := mhA hg hs hd hx hf h
theorem stT {b : BinOp} {m n : Int} (hg : b5A l E g = some true) (hx : opE E x = .val (.int k m)) (hy : opE E y = .val (.int k n)) (hc : ioA b = true) (h : LA P l wb K rest ((d, .val (.bool true)) :: E)) (hp : j8A b m n := by first | (dsimp only [j8A]; done) | (dsimp only [j8A]; omega)) : LA P l wb K (⟨some d, .binOp b t x y t', ty, pos, after, g⟩ :: rest) E := kzA hg hx hy hc hp h
theorem stF {b : BinOp} {m n : Int} (hg : b5A l E g = some true) (hx : opE E x = .val (.int k m)) (hy : opE E y = .val (.int k n)) (hc : ioA b = true) (h : LA P l wb K rest ((d, .val (.bool false)) :: E)) (hp : ¬ j8A b m n := by dsimp only [j8A]; omega) : LA P l wb K (⟨some d, .binOp b t x y t', ty, pos, after, g⟩ :: rest) E := g4A hg hx hy hc hp h
theorem stBET {a b : Bool} (hg : b5A l E g = some true) (ht : P.underlying t = some .bool) (hx : opE E x = .val (.bool a)) (hy : opE E y = .val (.bool b)) (h : LA P l wb K rest ((d, .val (.bool true)) :: E)) (hab : a = b := by first | rfl | assumption) : LA P l wb K (⟨some d, .binOp .eql t x y t', ty, pos, after, g⟩ :: rest) E := myA hg ht hx hy hab h
theorem stBEF {a b : Bool} (hg : b5A l E g = some true) (ht : P.underlying t = some .bool) (hx : opE E x = .val (.bool a)) (hy : opE E y = .val (.bool b)) (h : LA P l wb K rest ((d, .val (.bool false)) :: E)) (hab : a ≠ b := by first | assumption | decide) : LA P l wb K (⟨some d, .binOp .eql t x y t', ty, pos, after, g⟩ :: rest) E := mzA hg ht hx hy hab h
theorem stBNT {a b : Bool} (hg : b5A l E g = some true) (ht : P.underlying t = some .bool) (hx : opE E x = .val (.bool a)) (hy : opE E y = .val (.bool b)) (h : LA P l wb K rest ((d, .val (.bool true)) :: E)) (hab : a ≠ b := by first | assumption | decide) : LA P l wb K (⟨some d, .binOp .neq t x y t', ty, pos, after, g⟩ :: rest) E := mwA hg ht hx hy hab h
theorem stBNF {a b : Bool} (hg : b5A l E g = some true) (ht : P.underlying t = some .bool) (hx : opE E x = .val (.bool a)) (hy : opE E y = .val (.bool b)) (h : LA P l wb K rest ((d, .val (.bool false)) :: E)) (hab : a = b := by first | rfl | assumption) : LA P l wb K (⟨some d, .binOp .neq t x y t', ty, pos, after, g⟩ :: rest) E := mxA hg ht hx hy hab h
theorem stIN {xs : List Int} {j : Nat} (hg : b5A l E g = some true) (e : TypeId) (ht : P.underlying t = some (.slice e)) (hs : ∀ w, (sizeOf e).run P w = .ok 1 w) {r : AD} (hr : opE E x = r) (hi : opE E y = .val (.int k ((j : Nat) : Int))) (h : LA P l wb K rest ((d, .pred (guA [.int k' (xs.getD j 0)])) :: E))
    (hx : HasI wb r k' xs := by first | exact HasI.val (by assumption) | exact HasI.pred | exact HasI.own | exact HasI.ownV (by assumption)) (hn : j < xs.length := by omega) : LA P l wb K (⟨some d, .indexAddr t x y, ty, pos, after, g⟩ :: rest) E := asA hg e ht hs hr hx hi hn h
theorem stII {xs : List Int} {i : Int} (hg : b5A l E g = some true) (e : TypeId) (ht : P.underlying t = some (.slice e)) (hs : ∀ w, (sizeOf e).run P w = .ok 1 w) {r : AD} (hr : opE E x = r) (hi : opE E y = .val (.int k i)) (h : LA P l wb K rest ((d, .pred (guA [.int k' (xs.getD i.toNat 0)])) :: E))
    (hx : HasI wb r k' xs := by first | exact HasI.val (by assumption) | exact HasI.pred | exact HasI.own | exact HasI.ownV (by assumption)) (h0 : 0 ≤ i := by omega) (hn : i < xs.length := by omega) : LA P l wb K (⟨some d, .indexAddr t x y, ty, pos, after, g⟩ :: rest) E := glA hg e ht hs hr hx hi h0 hn h
theorem stLen {n s : Nat} {cs : List Value} (hg : b5A l E g = some true) (e : TypeId) (ht : P.underlying t = some (.slice e)) {r : AD} (hr : opE E x = r) (h : LA P l wb K rest ((d, .val (.int .i64 (n : Int))) :: E))
    (hx : HasC wb r n s cs := by first | exact (HasI.val (by assumption)).c | exact HasI.pred.c | exact HasC.val (by assumption) | exact HasC.pred | exact HasI.own.c | exact HasC.own | exact (HasI.ownV (by assumption)).c | exact HasC.ownV (by assumption)) : LA P l wb K (⟨some d, .call ⟨.builtin .len, #[x], #[t]⟩, ty, pos, after, g⟩ :: rest) E := bmA hg e ht hr hx h
theorem stSL {n s : Nat} {cs : List Value} {v : Value} {i : Int} (hg : b5A l E g = some true) (e : TypeId) (ht : P.underlying t = some (.slice e)) (hx : opE E x = .val v) (hi : opE E y = .val (.int k i)) (hs : ∀ w, (sizeOf e).run P w = .ok s w) (h : LA P l wb K rest ((d, .val (dyA v i.toNat n s)) :: E))
    (hv : HasC wb (.val v) n s cs := by first | exact (HasI.val (by assumption)).c | exact HasC.val (by assumption) | exact (HasI.ownV (by assumption)).c | exact HasC.ownV (by assumption)) (h0 : 0 ≤ i := by omega) (hn : i ≤ n := by omega) : LA P l wb K (⟨some d, .slice t x (some y) none none, ty, pos, after, g⟩ :: rest) E := cdA hg e ht hx hv hi h0 hn hs h
theorem stSH {n s : Nat} {cs : List Value} {v : Value} {i : Int} (hg : b5A l E g = some true) (e : TypeId) (ht : P.underlying t = some (.slice e)) (hx : opE E x = .val v) (hi : opE E y = .val (.int k i)) (hs : ∀ w, (sizeOf e).run P w = .ok s w) (h : LA P l wb K rest ((d, .val (dyA v 0 i.toNat s)) :: E))
    (hv : HasC wb (.val v) n s cs := by first | exact (HasI.val (by assumption)).c | exact HasC.val (by assumption) | exact (HasI.ownV (by assumption)).c | exact HasC.ownV (by assumption)) (h0 : 0 ≤ i := by omega) (hn : i ≤ n := by omega) : LA P l wb K (⟨some d, .slice t x none (some y) none, ty, pos, after, g⟩ :: rest) E := exA hg e ht hx hv hi h0 hn hs h
theorem stSLH {n s : Nat} {cs : List Value} {v : Value} {i i' : Int} (hg : b5A l E g = some true) (e : TypeId) (ht : P.underlying t = some (.slice e)) (hx : opE E x = .val v) (hi : opE E y = .val (.int k i)) (hi' : opE E z = .val (.int k' i')) (hs : ∀ w, (sizeOf e).run P w = .ok s w) (h : LA P l wb K rest ((d, .val (dyA v i.toNat i'.toNat s)) :: E))
    (hv : HasC wb (.val v) n s cs := by first | exact (HasI.val (by assumption)).c | exact HasC.val (by assumption) | exact (HasI.ownV (by assumption)).c | exact HasC.ownV (by assumption)) (h0 : 0 ≤ i := by omega) (h1 : i ≤ i' := by omega) (hn : i' ≤ n := by omega) : LA P l wb K (⟨some d, .slice t x (some y) (some z) none, ty, pos, after, g⟩ :: rest) E := mvA hg e ht hx hv hi hi' h0 h1 hn hs h
end
end Go.LA
end
section
set_option linter.unusedVariables false
namespace Go.LA
open Go.RowKit
theorem wOp {G' G : Prop} (g : G') (h : G' → G := by
  intro h
  first
  | (refine oM ?_; first | exact dbA rfl rfl h | exact sgA rfl rfl h | exact sfA rfl rfl h | exact seA rfl rfl h)
  | (refine oA ?_; first | exact i2A rfl rfl h | exact n1A rfl rfl h | exact n0A rfl rfl h)
  | (refine oP ?_; first | exact pmA rfl rfl rfl h | exact pnA rfl rfl rfl h)
  | (refine oN ?_; first | exact vwA rfl rfl h | exact vxA rfl rfl h | exact ppA rfl rfl h)
  | (refine oX ?_; first | exact w1A rfl rfl h | exact w0A rfl rfl h | exact sjA rfl rfl h | exact siA rfl rfl h | exact shA rfl rfl h)
  | (refine oB .add ?_; first | exact stAdd rfl rfl rfl h | exact l2A rfl rfl rfl h)
  | (refine oB .sub ?_; first | exact stSub rfl rfl rfl h | exact vtA rfl rfl rfl h)
  | (refine oB .mul ?_; first | exact stMul rfl rfl rfl h | exact prA rfl rfl rfl h)
  | (refine oB .quo ?_; exact stQuo rfl rfl rfl h)
  | (refine oB .rem ?_; exact stRem rfl rfl rfl h)
  | (refine oB .shr ?_; exact stShr rfl rfl rfl (by (try dsimp only [Int.reduceToNat, Int.reducePow]); exact h))
  | (refine oB .shl ?_; exact stShl rfl rfl rfl (by (try dsimp only [Int.reduceToNat, Int.reducePow]); exact h))
  | (refine oB _ ?_; first | exact stT rfl rfl rfl rfl h | exact stF rfl rfl rfl rfl h | exact stBET rfl rfl rfl rfl h | exact stBEF rfl rfl rfl rfl h | exact hhA rfl rfl rfl rfl h | exact stBNT rfl rfl rfl rfl h | exact stBNF rfl rfl rfl rfl h | exact hgA rfl rfl rfl rfl h)
  | (refine oI ?_; exact stIN rfl _ rfl (fun _ => rfl) rfl rfl h)
  | (refine oL ?_; exact dzA rfl (fun _ => rfl) rfl h)
  | (refine oV ?_; first | exact stCnv rfl rfl rfl rfl h | exact f0A rfl rfl rfl rfl h)
  | (refine cyA ?_; exact stLen rfl _ rfl rfl h)
  | (refine oI ?_; exact stII rfl _ rfl (fun _ => rfl) rfl rfl (by (try dsimp only [Int.reduceToNat, Int.toNat_natCast]); exact h))
  | (refine oS ?_; first
    | exact stSL rfl _ rfl rfl rfl (fun _ => rfl) (by (try dsimp only [Int.reduceToNat, Int.toNat_natCast]); exact h)
    | exact stSH rfl _ rfl rfl rfl (fun _ => rfl) (by (try dsimp only [Int.reduceToNat, Int.toNat_natCast]); exact h)
    | exact stSLH rfl _ rfl rfl rfl rfl (fun _ => rfl) (by (try dsimp only [Int.reduceToNat, Int.toNat_natCast]); exact h))) : G := h g
theorem wCm {G1 G2 G : Prop} (g1 : G1) (g2 : G2) (h : G1 → G2 → G := by
  intro a b
  exact xnA rfl rfl rfl rfl (by intro hc; dsimp only [j8A] at hc; revert hc; exact a) (by intro hc; dsimp only [j8A] at hc; revert hc; exact b)) : G := h g1 g2
theorem wNl {T G' G : Prop} (t : T) (g : G') (h : T → G' → G := by
  intro a b
  first | exact pqA (a [] _ (thA b)) | exact pqA (a _ b)) : G := h t g
theorem wCR {G' G : Prop} (g : G') (h : G' → G := by
  intro h
  refine oCX ?_
  first | exact q1A (by kernel_rfl) h | exact n2A (by kernel_rfl) (by kernel_rfl) h) : G := h g
theorem wG {G' G : Prop} (g : G') (h : G' → G := by
  intro h
  first
  | (refine oCX ?_; first | exact q0A h | exact w3A h | exact srA h | exact w4A h | exact xpA h | exact spA rfl h | exact sqA rfl h | exact soA h | exact snA h)
  | (refine oPX ?_; first | exact vnA h | exact s2A h | exact s3A h | exact pcA h | exact paA h | exact p9A h | exact pbA (by decide) h | exact p8A h | exact p7A h | exact p6A h)
  | (refine oLX ?_; exact thA h)) : G := h g
end Go.LA
end
section
namespace Go.ArrP
def Inc (xs : List Int) : Prop := xs.Pairwise (· < ·)
instance (xs : List Int) : Decidable (Inc xs) := inferInstanceAs (Decidable (xs.Pairwise (· < ·)))
theorem axA {xs : List Int} {i : Nat} (h : i < xs.length) : xs.getD i 0 = xs[i] := by simp [List.getD, h]
theorem lsA {xs : List Int} {i : Nat} (h : i < xs.length) : xs.getD i 0 ∈ xs := by rw [axA h]; exact List.getElem_mem h
theorem x5A {xs : List Int} (h : ∀ i, 1 ≤ i → i < xs.length → xs.getD (i - 1) 0 < xs.getD i 0) : Inc xs := by
  unfold Inc
  rw [List.pairwise_iff_getElem]
  intro i j hi hj hij
  induction j with
  | zero => omega
  | succ j ih =>
    have h1 := h (j + 1) (by omega) hj
    rw [axA hj, show j + 1 - 1 = j from rfl, axA (by omega)] at h1
    rcases Nat.lt_or_ge i j with h2 | h2
    · exact Int.lt_trans (ih (by omega) h2) h1
    · obtain rfl : i = j := by omega
      exact h1
theorem Inc.at {xs : List Int} (h : Inc xs) {i j : Nat} (hij : i < j) (hj : j < xs.length) : xs.getD i 0 < xs.getD j 0 := by
  rw [axA hj, axA (by omega)]
  exact (List.pairwise_iff_getElem.1 h) i j (by omega) hj hij
theorem kgA : Inc [] := List.Pairwise.nil
theorem inc_cons {x : Int} {xs : List Int} : Inc (x :: xs) ↔ (∀ y ∈ xs, x < y) ∧ Inc xs := List.pairwise_cons
theorem ffA : ∀ {xs ys : List Int}, Inc xs → Inc ys → (∀ x, x ∈ xs ↔ x ∈ ys) → xs = ys
  | [], [], _, _, _ => rfl
  | [], y :: ys, _, _, h => by have := (h y).2 (by simp); cases this
  | x :: xs, [], _, _, h => by have := (h x).1 (by simp); cases this
  | x :: xs, y :: ys, hx, hy, h => by
    obtain ⟨hx1, hx2⟩ := inc_cons.1 hx
    obtain ⟨hy1, hy2⟩ := inc_cons.1 hy
    have e : x = y := by
      have h1 := (h x).1 (by simp)
      have h2 := (h y).2 (by simp)
      simp only [List.mem_cons] at h1 h2
      rcases h1 with h1 | h1
      · exact h1
      · rcases h2 with h2 | h2
        · exact h2.symm
        · have := hy1 x h1; have := hx1 y h2; omega
    subst e
    congr 1
    refine ffA hx2 hy2 fun z => ⟨fun hz => ?_, fun hz => ?_⟩
    · have := (h z).1 (by simp [hz])
      simp only [List.mem_cons] at this
      rcases this with rfl | h'
      · have := hx1 z hz; omega
      · exact h'
    · have := (h z).2 (by simp [hz])
      simp only [List.mem_cons] at this
      rcases this with rfl | h'
      · have := hy1 z hz; omega
      · exact h'
def awA (f : Bool → Bool → Bool) : List Int → List Int → List Int
  | [], [] => []
  | x :: a, [] => (if f true false then [x] else []) ++ awA f a []
  | [], y :: b => (if f false true then [y] else []) ++ awA f [] b
  | x :: a, y :: b =>
    if x < y then (if f true false then [x] else []) ++ awA f a (y :: b)
    else if y < x then (if f false true then [y] else []) ++ awA f (x :: a) b
    else (if f true true then [y] else []) ++ awA f a b
termination_by a b => a.length + b.length
theorem fbA {p : Bool} {x z : Int} : z ∈ (if p then [x] else []) ↔ p = true ∧ z = x := by
  cases p <;> simp
theorem eqA (f : Bool → Bool → Bool) (a b : List Int) : ∀ z ∈ awA f a b, z ∈ a ∨ z ∈ b := by
  fun_induction awA f a b with
  | case1 => intro z hz; cases hz
  | case2 x a ih => intro z hz; rw [List.mem_append, fbA] at hz; rcases hz with ⟨_, rfl⟩ | hz; · simp
                    · rcases ih z hz with h | h <;> simp_all
  | case3 y b ih => intro z hz; rw [List.mem_append, fbA] at hz; rcases hz with ⟨_, rfl⟩ | hz; · simp
                    · rcases ih z hz with h | h <;> simp_all
  | case4 x a y b h ih => intro z hz; rw [List.mem_append, fbA] at hz; rcases hz with ⟨_, rfl⟩ | hz; · simp
                          · rcases ih z hz with h | h <;> simp_all
  | case5 x a y b h h' ih => intro z hz; rw [List.mem_append, fbA] at hz; rcases hz with ⟨_, rfl⟩ | hz; · simp
                             · rcases ih z hz with h | h <;> simp_all
  | case6 x a y b h h' ih => intro z hz; rw [List.mem_append, fbA] at hz; rcases hz with ⟨_, rfl⟩ | hz; · simp
                             · rcases ih z hz with h | h <;> simp_all
theorem jkA (f : Bool → Bool → Bool) (hf : f false false = false) (a b : List Int) : Inc a → Inc b → ∀ z, z ∈ awA f a b ↔ f (decide (z ∈ a)) (decide (z ∈ b)) = true := by
  fun_induction awA f a b with
  | case1 => intro _ _ z; simp [hf]
  | case2 x a ih =>
    intro ha hb z
    obtain ⟨h1, h2⟩ := inc_cons.1 ha
    rw [List.mem_append, fbA, ih h2 hb]
    by_cases e : z = x
    · subst e
      have : z ∉ a := fun h => by have := h1 z h; omega
      simp [this, hf]
    · simp [e]
  | case3 y b ih =>
    intro ha hb z
    obtain ⟨h1, h2⟩ := inc_cons.1 hb
    rw [List.mem_append, fbA, ih ha h2]
    by_cases e : z = y
    · subst e
      have : z ∉ b := fun h => by have := h1 z h; omega
      simp [this, hf]
    · simp [e]
  | case4 x a y b h ih =>
    intro ha hb z
    obtain ⟨h1, h2⟩ := inc_cons.1 ha
    obtain ⟨h3, h4⟩ := inc_cons.1 hb
    rw [List.mem_append, fbA, ih h2 hb]
    by_cases e : z = x
    · subst e
      have n1 : z ∉ a := fun h => by have := h1 z h; omega
      have n2 : z ∉ y :: b := fun h' => by
        simp only [List.mem_cons] at h'
        rcases h' with h' | h'
        · omega
        · have := h3 z h'; omega
      simp only [n1, n2, List.mem_cons, true_or, decide_true, decide_false, hf]; simp
    · simp [e]
  | case5 x a y b h h' ih =>
    intro ha hb z
    obtain ⟨h1, h2⟩ := inc_cons.1 ha
    obtain ⟨h3, h4⟩ := inc_cons.1 hb
    rw [List.mem_append, fbA, ih ha h4]
    by_cases e : z = y
    · subst e
      have n1 : z ∉ b := fun h => by have := h3 z h; omega
      have n2 : z ∉ x :: a := fun h' => by
        simp only [List.mem_cons] at h'
        rcases h' with h' | h'
        · omega
        · have := h1 z h'; omega
      simp only [n1, n2, List.mem_cons, true_or, decide_true, decide_false, hf]; simp
    · simp [e]
  | case6 x a y b h h' ih =>
    intro ha hb z
    obtain ⟨h1, h2⟩ := inc_cons.1 ha
    obtain ⟨h3, h4⟩ := inc_cons.1 hb
    obtain rfl : x = y := by omega
    rw [List.mem_append, fbA, ih h2 h4]
    by_cases e : z = x
    · subst e
      have n1 : z ∉ a := fun h => by have := h1 z h; omega
      have n2 : z ∉ b := fun h => by have := h3 z h; omega
      simp [n1, n2, hf]
    · simp [e]
theorem d3A {p : Bool} {x : Int} {l : List Int} (h : Inc l) (hx : ∀ z ∈ l, x < z) : Inc ((if p then [x] else []) ++ l) := by
  cases p
  · simpa using h
  · exact inc_cons.2 ⟨hx, h⟩
theorem o3A (f : Bool → Bool → Bool) (a b : List Int) : Inc a → Inc b → Inc (awA f a b) := by
  fun_induction awA f a b with
  | case1 => intro _ _; exact kgA
  | case2 x a ih =>
    intro ha hb
    obtain ⟨h1, h2⟩ := inc_cons.1 ha
    exact d3A (ih h2 hb) fun z hz => by rcases eqA f _ _ z hz with h | h; · exact h1 z h
                                        · cases h
  | case3 y b ih =>
    intro ha hb
    obtain ⟨h1, h2⟩ := inc_cons.1 hb
    exact d3A (ih ha h2) fun z hz => by rcases eqA f _ _ z hz with h | h; · cases h
                                        · exact h1 z h
  | case4 x a y b h ih =>
    intro ha hb
    obtain ⟨h1, h2⟩ := inc_cons.1 ha
    obtain ⟨h3, h4⟩ := inc_cons.1 hb
    exact d3A (ih h2 hb) fun z hz => by
      rcases eqA f _ _ z hz with h' | h'
      · exact h1 z h'
      · simp only [List.mem_cons] at h'
        rcases h' with rfl | h'
        · exact h
        · have := h3 z h'; omega
  | case5 x a y b h h' ih =>
    intro ha hb
    obtain ⟨h1, h2⟩ := inc_cons.1 ha
    obtain ⟨h3, h4⟩ := inc_cons.1 hb
    exact d3A (ih ha h4) fun z hz => by
      rcases eqA f _ _ z hz with h'' | h''
      · simp only [List.mem_cons] at h''
        rcases h'' with rfl | h''
        · exact h'
        · have := h1 z h''; omega
      · exact h3 z h''
  | case6 x a y b h h' ih =>
    intro ha hb
    obtain ⟨h1, h2⟩ := inc_cons.1 ha
    obtain ⟨h3, h4⟩ := inc_cons.1 hb
    obtain rfl : x = y := by omega
    exact d3A (ih h2 h4) fun z hz => by
      rcases eqA f _ _ z hz with h'' | h''
      · exact h1 z h''
      · exact h3 z h''
theorem o6A (f : Bool → Bool → Bool) {a b : List Int} (ha : 0 < a.length) (hb : b.length = 0) : awA f a b = (if f true false then [a.getD 0 0] else []) ++ awA f (a.drop 1) b := by
  cases a with
  | nil => simp at ha
  | cons x a =>
    obtain rfl : b = [] := List.eq_nil_of_length_eq_zero hb
    simp [awA]
theorem o5A (f : Bool → Bool → Bool) {a b : List Int} (ha : a.length = 0) (hb : 0 < b.length) : awA f a b = (if f false true then [b.getD 0 0] else []) ++ awA f a (b.drop 1) := by
  cases b with
  | nil => simp at hb
  | cons x b =>
    obtain rfl : a = [] := List.eq_nil_of_length_eq_zero ha
    simp [awA]
theorem lpA (f : Bool → Bool → Bool) {a b : List Int} (ha : 0 < a.length) (hb : 0 < b.length) (h : a.getD 0 0 < b.getD 0 0) : awA f a b = (if f true false then [a.getD 0 0] else []) ++ awA f (a.drop 1) b := by
  cases a with
  | nil => simp at ha
  | cons x a =>
    cases b with
    | nil => simp at hb
    | cons y b =>
      simp only [List.getD_cons_zero] at h
      simp [awA, h]
theorem lqA (f : Bool → Bool → Bool) {a b : List Int} (ha : 0 < a.length) (hb : 0 < b.length) (h : b.getD 0 0 < a.getD 0 0) : awA f a b = (if f false true then [b.getD 0 0] else []) ++ awA f a (b.drop 1) := by
  cases a with
  | nil => simp at ha
  | cons x a =>
    cases b with
    | nil => simp at hb
    | cons y b =>
      simp only [List.getD_cons_zero] at h
      have h' : ¬ x < y := by omega
      simp [awA, h, h']
theorem lrA (f : Bool → Bool → Bool) {a b : List Int} (ha : 0 < a.length) (hb : 0 < b.length) (h : a.getD 0 0 = b.getD 0 0) : awA f a b = (if f true true then [b.getD 0 0] else []) ++ awA f (a.drop 1) (b.drop 1) := by
  cases a with
  | nil => simp at ha
  | cons x a =>
    cases b with
    | nil => simp at hb
    | cons y b =>
      simp only [List.getD_cons_zero] at h
      subst h
      have h' : ¬ x < x := by omega
      simp [awA]
def fOr (_ _ : Bool) : Bool := true
def q3A (_ b : Bool) : Bool := !b
def fOr' (a b : Bool) : Bool := a || b
theorem gwA (f g : Bool → Bool → Bool) (h1 : f true false = g true false) (h2 : f false true = g false true) (h3 : f true true = g true true) (a b : List Int) : awA f a b = awA g a b := by
  fun_induction awA f a b with
  | case1 => simp [awA]
  | case2 x a ih => rw [awA, ih, h1]
  | case3 y b ih => rw [awA, ih, h2]
  | case4 x a y b h ih => rw [awA, if_pos h, ih, h1]
  | case5 x a y b h h' ih => rw [awA, if_neg h, if_pos h', ih, h2]
  | case6 x a y b h h' ih => rw [awA, if_neg h, if_neg h', ih, h3]
theorem qwA (a b : List Int) : awA fOr a b = awA fOr' a b := gwA fOr fOr' rfl rfl rfl a b
section
variable {a b : List Int} (ha : Inc a) (hb : Inc b)
include ha hb
theorem wzA (z : Int) : z ∈ awA fOr a b ↔ z ∈ a ∨ z ∈ b := by rw [qwA, jkA fOr' rfl a b ha hb]; simp [fOr']
end
def rfA (a b : Bool) : Bool := a && !b
theorem o2A (f : Bool → Bool → Bool) (hf : f = q3A) (a b : List Int) : awA f a b = awA rfA a b := by subst hf; exact gwA q3A rfA rfl rfl rfl a b
theorem unA {a b : List Int} (ha : Inc a) (hb : Inc b) (z : Int) : z ∈ awA q3A a b ↔ z ∈ a ∧ ¬ z ∈ b := by
  rw [o2A q3A rfl, jkA rfA rfl a b ha hb]; simp [rfA]
def bsGo (xs : List Int) (x : Int) (i j : Nat) : Nat :=
  if i < j then (if xs.getD ((i + j) / 2) 0 < x then bsGo xs x ((i + j) / 2 + 1) j else bsGo xs x i ((i + j) / 2)) else i
termination_by j - i
def bsS (xs : List Int) (x : Int) : Nat := bsGo xs x 0 xs.length
theorem vgA (xs : List Int) (x : Int) (i j : Nat) : i ≤ j → i ≤ bsGo xs x i j ∧ bsGo xs x i j ≤ j := by
  fun_induction bsGo xs x i j with
  | case1 i j h h' ih => intro _; have := ih (by omega); omega
  | case2 i j h h' ih => intro _; have := ih (by omega); omega
  | case3 i j h => intro _; omega
theorem m8A (xs : List Int) (x : Int) : bsS xs x ≤ xs.length := (vgA xs x 0 xs.length (Nat.zero_le _)).2
theorem bsGo_spec (xs : List Int) (x : Int) (hs : Inc xs) (i j : Nat) : i ≤ j → j ≤ xs.length → (∀ k, k < i → xs.getD k 0 < x) → (∀ k, j ≤ k → k < xs.length → x ≤ xs.getD k 0) →
    (∀ k, k < bsGo xs x i j → xs.getD k 0 < x) ∧ (∀ k, bsGo xs x i j ≤ k → k < xs.length → x ≤ xs.getD k 0) := by
  fun_induction bsGo xs x i j with
  | case1 i j h h' ih =>
    intro h1 h2 h3 h4
    refine ih (by omega) h2 (fun k hk => ?_) h4
    rcases Nat.lt_or_ge k ((i + j) / 2) with h5 | h5
    · exact Int.lt_trans (hs.at h5 (by omega)) h'
    · obtain rfl : k = (i + j) / 2 := by omega
      exact h'
  | case2 i j h h' ih =>
    intro h1 h2 h3 h4
    refine ih (by omega) (by omega) h3 (fun k hk hk' => ?_)
    rcases Nat.lt_or_ge ((i + j) / 2) k with h5 | h5
    · have := hs.at h5 hk'; omega
    · obtain rfl : k = (i + j) / 2 := by omega
      omega
  | case3 i j h => intro h1 h2 h3 h4; exact ⟨h3, fun k hk hk' => h4 k (by omega) hk'⟩
theorem giA {xs : List Int} (x : Int) (hs : Inc xs) : (∀ k, k < bsS xs x → xs.getD k 0 < x) ∧ (∀ k, bsS xs x ≤ k → k < xs.length → x ≤ xs.getD k 0) :=
  bsGo_spec xs x hs 0 xs.length (Nat.zero_le _) (Nat.le_refl _) (fun k hk => by omega) (fun k hk hk' => by omega)
def crA (xs : List Int) (x : Int) : Bool := decide (bsS xs x < xs.length ∧ xs.getD (bsS xs x) 0 = x)
theorem e5A {xs : List Int} (x : Int) (hs : Inc xs) : crA xs x = decide (x ∈ xs) := by
  obtain ⟨h1, h2⟩ := giA x hs
  unfold crA
  rw [decide_eq_decide]
  constructor
  · rintro ⟨h3, h4⟩
    rw [axA h3] at h4
    exact h4 ▸ List.getElem_mem h3
  · intro hm
    obtain ⟨k, hk, he⟩ := List.getElem_of_mem hm
    have hge : ¬ k < bsS xs x := fun h => by have := h1 k h; rw [axA hk] at this; omega
    have hlt : bsS xs x < xs.length := by omega
    refine ⟨hlt, ?_⟩
    have h3 := h2 (bsS xs x) (Nat.le_refl _) hlt
    rcases Nat.lt_or_ge (bsS xs x) k with h4 | h4
    · have := hs.at h4 hk; rw [axA hk] at this; omega
    · obtain rfl : k = bsS xs x := by omega
      rw [axA hk]; exact he
def gsA (xs : List Int) (i : Nat) : Bool := decide (i = 0 ∨ xs.getD i 0 ≠ (xs.getD (i - 1) 0 + 1) % 65536)
def g8A (xs : List Int) (k : Nat) : Nat := ((List.range k).filter (gsA xs)).length
def tzA (xs : List Int) : Nat := g8A xs xs.length
theorem gpA (xs : List Int) (k : Nat) : g8A xs (k + 1) = g8A xs k + if gsA xs k then 1 else 0 := by
  unfold g8A
  rw [List.range_succ, List.filter_append, List.length_append]
  cases h : gsA xs k <;> simp [h]
theorem nlA (xs : List Int) (k : Nat) : g8A xs k ≤ k := by
  unfold g8A
  have := List.length_filter_le (gsA xs) (List.range k)
  simpa using this
end Go.ArrP
end
section
set_option linter.unusedSimpArgs false
set_option linter.unusedVariables false
namespace Go.LA
open Go.RowKit Go.ArrP
def cnt (p : Nat → Bool) : Nat → Nat
  | 0 => 0
  | n + 1 => cnt p n + if p n then 1 else 0
def adA (p : Nat → Bool) : Nat → List Int
  | 0 => []
  | n + 1 => adA p n ++ if p n then [(n : Int)] else []
theorem cnt_le (p : Nat → Bool) : ∀ n, cnt p n ≤ n
  | 0 => Nat.le_refl _
  | n + 1 => by have := cnt_le p n; simp only [cnt]; split <;> omega
theorem cnt_mono (p : Nat → Bool) {m : Nat} : ∀ n, m ≤ n → cnt p m ≤ cnt p n
  | 0, h => by obtain rfl : m = 0 := by omega
               exact Nat.le_refl _
  | n + 1, h => by
    rcases Nat.lt_or_ge n m with h1 | h1
    · obtain rfl : m = n + 1 := by omega
      exact Nat.le_refl _
    · have := cnt_mono p n h1; simp only [cnt]; omega
theorem baA (p : Nat → Bool) : ∀ n, (adA p n).length = cnt p n
  | 0 => rfl
  | n + 1 => by simp only [adA, cnt, List.length_append, baA p n]; split <;> rfl
theorem buA (p : Nat → Bool) (z : Int) : ∀ n, z ∈ adA p n ↔ ∃ i : Nat, i < n ∧ p i = true ∧ z = i
  | 0 => by simp [adA]
  | n + 1 => by
    simp only [adA, List.mem_append, buA p z n]
    constructor
    · rintro (⟨i, h1, h2, h3⟩ | h)
      · exact ⟨i, by omega, h2, h3⟩
      · split at h
        · rename_i hp; simp at h; exact ⟨n, by omega, hp, h⟩
        · simp at h
    · rintro ⟨i, h1, h2, h3⟩
      by_cases e : i = n
      · subst e; right; simp [h2, h3]
      · left; exact ⟨i, by omega, h2, h3⟩
theorem bfA (p : Nat → Bool) : ∀ n, Inc (adA p n)
  | 0 => kgA
  | n + 1 => by
    have ih := bfA p n
    simp only [adA]
    split
    · refine List.pairwise_append.2 ⟨ih, List.pairwise_singleton _ _, fun a ha b hb => ?_⟩
      obtain ⟨i, h1, h2, h3⟩ := (buA p a n).1 ha
      simp at hb; omega
    · simpa using ih
theorem ccA {p q : Nat → Bool} : ∀ n, (∀ i, i < n → p i = q i) → cnt p n = cnt q n
  | 0, _ => rfl
  | n + 1, h => by simp only [cnt, ccA n (fun i hi => h i (by omega)), h n (by omega)]
theorem cxA {p q : Nat → Bool} : ∀ n, (∀ i, i < n → p i = q i) → adA p n = adA q n
  | 0, _ => rfl
  | n + 1, h => by simp only [adA, cxA n (fun i hi => h i (by omega)), h n (by omega)]
theorem dgA {p : Nat → Bool} : ∀ n, (∀ i, i < n → p i = false) → cnt p n = 0
  | 0, _ => rfl
  | n + 1, h => by simp [cnt, dgA n (fun i hi => h i (by omega)), h n (by omega)]
def bkA (xs : List Int) (i : Nat) : Bool := decide ((i : Int) ∈ xs)
def Low (xs : List Int) : Prop := ∀ x ∈ xs, 0 ≤ x ∧ x < 65536
theorem hxA {xs : List Int} (h : Inc xs) (hl : Low xs) : adA (bkA xs) 65536 = xs := by
  refine ffA (bfA _ _) h fun z => ?_
  rw [buA]
  constructor
  · rintro ⟨i, h1, h2, rfl⟩; simpa [bkA] using h2
  · intro hz
    have := hl z hz
    exact ⟨z.toNat, by omega, by simp only [bkA]; rw [show ((z.toNat : Nat) : Int) = z by omega]; simpa using hz, by omega⟩
theorem c6A (p : Nat → Bool) {i : Nat} (hi : i < 65536) : bkA (adA p 65536) i = p i := by
  simp only [bkA]
  rw [Bool.eq_iff_iff, decide_eq_true_eq, buA]
  constructor
  · rintro ⟨j, h1, h2, h3⟩
    obtain rfl : i = j := by omega
    exact h2
  · exact fun h => ⟨i, hi, h, rfl⟩
theorem ckA (p : Nat → Bool) : Low (adA p 65536) := fun x hx => by
  obtain ⟨i, h1, _, h3⟩ := (buA p x _).1 hx
  omega
def biA (p : Nat → Bool) (i : Nat) : Bool := p i && (i == 0 || !p (i - 1))
theorem f4A (p : Nat → Bool) : ∀ (n i : Nat), i < n → p i = true → (adA p n).getD (cnt p i) 0 = i
  | 0, i, h, _ => by omega
  | n + 1, i, h, hp => by
    simp only [adA]
    rcases Nat.lt_or_ge i n with h1 | h1
    · have ih := f4A p n i h1 hp
      have hlt : cnt p i < (adA p n).length := by
        rw [baA]
        have := cnt_mono p (m := i + 1) n (by omega)
        simp only [cnt, hp, if_true] at this; omega
      rw [List.getD, List.getElem?_append_left hlt]; exact ih
    · obtain rfl : i = n := by omega
      rw [List.getD, List.getElem?_append_right (by rw [baA]; exact Nat.le_refl _), baA, hp]; simp
theorem e3A (p : Nat → Bool) : ∀ (n k : Nat), k < cnt p n → ∃ i : Nat, i < n ∧ p i = true ∧ cnt p i = k ∧ (adA p n).getD k 0 = i
  | 0, k, h => by simp [cnt] at h
  | n + 1, k, h => by
    by_cases h1 : k < cnt p n
    · obtain ⟨i, h2, h3, h4, h5⟩ := e3A p n k h1
      exact ⟨i, by omega, h3, h4, by rw [← h4]; exact f4A p (n + 1) i (by omega) h3⟩
    · cases hp : p n
      · simp [cnt, hp] at h; omega
      · simp only [cnt, hp, if_true] at h
        have : cnt p n = k := by omega
        exact ⟨n, by omega, hp, this, by rw [← this]; exact f4A p (n + 1) n (by omega) hp⟩
theorem rsA {xs : List Int} (x : Int) (h : Inc xs) {i : Nat} (hi : i ≤ xs.length) (h1 : ∀ k, k < i → xs.getD k 0 < x) (h2 : ∀ k, i ≤ k → k < xs.length → x ≤ xs.getD k 0) : bsS xs x = i := by
  obtain ⟨g1, g2⟩ := giA x h
  have g3 := m8A xs x
  rcases Nat.lt_trichotomy (bsS xs x) i with h3 | h3 | h3
  · have a := h1 (bsS xs x) h3; have b := g2 (bsS xs x) (Nat.le_refl _) (by omega); omega
  · exact h3
  · have a := g1 i h3; have b := h2 i (Nat.le_refl _) (by omega); omega
theorem hyA (p : Nat → Bool) {n k : Nat} (h : k < cnt p n) : ∃ i : Nat, i < n ∧ p i = true ∧ cnt p i = k ∧ (adA p n).getD k 0 = i := e3A p n k h
theorem h7A (p : Nat → Bool) (x : Nat) (hx : x ≤ 65536) : bsS (adA p 65536) x = cnt p x := by
  refine rsA x (bfA _ _) (by rw [baA]; exact cnt_mono p _ hx) (fun k hk => ?_) (fun k h1 h2 => ?_)
  · obtain ⟨i, g1, g2, g3, g4⟩ := e3A p 65536 k (Nat.lt_of_lt_of_le hk (cnt_mono p _ hx))
    rw [g4]
    rcases Nat.lt_or_ge i x with h | h
    · omega
    · have := cnt_mono p (m := x) i h; omega
  · rw [baA] at h2
    obtain ⟨i, g1, g2, g3, g4⟩ := e3A p 65536 k h2
    rw [g4]
    rcases Nat.lt_or_ge i x with h | h
    · have := cnt_mono p (m := i + 1) x h
      simp only [cnt, g2, if_true] at this; omega
    · omega
def marks (p : Nat → Bool) : Array Value := ((List.range 65536).map (fun i => Value.bool (p i))).toArray
def MkI (base e : Nat) (w : World) (v : Value) (p : Nat → Bool) : Prop := ∃ b, v = .pointer (some ⟨b, 0, none⟩) ∧ base ≤ b ∧ w.heap[b]? = some (.cells (marks p) e (0, 0))
theorem MkI.ext {base e : Nat} {w w' : World} {v : Value} {p : Nat → Bool} (h : MkI base e w v p) (x : Ext w w') : MkI base e w' v p := by
  obtain ⟨b, h1, h2, h3⟩ := h
  exact ⟨b, h1, h2, x.block h3⟩
theorem MkI.base {base base' e : Nat} {w : World} {v : Value} {p : Nat → Bool} (h : MkI base e w v p) (hb : base' ≤ base) : MkI base' e w v p := by
  obtain ⟨b, h1, h2, h3⟩ := h
  exact ⟨b, h1, Nat.le_trans hb h2, h3⟩
structure Fr (R : Nat → Prop) (w w' : World) : Prop where
  os : w'.os = w.os
  tape : w'.tape = w.tape
  output : w'.output = w.output
  size : w.heap.size ≤ w'.heap.size
  block : ∀ k, k < w.heap.size → ¬ R k → w'.heap[k]? = w.heap[k]?
theorem Fr.of {R : Nat → Prop} {w w' : World} (e : Ext w w') : Fr R w w' := ⟨e.os, e.tape, e.output, e.size, fun k hk _ => Below.block e k hk⟩
theorem Fr.trans {R : Nat → Prop} {w w' w'' : World} (h : Fr R w w') (h' : Fr R w' w'') : Fr R w w'' :=
  ⟨h'.os.trans h.os, h'.tape.trans h.tape, h'.output.trans h.output, Nat.le_trans h.size h'.size, fun k hk hn => (h'.block k (Nat.lt_of_lt_of_le hk h.size) hn).trans (h.block k hk hn)⟩
theorem Fr.mono {R R' : Nat → Prop} {w w' : World} (h : Fr R w w') (hr : ∀ k, R k → R' k) : Fr R' w w' := ⟨h.os, h.tape, h.output, h.size, fun k hk hn => h.block k hk (fun h' => hn (hr k h'))⟩
theorem Fr.setRow {R : Nat → Prop} {w w' : World} (h : Fr R w w') {b : Nat} (hb : R b) (cs : Array Value) : Fr R w (w'.setRow b cs) :=
  ⟨h.os, h.tape, h.output, by simpa using h.size, fun k hk hn => (setRow_other w' b k cs (fun e => hn (e ▸ hb))).trans (h.block k hk hn)⟩
theorem Fr.ext {R : Nat → Prop} {w0 w w' : World} (e : Ext w0 w) (h : Fr R w w') (hr : ∀ k, R k → w0.heap.size ≤ k) : Ext w0 w' :=
  ⟨h.os.trans e.os, h.tape.trans e.tape, h.output.trans e.output, Nat.le_trans e.size h.size, fun k hk => (h.block k (Nat.lt_of_lt_of_le hk e.size) (fun h' => by have := hr k h'; omega)).trans (Below.block e k hk)⟩
theorem Fr.at {R : Nat → Prop} {w w' : World} (h : Fr R w w') {b : Nat} {o : Obj} (hb : w.heap[b]? = some o) (hn : ¬ R b) : w'.heap[b]? = some o :=
  (h.block b (Array.getElem?_eq_some_iff.1 hb).1 hn).trans hb
theorem Fr.own {R : Nat → Prop} {w w' : World} (h : Fr R w w') {base e s n : Nat} {v : Value} {cs : List Value} (ho : Own base e s w v n cs) (hn : ∀ k, v.ownBlock = some k → ¬ R k) : Own base e s w' v n cs := by
  refine ⟨ho.1, ?_⟩
  rcases ho.2 with h0 | ⟨g, cap, cur, rfl, hb, hg, r⟩
  · exact .inl h0
  · exact .inr ⟨g, cap, cur, rfl, hb, h.at hg (hn g rfl), r⟩
theorem npA {k : IntKind} {cur : Array Value} {xs : List Int} (h : cur.toList.take xs.length = xs.map (Value.int k)) {i : Nat} (hi : i < xs.length) : cur[i]? = some (.int k (xs.getD i 0)) := by
  have h1 := congrArg (fun l => l[i]?) h
  simp only [List.getElem?_take, if_pos hi, List.getElem?_map, List.getElem?_eq_getElem hi, Option.map_some] at h1
  rw [← Array.getElem?_toList, h1]
  simp [List.getD, List.getElem?_eq_getElem hi]
end Go.LA
attribute [irreducible] Go.LA.marks
end
section
set_option linter.unusedSimpArgs false
set_option linter.unusedVariables false
namespace Go.LA
open Go.RowKit
theorem msA (k a b c d : Nat) (ha : a < 2 ^ k) (hc : c < 2 ^ k) : (a + 2 ^ k * b) &&& (c + 2 ^ k * d) = (a &&& c) + 2 ^ k * (b &&& d) := by
  have hac : a &&& c < 2 ^ k := Nat.lt_of_le_of_lt Nat.and_le_left ha
  apply Nat.eq_of_testBit_eq
  intro i
  rw [Nat.testBit_and, Nat.add_comm a, Nat.add_comm c, Nat.add_comm (a &&& c), Nat.testBit_two_pow_mul_add _ ha, Nat.testBit_two_pow_mul_add _ hc, Nat.testBit_two_pow_mul_add _ hac]
  by_cases h : i < k
  · simp [h, Nat.testBit_and]
  · simp [h, Nat.testBit_and]
theorem dmA (a b c d : Nat) (ha : a < 256) (hc : c < 256) : (a + 256 * b) &&& (c + 256 * d) = (a &&& c) + 256 * (b &&& d) := msA 8 a b c d ha hc
def y1 (m x : Nat) : Nat := (x / 2 &&& m) + (x &&& m)
def y2 (m x : Nat) : Nat := (x / 4 &&& m) + (x &&& m)
def y3 (m x : Nat) : Nat := (x / 16 + x) &&& m
theorem q6A (a b m : Nat) (ha : a < 256) : y1 (85 + 256 * m) (a + 256 * b) = y1 85 a + 256 * y1 m b := by
  have e : (a + 256 * b) / 2 = (a / 2 + 128 * (b % 2)) + 256 * (b / 2) := by omega
  have f : ∀ c, c < 128 → ∀ t, t < 2 → (c + 128 * t) &&& 85 = c &&& 85 := by decide +kernel
  unfold y1
  rw [e, dmA _ _ _ _ (by omega) (by omega), dmA _ _ _ _ ha (by omega), f _ (by omega) _ (by omega)]
  omega
theorem q5A (a b m : Nat) (ha : a < 256) : y2 (51 + 256 * m) (a + 256 * b) = y2 51 a + 256 * y2 m b := by
  have e : (a + 256 * b) / 4 = (a / 4 + 64 * (b % 4)) + 256 * (b / 4) := by omega
  have f : ∀ c, c < 64 → ∀ t, t < 4 → (c + 64 * t) &&& 51 = c &&& 51 := by decide +kernel
  unfold y2
  rw [e, dmA _ _ _ _ (by omega) (by omega), dmA _ _ _ _ ha (by omega), f _ (by omega) _ (by omega)]
  omega
theorem q4A (a b m : Nat) (ha : a ≤ 68) (hb : b % 16 ≤ 4) : y3 (15 + 256 * m) (a + 256 * b) = y3 15 a + 256 * y3 m b := by
  have e : (a + 256 * b) / 16 + (a + 256 * b) = (a / 16 + a + 16 * (b % 16)) + 256 * (b / 16 + b) := by omega
  have f : ∀ c, c ≤ 72 → ∀ t, t ≤ 4 → (c + 16 * t) &&& 15 = c &&& 15 := by decide +kernel
  unfold y3
  rw [e, dmA _ _ _ _ (by omega) (by omega), f _ (by omega) _ (by omega)]
def pop8 (a : Nat) : Nat := cnt (fun i => a.testBit i) 8
theorem p0A : ∀ a, a < 256 → y1 85 a < 256 ∧ y2 51 (y1 85 a) ≤ 68 ∧ y2 51 (y1 85 a) % 16 ≤ 4 ∧ y3 15 (y2 51 (y1 85 a)) = pop8 a := by decide +kernel
def mk8 (c : Nat) : Nat → Nat
  | 0 => 0
  | n + 1 => c + 256 * mk8 c n
def popB : Nat → Nat → Nat
  | 0, _ => 0
  | n + 1, x => pop8 (x % 256) + 256 * popB n (x / 256)
theorem swar : ∀ n x, x < 256 ^ n → y3 (mk8 15 n) (y2 (mk8 51 n) (y1 (mk8 85 n) x)) = popB n x ∧ y2 (mk8 51 n) (y1 (mk8 85 n) x) % 16 ≤ 4
  | 0, x, h => by
    have : x = 0 := by simpa using h
    subst this; exact ⟨rfl, by decide⟩
  | n + 1, x, h => by
    have hx : x / 256 < 256 ^ n := by rw [Nat.pow_succ] at h; omega
    obtain ⟨h1, h2⟩ := swar n (x / 256) hx
    obtain ⟨g1, g2, g3, g4⟩ := p0A (x % 256) (by omega)
    have ex : x = x % 256 + 256 * (x / 256) := by omega
    have s1 : y1 (mk8 85 (n + 1)) x = y1 85 (x % 256) + 256 * y1 (mk8 85 n) (x / 256) := by
      conv => lhs; rw [ex]
      exact q6A _ _ _ (by omega)
    have s2 : y2 (mk8 51 (n + 1)) (y1 (mk8 85 (n + 1)) x) = y2 51 (y1 85 (x % 256)) + 256 * y2 (mk8 51 n) (y1 (mk8 85 n) (x / 256)) := by
      rw [s1]; exact q5A _ _ _ g1
    rw [s2]
    refine ⟨?_, by omega⟩
    have s3 := q4A (y2 51 (y1 85 (x % 256))) (y2 (mk8 51 n) (y1 (mk8 85 n) (x / 256))) (mk8 15 n) g2 h2
    simp only [popB]
    rw [← g4, ← h1]
    exact s3
theorem emA (a : Nat) : pop8 a ≤ 8 := cnt_le _ _
theorem e7A (p : Nat → Bool) (m : Nat) : ∀ n, cnt p (m + n) = cnt p m + cnt (fun i => p (m + i)) n
  | 0 => rfl
  | n + 1 => by rw [← Nat.add_assoc]; simp only [cnt, e7A p m n]; omega
def fmA (x : Nat) : Nat := cnt (fun i => x.testBit i) 64
theorem dvA (x n : Nat) : cnt (fun i => x.testBit i) (8 + n) = pop8 (x % 256) + cnt (fun i => (x / 256).testBit i) n := by
  rw [e7A]
  congr 1
  · refine ccA 8 fun i hi => ?_
    rw [show (256 : Nat) = 2 ^ 8 by rfl, Nat.testBit_mod_two_pow]; simp [hi]
  · refine ccA n fun i hi => ?_
    rw [show x / 256 = x >>> 8 by rw [Nat.shiftRight_eq_div_pow], Nat.testBit_shiftRight]
theorem ueA (x : Nat) : fmA x = pop8 (x % 256) + (pop8 (x / 256 % 256) + (pop8 (x / 256 / 256 % 256) + (pop8 (x / 256 / 256 / 256 % 256) + (pop8 (x / 256 / 256 / 256 / 256 % 256) + (pop8 (x / 256 / 256 / 256 / 256 / 256 % 256) + (pop8 (x / 256 / 256 / 256 / 256 / 256 / 256 % 256) + pop8 (x / 256 / 256 / 256 / 256 / 256 / 256 / 256 % 256))))))) := by
  unfold fmA
  rw [show 64 = 8 + 56 by rfl, dvA, show 56 = 8 + 48 by rfl, dvA, show 48 = 8 + 40 by rfl, dvA, show 40 = 8 + 32 by rfl, dvA, show 32 = 8 + 24 by rfl, dvA, show 24 = 8 + 16 by rfl, dvA, show 16 = 8 + 8 by rfl, dvA, show cnt (fun i => (x / 256 / 256 / 256 / 256 / 256 / 256 / 256).testBit i) 8 = cnt (fun i => (x / 256 / 256 / 256 / 256 / 256 / 256 / 256).testBit i) (8 + 0) by rfl, dvA]
  rfl
theorem dv1 (a q : Nat) (h : a < 256) : (a + 256 * q) / 256 = q := by omega
theorem dv2 (a q : Nat) (h : a < 65536) : (a + 65536 * q) / 65536 = q := by omega
theorem dv3 (a q : Nat) (h : a < 4294967296) : (a + 4294967296 * q) / 4294967296 = q := by omega
theorem lt1 {p0 : Nat} (h0 : p0 ≤ 8) : p0 < 256 := by omega
theorem lt2 {p0 p1 p2 : Nat} (h0 : p0 ≤ 8) (h1 : p1 ≤ 8) (h2 : p2 ≤ 8) : (p0 + p1) + 256 * (p1 + p2) < 65536 := by omega
theorem lt3 {p0 p1 p2 p3 p4 p5 p6 : Nat} (h0 : p0 ≤ 8) (h1 : p1 ≤ 8) (h2 : p2 ≤ 8) (h3 : p3 ≤ 8) (h4 : p4 ≤ 8) (h5 : p5 ≤ 8) (h6 : p6 ≤ 8) : (p0 + p1 + p2 + p3) + 256 * (p1 + p2 + p3 + p4) + 65536 * (p2 + p3 + p4 + p5) + 16777216 * (p3 + p4 + p5 + p6) < 4294967296 := by omega
theorem fin8 (p0 p1 p2 p3 p4 p5 p6 p7 q1 q2 q3 q4 q5 q6 z : Nat) (h0 : p0 ≤ 8) (h1 : p1 ≤ 8) (h2 : p2 ≤ 8) (h3 : p3 ≤ 8) (h4 : p4 ≤ 8) (h5 : p5 ≤ 8) (h6 : p6 ≤ 8) (h7 : p7 ≤ 8)
    (e6 : q6 = p6 + 256 * p7) (e5 : q5 = p5 + 256 * q6) (e4 : q4 = p4 + 256 * q5) (e3 : q3 = p3 + 256 * q4) (e2 : q2 = p2 + 256 * q3) (e1 : q1 = p1 + 256 * q2) (ez : z = p0 + 256 * q1) : (z + q1 + (q2 + q3) + (q4 + q5 + q6 + p7)) % 128 = p0 + (p1 + (p2 + (p3 + (p4 + (p5 + (p6 + p7)))))) := by omega
theorem bnd8 (p0 p1 p2 p3 p4 p5 p6 p7 q1 q2 q3 q4 q5 q6 z : Nat) (h0 : p0 ≤ 8) (h1 : p1 ≤ 8) (h2 : p2 ≤ 8) (h3 : p3 ≤ 8) (h4 : p4 ≤ 8) (h5 : p5 ≤ 8) (h6 : p6 ≤ 8) (h7 : p7 ≤ 8)
    (e6 : q6 = p6 + 256 * p7) (e5 : q5 = p5 + 256 * q6) (e4 : q4 = p4 + 256 * q5) (e3 : q3 = p3 + 256 * q4) (e2 : q2 = p2 + 256 * q3) (e1 : q1 = p1 + 256 * q2) (ez : z = p0 + 256 * q1) : q6 ≤ 2056 ∧ q5 ≤ 526344 ∧ q4 ≤ 134744072 ∧ q3 ≤ 34494482440 ∧ q2 ≤ 8830587504648 ∧ q1 ≤ 2260630401189896 ∧ z ≤ 578721382704613384 := by
  have b6 : q6 ≤ 2056 := by omega
  have b5 : q5 ≤ 526344 := by omega
  have b4 : q4 ≤ 134744072 := by omega
  have b3 : q3 ≤ 34494482440 := by omega
  have b2 : q2 ≤ 8830587504648 := by omega
  have b1 : q1 ≤ 2260630401189896 := by omega
  have bz : z ≤ 578721382704613384 := by omega
  exact ⟨b6, b5, b4, b3, b2, b1, bz⟩
theorem bnd2 {z : Nat} (bz : z ≤ 578721382704613384) : z < 18446744073709551616 := by omega
theorem bnd3 {z q1 : Nat} (bz : z ≤ 578721382704613384) (b1 : q1 ≤ 2260630401189896) : z + q1 < 18446744073709551616 := by omega
theorem bnd4 {z q1 q2 q3 : Nat} (bz : z ≤ 578721382704613384) (b1 : q1 ≤ 2260630401189896) (b2 : q2 ≤ 8830587504648) (b3 : q3 ≤ 34494482440) : z + q1 + (q2 + q3) < 18446744073709551616 := by omega
theorem bnd5 {z q1 q2 q3 q4 q5 q6 p7 : Nat} (bz : z ≤ 578721382704613384) (b1 : q1 ≤ 2260630401189896) (b2 : q2 ≤ 8830587504648) (b3 : q3 ≤ 34494482440) (b4 : q4 ≤ 134744072) (b5 : q5 ≤ 526344) (b6 : q6 ≤ 2056) (h7 : p7 ≤ 8) : z + q1 + (q2 + q3) + (q4 + q5 + q6 + p7) < 9223372036854775808 := by omega
theorem id2 (p0 p1 p2 q3 : Nat) : p0 + 256 * (p1 + 256 * (p2 + 256 * q3)) + (p1 + 256 * (p2 + 256 * q3)) = ((p0 + p1) + 256 * (p1 + p2)) + 65536 * ((p2 + 256 * q3) + q3) := by omega
theorem id5 (p2 p3 p4 q5 : Nat) : (p2 + 256 * (p3 + 256 * (p4 + 256 * q5))) + (p3 + 256 * (p4 + 256 * q5)) = (p2 + p3) + 256 * (p3 + p4) + 65536 * ((p4 + 256 * q5) + q5) := by omega
theorem id6 (p0 p1 p2 p3 p4 p5 p6 u : Nat) : ((p0 + p1) + 256 * (p1 + p2)) + 65536 * ((p2 + p3) + 256 * (p3 + p4) + 65536 * ((p4 + p5) + 256 * (p5 + p6) + 65536 * u)) + ((p2 + p3) + 256 * (p3 + p4) + 65536 * ((p4 + p5) + 256 * (p5 + p6) + 65536 * u)) =
    ((p0 + p1 + p2 + p3) + 256 * (p1 + p2 + p3 + p4) + 65536 * (p2 + p3 + p4 + p5) + 16777216 * (p3 + p4 + p5 + p6)) + 4294967296 * ((p4 + p5) + 256 * (p5 + p6) + 65536 * u + u) := by omega
theorem sums (p0 p1 p2 p3 p4 p5 p6 p7 q1 q2 q3 q4 q5 q6 z : Nat) (h0 : p0 ≤ 8) (h1 : p1 ≤ 8) (h2 : p2 ≤ 8) (h3 : p3 ≤ 8) (h4 : p4 ≤ 8) (h5 : p5 ≤ 8) (h6 : p6 ≤ 8) (h7 : p7 ≤ 8)
    (e6 : q6 = p6 + 256 * p7) (e5 : q5 = p5 + 256 * q6) (e4 : q4 = p4 + 256 * q5) (e3 : q3 = p3 + 256 * q4) (e2 : q2 = p2 + 256 * q3) (e1 : q1 = p1 + 256 * q2) (ez : z = p0 + 256 * q1) :
    z < 18446744073709551616 ∧ z + z / 256 < 18446744073709551616 ∧ (z + z / 256) + (z + z / 256) / 65536 < 18446744073709551616 ∧ ((z + z / 256) + (z + z / 256) / 65536) + ((z + z / 256) + (z + z / 256) / 65536) / 4294967296 < 9223372036854775808 ∧
    (((z + z / 256) + (z + z / 256) / 65536) + ((z + z / 256) + (z + z / 256) / 65536) / 4294967296) % 128 = p0 + (p1 + (p2 + (p3 + (p4 + (p5 + (p6 + p7)))))) := by
  obtain ⟨b6, b5, b4, b3, b2, b1, bz⟩ := bnd8 p0 p1 p2 p3 p4 p5 p6 p7 q1 q2 q3 q4 q5 q6 z h0 h1 h2 h3 h4 h5 h6 h7 e6 e5 e4 e3 e2 e1 ez
  have s1 : z / 256 = q1 := by rw [ez]; exact dv1 _ _ (lt1 h0)
  rw [s1]
  have i2 : z + q1 = ((p0 + p1) + 256 * (p1 + p2)) + 65536 * (q2 + q3) := by rw [ez, e1, e2]; exact id2 _ _ _ _
  have s2 : (z + q1) / 65536 = q2 + q3 := by rw [i2]; exact dv2 _ _ (lt2 h0 h1 h2)
  rw [s2]
  have j1 : q2 + q3 = (p2 + p3) + 256 * (p3 + p4) + 65536 * (q4 + q5) := by rw [e2, e3, e4]; exact id5 _ _ _ _
  have j2 : q4 + q5 = (p4 + p5) + 256 * (p5 + p6) + 65536 * (q6 + p7) := by rw [e4, e5, e6]; exact id5 _ _ _ _
  have i3 : z + q1 + (q2 + q3) = ((p0 + p1 + p2 + p3) + 256 * (p1 + p2 + p3 + p4) + 65536 * (p2 + p3 + p4 + p5) + 16777216 * (p3 + p4 + p5 + p6)) + 4294967296 * (q4 + q5 + q6 + p7) := by
    rw [i2, j1, show q4 + q5 + q6 + p7 = (q4 + q5) + (q6 + p7) by rw [Nat.add_assoc], j2]; exact id6 _ _ _ _ _ _ _ _
  have s3 : (z + q1 + (q2 + q3)) / 4294967296 = q4 + q5 + q6 + p7 := by rw [i3]; exact dv3 _ _ (lt3 h0 h1 h2 h3 h4 h5 h6)
  rw [s3]
  exact ⟨bnd2 bz, bnd3 bz b1, bnd4 bz b1 b2 b3, bnd5 bz b1 b2 b3 b4 b5 b6 h7, fin8 p0 p1 p2 p3 p4 p5 p6 p7 q1 q2 q3 q4 q5 q6 z h0 h1 h2 h3 h4 h5 h6 h7 e6 e5 e4 e3 e2 e1 ez⟩
theorem mqA (x : Nat) (hx : x < 18446744073709551616) {z : Nat} (hz : z = y3 1085102592571150095 (y2 3689348814741910323 (y1 6148914691236517205 x))) :
    z < 18446744073709551616 ∧ z + z / 256 < 18446744073709551616 ∧ (z + z / 256) + (z + z / 256) / 65536 < 18446744073709551616 ∧ ((z + z / 256) + (z + z / 256) / 65536) + ((z + z / 256) + (z + z / 256) / 65536) / 4294967296 < 9223372036854775808 ∧
    (((z + z / 256) + (z + z / 256) / 65536) + ((z + z / 256) + (z + z / 256) / 65536) / 4294967296) % 128 = fmA x := by
  have h := (swar 8 x (by omega)).1
  have m1 : mk8 15 8 = 1085102592571150095 := by decide +kernel
  have m2 : mk8 51 8 = 3689348814741910323 := by decide +kernel
  have m3 : mk8 85 8 = 6148914691236517205 := by decide +kernel
  rw [m1, m2, m3] at h
  rw [h] at hz
  simp only [popB, Nat.mul_zero, Nat.add_zero] at hz
  have := sums _ _ _ _ _ _ _ _ _ _ _ _ _ _ z (emA (x % 256)) (emA (x / 256 % 256)) (emA (x / 256 / 256 % 256)) (emA (x / 256 / 256 / 256 % 256)) (emA (x / 256 / 256 / 256 / 256 % 256)) (emA (x / 256 / 256 / 256 / 256 / 256 % 256)) (emA (x / 256 / 256 / 256 / 256 / 256 / 256 % 256)) (emA (x / 256 / 256 / 256 / 256 / 256 / 256 / 256 % 256)) rfl rfl rfl rfl rfl rfl hz
  rw [ueA]
  exact this
end Go.LA
end
section
set_option linter.unusedSimpArgs false
set_option linter.unusedVariables false
set_option maxRecDepth 3000
namespace Go.Proofs.YtfcioiobhpcngaaGreatDoor
open Go.LA Go.ArrP Go.RowKit
theorem vmA (a : Nat) (ha : a < 9223372036854775808) : bits .and .i64 (a : Int) 127 = ((a % 128 : Nat) : Int) := by
  have h1 : (BitVec.ofInt 64 (a : Int)).toNat = a := by
    rw [BitVec.ofInt_natCast, BitVec.toNat_ofNat]; exact Nat.mod_eq_of_lt (by omega)
  have h2 : (BitVec.ofInt 64 (127 : Int)).toNat = 127 := by decide
  have h3 : a &&& 127 = a % 128 := Nat.and_two_pow_sub_one_eq_mod a 7
  show IntKind.i64.wrap ((BitVec.ofInt 64 (a : Int) &&& BitVec.ofInt 64 (127 : Int)).toNat : Int) = _
  rw [BitVec.toNat_and, h1, h2, h3, IntKind.wrap_i64]
  omega
theorem kuA (a b : Nat) (ha : a < 18446744073709551616) (hb : b < 18446744073709551616) {x y : Int} (hx : x = (a : Int)) (hy : y = (b : Int)) : bits .and .u64 x y = ((a &&& b : Nat) : Int) := by
  subst hx hy; exact bits_and_u64_nat a b ha hb
theorem wsA (w : World) (n : Nat) (hn : n < 18446744073709551616) : Fc Tryz.prog 181 #[.int .u64 n] w (Ret w (.val (.int .i64 (fmA n)))) := by
  obtain ⟨n2, hn2⟩ : ∃ n2, n2 = y1 6148914691236517205 n := ⟨_, rfl⟩
  obtain ⟨n3, hn3⟩ : ∃ n3, n3 = y2 3689348814741910323 n2 := ⟨_, rfl⟩
  obtain ⟨z, hz⟩ : ∃ z, z = y3 1085102592571150095 n3 := ⟨_, rfl⟩
  have ho := mqA n hn (z := z) (by rw [hz, hn3, hn2])
  obtain ⟨o1, o2, o3, o4, o5⟩ := ho
  have l1 : n / 2 &&& 6148914691236517205 ≤ 6148914691236517205 := Nat.and_le_right
  have l2 : n &&& 6148914691236517205 ≤ 6148914691236517205 := Nat.and_le_right
  have l3 : n2 / 4 &&& 3689348814741910323 ≤ 3689348814741910323 := Nat.and_le_right
  have l4 : n2 &&& 3689348814741910323 ≤ 3689348814741910323 := Nat.and_le_right
  have d2 : n2 = (n / 2 &&& 6148914691236517205) + (n &&& 6148914691236517205) := hn2
  have d3 : n3 = (n2 / 4 &&& 3689348814741910323) + (n2 &&& 3689348814741910323) := hn3
  have d4 : z = (n3 / 16 + n3) &&& 1085102592571150095 := hz
  have e5 : bits .and .u64 ((n : Int) / 2) 6148914691236517205 = ((n / 2 &&& 6148914691236517205 : Nat) : Int) := kuA _ _ (by omega) (by omega) (by omega) rfl
  have e7 : bits .and .u64 (n : Int) 6148914691236517205 = ((n &&& 6148914691236517205 : Nat) : Int) := kuA _ _ (by omega) (by omega) rfl rfl
  have e11 : bits .and .u64 ((n2 : Int) / 4) 3689348814741910323 = ((n2 / 4 &&& 3689348814741910323 : Nat) : Int) := kuA _ _ (by omega) (by omega) (by omega) rfl
  have e13 : bits .and .u64 (n2 : Int) 3689348814741910323 = ((n2 &&& 3689348814741910323 : Nat) : Int) := kuA _ _ (by omega) (by omega) rfl rfl
  have e19 : bits .and .u64 ((n3 : Int) / 16 + (n3 : Int)) 1085102592571150095 = (z : Int) := by rw [d4]; exact kuA _ _ (by omega) (by omega) (by omega) rfl
  have s8 : ((n / 2 &&& 6148914691236517205 : Nat) : Int) + ((n &&& 6148914691236517205 : Nat) : Int) = (n2 : Int) := by omega
  have s14 : ((n2 / 4 &&& 3689348814741910323 : Nat) : Int) + ((n2 &&& 3689348814741910323 : Nat) : Int) = (n3 : Int) := by omega
  obtain ⟨u, hu⟩ : ∃ u, u = z + z / 256 := ⟨_, rfl⟩
  rw [← hu] at o2 o3 o4 o5
  obtain ⟨t, ht⟩ : ∃ t, t = u + u / 65536 := ⟨_, rfl⟩
  rw [← ht] at o3 o4 o5
  obtain ⟨r, hr⟩ : ∃ r, r = t + t / 4294967296 := ⟨_, rfl⟩
  rw [← hr] at o4 o5
  have s23 : (z : Int) + (z : Int) / 256 = (u : Int) := by omega
  have s27 : (u : Int) + (u : Int) / 65536 = (t : Int) := by omega
  have s31 : (t : Int) + (t : Int) / 4294967296 = (r : Int) := by omega
  have e34 := vmA r o4
  rw [o5] at e34
  refine Fc.of (args := [_]) Tryz.func181 rfl rfl Tryz.ntmps181 (Nat.le_of_ble_eq_true rfl) ?_
  repeat' (first|(refine oLA ?_;first|refine a0A rfl ?_|(show LA _ _ _ _ (⟨some 5, .binOp .and _ _ _ _, _, _, _, _⟩ :: _) _; refine chA (.inl rfl) rfl rfl rfl ?_; rw [e5])|(show LA _ _ _ _ (⟨some 7, .binOp .and _ _ _ _, _, _, _, _⟩ :: _) _; refine chA (.inl rfl) rfl rfl rfl ?_; rw [e7])|(show LA _ _ _ _ (⟨some 11, .binOp .and _ _ _ _, _, _, _, _⟩ :: _) _; refine chA (.inl rfl) rfl rfl rfl ?_; rw [e11])|(show LA _ _ _ _ (⟨some 13, .binOp .and _ _ _ _, _, _, _, _⟩ :: _) _; refine chA (.inl rfl) rfl rfl rfl ?_; rw [e13])|(show LA _ _ _ _ (⟨some 19, .binOp .and _ _ _ _, _, _, _, _⟩ :: _) _; refine chA (.inl rfl) rfl rfl rfl ?_; rw [e19])|(show LA _ _ _ _ (⟨some 34, .binOp .and _ _ _ _, _, _, _, _⟩ :: _) _; refine chA (.inl rfl) rfl rfl rfl ?_; rw [e34])|(show LA _ _ _ _ (⟨some 8, .binOp .add _ _ _ _, _, _, _, _⟩ :: _) _; refine ayA rfl rfl rfl (by rw [s8]; dsimp only [fits]; omega) ?_; rw [s8])|(show LA _ _ _ _ (⟨some 14, .binOp .add _ _ _ _, _, _, _, _⟩ :: _) _; refine ayA rfl rfl rfl (by rw [s14]; dsimp only [fits]; omega) ?_; rw [s14])|(show LA _ _ _ _ (⟨some 23, .binOp .add _ _ _ _, _, _, _, _⟩ :: _) _; refine ayA rfl rfl rfl (by rw [s23]; dsimp only [fits]; omega) ?_; rw [s23])|(show LA _ _ _ _ (⟨some 27, .binOp .add _ _ _ _, _, _, _, _⟩ :: _) _; refine ayA rfl rfl rfl (by rw [s27]; dsimp only [fits]; omega) ?_; rw [s27])|(show LA _ _ _ _ (⟨some 31, .binOp .add _ _ _ _, _, _, _, _⟩ :: _) _; refine ayA rfl rfl rfl (by rw [s31]; dsimp only [fits]; omega) ?_; rw [s31])|refine wOp ?_|(refine wCm ?_ ?_<;>intro hc)|(refine wNl hK ?_;clear hK K))|refine wG ?_|(refine wCR ?_;intro K hK)|fail)
  all_goals exact abA rfl rfl (Ext.refl _) rfl
end Go.Proofs.YtfcioiobhpcngaaGreatDoor
end
section
set_option linter.unusedSimpArgs false
set_option linter.unusedVariables false
set_option maxRecDepth 3000
namespace Go.Proofs.YtfcioiobhpcngaaGreatDoor
open Go.LA Go.ArrP Go.RowKit
def Tab (w : World) : Prop := ∀ j, j < 64 → w.cell? ⟨0, j, none⟩ = some (.int .u8 (Lib.deBruijn64tab.getD j 0))
theorem Tab.ext {w w' : World} (h : Tab w) (e : Ext w w') : Tab w' := fun j hj => e.cell (h j hj)
theorem tz_e3 (p : Nat) : IntKind.u64.wrap ((p : Int) * 285870213051353865) / 288230376151711744 = ((p * 285870213051353865 % 18446744073709551616 / 288230376151711744 : Nat) : Int) := by
  rw [IntKind.wrap_u64]; omega
theorem tz_c (w : World) (n : Nat) (hn : n < 18446744073709551616) (hT : Tab w) : Fc Tryz.prog 166 #[.int .u64 n] w (Ret w (.val (.int .i64 (Lib.ctz 64 n)))) := by
  by_cases h0 : n = 0
  · subst h0
    refine Fc.of (args := [_]) Tryz.func166 rfl rfl Tryz.ntmps166 (Nat.le_of_ble_eq_true rfl) ?_
    repeat' (first|(refine oLA ?_;first|refine a0A rfl ?_|refine wOp ?_|(refine wCm ?_ ?_<;>intro hc)|(refine wNl hK ?_;clear hK K))|refine wG ?_|(refine wCR ?_;intro K hK)|fail)
    exact abA rfl rfl (Ext.refl _) rfl
  · obtain ⟨hlow, hk⟩ := Lib.lowest_bit 64 n h0 hn
    obtain ⟨hi, htab⟩ := Lib.deBruijn64_at _ hk
    have hcell := hT _ hi
    rw [htab] at hcell
    obtain ⟨p, hp⟩ : ∃ p, p = 2 ^ Lib.ctz 64 n := ⟨_, rfl⟩
    rw [← hp] at hlow hi htab hcell
    have e1 : IntKind.u64.wrap (-(n : Int)) = ((18446744073709551616 - n : Nat) : Int) := by rw [IntKind.wrap_u64]; omega
    have e2 : bits .and .u64 (n : Int) (IntKind.u64.wrap (-(n : Int))) = (p : Int) := by rw [e1, bits_and_u64_nat n _ hn (by omega)]; exact congrArg _ hlow
    have e3 : IntKind.u64.wrap ((p : Int) * 285870213051353865) / 288230376151711744 = ((p * 285870213051353865 % 18446744073709551616 / 288230376151711744 : Nat) : Int) := by
      exact tz_e3 p
    obtain ⟨q, hq⟩ : ∃ q, q = p * 285870213051353865 % 18446744073709551616 / 288230376151711744 := ⟨_, rfl⟩
    rw [← hq] at hcell e3 hi
    refine Fc.of (args := [_]) Tryz.func166 rfl rfl Tryz.ntmps166 (Nat.le_of_ble_eq_true rfl) ?_
    repeat' (first|(refine oLA ?_;first|refine a0A rfl ?_|refine xmA rfl rfl ?_|(show LA _ _ _ _ (⟨some 8, .binOp .and _ _ _ _, _, _, _, _⟩ :: _) _; refine chA (.inl rfl) rfl rfl rfl ?_; rw [e2])|(show LA _ _ _ _ (⟨some 9, .binOp .mul _ _ _ _, _, _, _, _⟩ :: _) _; refine prA rfl rfl rfl ?_)|(show LA _ _ _ _ (⟨some 10, .binOp .shr _ _ _ _, _, _, _, _⟩ :: _) _; refine ejA rfl rfl rfl (by omega) (by dsimp only [IntKind.bits]; omega) ?_; dsimp only [Int.reduceToNat, Int.reducePow]; rw [e3])|refine kyA (n := 64) (s := 1) rfl rfl (fun _ => rfl) rfl rfl q rfl hi ?_|refine j4A rfl (fun _ => rfl) rfl (by rw [show 0 + q * 1 = q by omega]; exact hcell) ?_|refine wOp ?_|(refine wCm ?_ ?_<;>intro hc)|(refine wNl hK ?_;clear hK K))|refine wG ?_|(refine wCR ?_;intro K hK)|fail)
    all_goals exact abA rfl rfl (Ext.refl _) rfl
end Go.Proofs.YtfcioiobhpcngaaGreatDoor
end
section
set_option linter.unusedSimpArgs false
set_option linter.unusedVariables false
namespace Go.LA
open Go.RowKit Go.ArrP
def Lw (ws : List Int) : Prop := ∀ x ∈ ws, 0 ≤ x ∧ x < 18446744073709551616
def wd (ws : List Int) (i : Nat) : Nat := (ws.getD i 0).toNat
def c3A (ws : List Int) (i : Nat) : Bool := (wd ws (i / 64)).testBit (i % 64)
theorem Lw.at {ws : List Int} (h : Lw ws) (i : Nat) : ws.getD i 0 = ((wd ws i : Nat) : Int) ∧ wd ws i < 18446744073709551616 := by
  unfold wd
  by_cases hi : i < ws.length
  · have := h _ (List.getElem_mem hi)
    rw [axA hi]; omega
  · rw [List.getD, List.getElem?_eq_none (by omega)]; decide
theorem tpA {ws : List Int} {i : Nat} (h : ws.length ≤ i) : wd ws i = 0 := by
  unfold wd; rw [List.getD, List.getElem?_eq_none h]; rfl
theorem ncA {ws : List Int} {i : Nat} (h : 64 * ws.length ≤ i) : c3A ws i = false := by
  unfold c3A; rw [tpA (by omega)]; simp
theorem rmA (ws : List Int) (k : Nat) : cnt (c3A ws) (64 * (k + 1)) = cnt (c3A ws) (64 * k) + fmA (wd ws k) := by
  rw [show 64 * (k + 1) = 64 * k + 64 by omega, e7A]
  congr 1
  unfold fmA
  refine ccA 64 fun i hi => ?_
  unfold c3A
  rw [show (64 * k + i) / 64 = k by omega, show (64 * k + i) % 64 = i by omega]
theorem hjA (a j i : Nat) : (a ||| 2 ^ j).testBit i = (a.testBit i || decide (i = j)) := by
  rw [Nat.testBit_or, Nat.testBit_two_pow]
  congr 1
  rw [decide_eq_decide]; exact ⟨fun h => h.symm, fun h => h.symm⟩
theorem suA {ws : List Int} {i : Nat} (hi : i < ws.length) (v : Nat) (j : Nat) : wd (ws.set i (v : Int)) j = if j = i then v else wd ws j := by
  unfold wd
  by_cases e : j = i
  · subst e; rw [if_pos rfl]; simp [List.getD, List.getElem?_set, hi]
  · rw [if_neg e]; simp [List.getD, List.getElem?_set, show ¬ i = j from fun h => e h.symm]
theorem Lw.set {ws : List Int} (h : Lw ws) (i : Nat) {v : Nat} (hv : v < 18446744073709551616) : Lw (ws.set i (v : Int)) := fun x hx => by
  rcases List.mem_or_eq_of_mem_set hx with h1 | h1
  · exact h x h1
  · omega
theorem tqA {ws : List Int} {x : Nat} (hx : x / 64 < ws.length) (i : Nat) : c3A (ws.set (x / 64) ((wd ws (x / 64) ||| 2 ^ (x % 64) : Nat) : Int)) i = (c3A ws i || decide (i = x)) := by
  unfold c3A
  rw [suA hx]
  by_cases e : i / 64 = x / 64
  · rw [if_pos e, hjA, e]
    congr 1
    rw [decide_eq_decide]; omega
  · rw [if_neg e, decide_eq_false (by omega), Bool.or_false]
theorem jaA (n i : Nat) : c3A (List.replicate n 0) i = false := by
  unfold c3A wd
  have : (List.replicate n (0 : Int)).getD (i / 64) 0 = 0 := by
    by_cases h : i / 64 < n
    · simp [List.getD, List.getElem?_replicate, h]
    · simp [List.getD, List.getElem?_replicate, h]
  rw [this]; simp
theorem kvA (n : Nat) : Lw (List.replicate n 0) := fun x hx => by
  rw [List.eq_of_mem_replicate hx]; decide
theorem j9A {a b : List Int} (ha : Lw a) (hb : Lw b) (hl : a.length = b.length) (h : ∀ i, i < 64 * a.length → c3A a i = c3A b i) : a = b := by
  refine List.ext_getElem hl fun k h1 h2 => ?_
  have e1 := (ha.at k).1; have e2 := (hb.at k).1
  rw [axA h1] at e1; rw [axA h2] at e2
  rw [e1, e2]
  congr 1
  apply Nat.eq_of_testBit_eq
  intro i
  by_cases hi : i < 64
  · have := h (64 * k + i) (by omega)
    unfold c3A at this
    rwa [show (64 * k + i) / 64 = k by omega, show (64 * k + i) % 64 = i by omega] at this
  · rw [Nat.testBit_lt_two_pow (Nat.lt_of_lt_of_le (ha.at k).2 (Nat.pow_le_pow_right (n := 2) (by decide) (by omega : 64 ≤ i))), Nat.testBit_lt_two_pow (Nat.lt_of_lt_of_le (hb.at k).2 (Nat.pow_le_pow_right (n := 2) (by decide) (by omega : 64 ≤ i)))]
def ifA (p : Nat → Bool) (k : Nat) : Nat → Nat
  | 0 => 0
  | j + 1 => ifA p k j ||| (if p (64 * k + j) then 2 ^ j else 0)
theorem jgA (p : Nat → Bool) (k i : Nat) : ∀ j, (ifA p k j).testBit i = (decide (i < j) && p (64 * k + i))
  | 0 => by simp [ifA]
  | j + 1 => by
    rw [ifA, Nat.testBit_or, jgA p k i j]
    by_cases e : i = j
    · subst e
      cases h : p (64 * k + i) <;> simp [h, Nat.testBit_two_pow]
    · have h1 : (if p (64 * k + j) = true then 2 ^ j else 0).testBit i = false := by
        split
        · rw [Nat.testBit_two_pow]; simpa using fun h => e h.symm
        · simp
      rw [h1, Bool.or_false, show decide (i < j + 1) = decide (i < j) by rw [decide_eq_decide]; omega]
theorem ljA (p : Nat → Bool) (k : Nat) : ∀ j, ifA p k j < 2 ^ j
  | 0 => by simp [ifA]
  | j + 1 => by
    rw [ifA]
    have ih := ljA p k j
    have h2 : 2 ^ j < 2 ^ (j + 1) := Nat.pow_lt_pow_right (by decide) (by omega)
    refine Nat.or_lt_two_pow (by omega) ?_
    split
    · exact h2
    · exact Nat.pow_pos (by decide)
def wordsOf (p : Nat → Bool) : List Int := (List.range 1024).map (fun k => ((ifA p k 64 : Nat) : Int))
theorem bdA (p : Nat → Bool) : (wordsOf p).length = 1024 := by rw [wordsOf, List.length_map, List.length_range]
theorem bqA (p : Nat → Bool) : Lw (wordsOf p) := fun x hx => by
  rw [wordsOf, List.mem_map] at hx
  obtain ⟨k, _, rfl⟩ := hx
  have := ljA p k 64
  omega
theorem bsA (p : Nat → Bool) {i : Nat} (hi : i < 65536) : c3A (wordsOf p) i = p i := by
  unfold c3A wd
  have h1 : (wordsOf p).getD (i / 64) 0 = ((ifA p (i / 64) 64 : Nat) : Int) := by
    rw [List.getD, wordsOf, List.getElem?_map, List.getElem?_range (by omega)]; rfl
  rw [h1, Int.toNat_natCast, jgA, decide_eq_true (by omega), Bool.true_and, show 64 * (i / 64) + i % 64 = i by omega]
theorem i4A {ws : List Int} (h : Lw ws) (hl : ws.length = 1024) : ws = wordsOf (c3A ws) :=
  j9A h (bqA _) (by rw [hl, bdA]) (fun i hi => by rw [bsA _ (by omega)])
theorem beA {p q : Nat → Bool} (h : ∀ i, i < 65536 → p i = q i) : wordsOf p = wordsOf q :=
  j9A (bqA _) (bqA _) (by rw [bdA, bdA]) (fun i hi => by
    rw [bdA] at hi
    rw [bsA p (by omega), bsA q (by omega), h i (by omega)])
theorem jlA {x : Nat} (h0 : x ≠ 0) (hx : x < 18446744073709551616) : ∃ m, x = 2 ^ (Lib.ctz 64 x + 1) * m + 2 ^ Lib.ctz 64 x ∧ Lib.ctz 64 x < 64 := by
  obtain ⟨m, hm, hk⟩ := Lib.ctzFrom_spec 64 x (by omega) hx
  have e : Lib.ctz 64 x = Lib.ctzFrom 64 x := by simp [Lib.ctz, h0]
  rw [e]
  refine ⟨m, ?_, hk⟩
  rw [Nat.pow_succ]
  conv => lhs; rw [hm]
  rw [Nat.mul_add, Nat.mul_one, Nat.mul_assoc]
theorem uoA {x : Nat} (h0 : x ≠ 0) (hx : x < 18446744073709551616) (j : Nat) : (x.testBit (Lib.ctz 64 x) = true ∧ (j < Lib.ctz 64 x → x.testBit j = false)) ∧ (x &&& (x - 1)).testBit j = (x.testBit j && decide (j ≠ Lib.ctz 64 x)) := by
  obtain ⟨m, hm, hk⟩ := jlA h0 hx
  obtain ⟨c, hc⟩ : ∃ c, c = Lib.ctz 64 x := ⟨_, rfl⟩
  rw [← hc] at hm hk ⊢
  have hp : 0 < 2 ^ c := Nat.pow_pos (by decide)
  have hlt : 2 ^ c < 2 ^ (c + 1) := Nat.pow_lt_pow_right (by decide) (by omega)
  have hx1 : x - 1 = 2 ^ (c + 1) * m + (2 ^ c - 1) := by omega
  have tb : ∀ j, x.testBit j = if j < c + 1 then decide (j = c) else m.testBit (j - (c + 1)) := fun j => by
    rw [hm, Nat.testBit_two_pow_mul_add _ hlt, Nat.testBit_two_pow]
    split
    · rw [decide_eq_decide]; exact ⟨fun h => h.symm, fun h => h.symm⟩
    · rfl
  have tb1 : ∀ j, (x - 1).testBit j = if j < c + 1 then decide (j < c) else m.testBit (j - (c + 1)) := fun j => by
    rw [hx1, Nat.testBit_two_pow_mul_add _ (by omega), Nat.testBit_two_pow_sub_one]
  refine ⟨⟨by rw [tb]; simp, fun h => by rw [tb, if_pos (by omega), decide_eq_false (by omega)]⟩, ?_⟩
  rw [Nat.testBit_and, tb, tb1]
  by_cases h : j < c + 1
  · rw [if_pos h, if_pos h]
    by_cases e : j = c
    · subst e; simp
    · rw [decide_eq_false e]; simp
  · rw [if_neg h, if_neg h, decide_eq_true (by omega)]; simp
theorem fsA (p : Nat → Bool) {a : Nat} : ∀ b, a ≤ b → (∀ i, a ≤ i → i < b → p i = false) → adA p b = adA p a
  | 0, h, _ => by obtain rfl : a = 0 := by omega
                  rfl
  | b + 1, h, hf => by
    rcases Nat.lt_or_ge b a with h1 | h1
    · obtain rfl : a = b + 1 := by omega
      rfl
    · rw [adA, fsA p b h1 (fun i g1 g2 => hf i g1 (by omega)), hf b h1 (by omega)]; simp
theorem toA {ws : List Int} {q k : Nat} (h : k < q) : wd (ws.take q) k = wd ws k := by
  unfold wd; simp [List.getD, List.getElem?_take, h]
theorem nbA {ws : List Int} {q i : Nat} (h : i < 64 * q) : c3A (ws.take q) i = c3A ws i := by
  unfold c3A; rw [toA (by omega)]
theorem Lw.take {ws : List Int} (h : Lw ws) (q : Nat) : Lw (ws.take q) := fun x hx => h x (List.mem_of_mem_take hx)
theorem ufA (x m : Nat) (hm : m ≤ 64) : fmA (x * 2 ^ (64 - m) % 18446744073709551616) = cnt (fun i => x.testBit i) m := by
  unfold fmA
  have hb : ∀ i, i < 64 → (x * 2 ^ (64 - m) % 18446744073709551616).testBit i = (decide (64 - m ≤ i) && x.testBit (i - (64 - m))) := fun i hi => by
    rw [show (18446744073709551616 : Nat) = 2 ^ 64 by rfl, Nat.testBit_mod_two_pow, decide_eq_true hi, Bool.true_and, Nat.mul_comm, Nat.testBit_two_pow_mul]
  rw [ccA 64 hb, show cnt (fun i => decide (64 - m ≤ i) && x.testBit (i - (64 - m))) 64 = cnt (fun i => decide (64 - m ≤ i) && x.testBit (i - (64 - m))) ((64 - m) + m) by rw [show 64 - m + m = 64 by omega], e7A, dgA (64 - m) (fun i hi => by simp; omega), Nat.zero_add]
  exact ccA m fun i hi => by simp
theorem rnA (ws : List Int) (q m : Nat) (hm : m ≤ 64) : cnt (c3A ws) (64 * q + m) = cnt (c3A ws) (64 * q) + cnt (fun i => (wd ws q).testBit i) m := by
  rw [e7A]
  congr 1
  refine ccA m fun i hi => ?_
  unfold c3A
  rw [show (64 * q + i) / 64 = q by omega, show (64 * q + i) % 64 = i by omega]
theorem jbA {ws : List Int} {k : Nat} (hk : k < ws.length) (v j : Nat) : c3A (ws.set k (v : Int)) j = if j / 64 = k then v.testBit (j % 64) else c3A ws j := by
  unfold c3A; rw [suA hk]; split <;> rfl
theorem qzA (d s i : Nat) (hd : d + s ≤ 64) : (18446744073709551615 / 2 ^ (64 - d) * 2 ^ s % 18446744073709551616).testBit i = (decide (s ≤ i) && decide (i < s + d)) := by
  rw [show (18446744073709551616 : Nat) = 2 ^ 64 by rfl, Nat.testBit_mod_two_pow, Nat.mul_comm, Nat.testBit_two_pow_mul, ← Nat.shiftRight_eq_div_pow, Nat.testBit_shiftRight, show (18446744073709551615 : Nat) = 2 ^ 64 - 1 by rfl, Nat.testBit_two_pow_sub_one]
  by_cases h1 : s ≤ i
  · rw [decide_eq_true h1, Bool.true_and, Bool.true_and]
    by_cases h2 : i < s + d
    · rw [decide_eq_true h2, decide_eq_true (by omega), decide_eq_true (by omega)]; rfl
    · rw [decide_eq_false h2, decide_eq_false (by omega : ¬ 64 - d + (i - s) < 64), Bool.and_false]
  · rw [decide_eq_false h1]; simp
end Go.LA
end
section
set_option linter.unusedSimpArgs false
set_option linter.unusedVariables false
set_option maxRecDepth 3000
namespace Go.Proofs.YtfcioiobhpcngaaGreatDoor
open Go.LA Go.ArrP Go.RowKit
theorem l5A : El Tryz.prog 62 22 (.int .u64 0) 1 8 := ⟨rfl, rfl, rfl, by decide⟩
theorem kbA {w : World} {x : Int} {n : Nat} (hx : x = (n : Int)) (hn : n < 18446744073709551616) : Fc Tryz.prog 181 #[.int .u64 x] w (Ret w (.val (.int .i64 (fmA n)))) := by
  subst hx; exact wsA w n hn
theorem t5A (n : Nat) : fmA n ≤ 64 := cnt_le _ _
theorem n8A (w : World) (v : Value) (ws : List Int) (h : SlI .u64 w v ws) (hl : Lw ws) (hn : ws.length ≤ 17592186044416) : Fc Tryz.prog 141 #[v] w (Ret w (.val (.int .i64 (cnt (c3A ws) (64 * ws.length))))) := by
  refine Fc.of (args := [_]) Tryz.func141 rfl rfl Tryz.ntmps141 (Nat.le_of_ble_eq_true rfl) ?_
  repeat' (first|(refine oLA ?_;first|refine a0A rfl ?_|refine wOp ?_|(refine wCm ?_ ?_<;>intro hc)|(refine wNl hK ?_;clear hK K))|refine wG ?_|(refine wCR ?_;intro K hK)|fail)
  refine b8A (ι := Nat) (fun k => [(0, .val v), (3, .val (.int .i64 (cnt (c3A ws) (64 * k)))), (6, .val v), (7, .val (.int .i64 ws.length)), (8, .val (.int .i64 k))]) (fun k => k ≤ ws.length) (fun k => ws.length - k) 0 (by omega) (by repeat' (first | exact Sub.nil | refine Sub.val rfl (by first | with_reducible rfl | (congr 1; omega)) ?_ | refine Sub.same rfl ?_)) ?_
  intro k hk
  have hs := rmA ws k
  have hc := cnt_le (c3A ws) (64 * k)
  have hp := t5A (wd ws k)
  obtain ⟨e1, e2⟩ := hl.at k
  by_cases hkl : k < ws.length
  · skip
    repeat' (first|(refine oLA ?_;first|refine a0A rfl ?_|refine wOp ?_|(refine wCm ?_ ?_<;>intro hc)|(refine oCv ?_;first|(refine oC 181 ?_; refine a1A (f := 181) rfl rfl rfl  (.val (.int .i64 (fmA (wd ws k)))) (by intro u1 w e hu1; (try obtain rfl : u1 = _ := hu1); exact kbA e1 e2) ?_))|(refine wNl hK ?_;clear hK K))|refine wG ?_|(refine wCR ?_;intro K hK)|fail)
    refine bpA (k + 1) ?_ ?_ (by repeat' (first | exact Sub.nil | refine Sub.val rfl (by first | with_reducible rfl | (congr 1; omega)) ?_ | refine Sub.same rfl ?_))
    · omega
    · omega
  · obtain rfl : k = ws.length := by omega
    repeat' (first|(refine oLA ?_;first|refine a0A rfl ?_|refine wOp ?_|(refine wCm ?_ ?_<;>intro hc)|(refine wNl hK ?_;clear hK K))|refine wG ?_|(refine wCR ?_;intro K hK)|fail)
    exact abA rfl rfl (Ext.refl _) rfl
theorem or64 (a b : Nat) (ha : a < 18446744073709551616) (hb : b < 18446744073709551616) : bits .or .u64 (a : Int) (b : Int) = ((a ||| b : Nat) : Int) := by
  have hx : a ||| b < 2 ^ 64 := Nat.or_lt_two_pow (by omega) (by omega)
  have h1 : (BitVec.ofInt 64 (a : Int)).toNat = a := by
    rw [BitVec.ofInt_natCast, BitVec.toNat_ofNat]; exact Nat.mod_eq_of_lt (by omega)
  have h2 : (BitVec.ofInt 64 (b : Int)).toNat = b := by
    rw [BitVec.ofInt_natCast, BitVec.toNat_ofNat]; exact Nat.mod_eq_of_lt (by omega)
  show IntKind.u64.wrap ((BitVec.ofInt 64 (a : Int) ||| BitVec.ofInt 64 (b : Int)).toNat : Int) = _
  rw [BitVec.toNat_or, h1, h2, IntKind.wrap_u64]
  omega
theorem w9A (w : World) (v : Value) (xs : List Int) (h : SlI .u16 w v xs) (hl : Low xs) : Fc Tryz.prog 70 #[v] w (Ret w (.pred (bjA w.heap.size 22 .u64 (wordsOf (bkA xs))))) := by
  have hlen := h.len
  refine Fc.of (args := [_]) Tryz.func70 rfl rfl Tryz.ntmps70 (Nat.le_of_ble_eq_true rfl) ?_
  repeat' (first|(refine oLA ?_;first|refine a0A rfl ?_|refine j3A (n := 1024) rfl l5A rfl rfl (by decide) (by decide) ?_|refine wOp ?_|(refine wCm ?_ ?_<;>intro hc)|(refine wNl hK ?_;clear hK K))|refine wG ?_|(refine wCR ?_;intro K hK)|fail)
  refine g6A 3 rfl (fun v3 w3 e3 h3 => ?_)
  have h3 : OwnI w.heap.size 22 .u64 w3 v3 (List.replicate 1024 0) := h3
  refine ahA (ι := Nat × List Int) (fun i => [(3, .val v3), (7, .val v), (8, .val (.int .i64 xs.length)), (9, .val (.int .i64 i.1))]) (fun i w' => Ext w w' ∧ i.1 ≤ xs.length ∧ i.2.length = 1024 ∧ Lw i.2 ∧ (∀ j, j < 65536 → c3A i.2 j = bkA (xs.take i.1) j) ∧ OwnI w.heap.size 22 .u64 w' v3 i.2)
    (fun i => xs.length - i.1) (fun w2 e2 => ⟨(0, List.replicate 1024 0), ⟨e3.trans e2, Nat.zero_le _, List.length_replicate, kvA _, fun j _ => by rw [jaA]; simp [bkA], h3.ext e2⟩, (by repeat' (first | exact Sub.nil | refine Sub.val rfl (by first | with_reducible rfl | (congr 1; omega)) ?_ | refine Sub.same rfl ?_))⟩) ?_
  rintro ⟨k, ws⟩ w1 ⟨he, hk, hwl, hlw, hbit, ho⟩
  dsimp only at hk hwl hlw hbit ho ⊢
  have h1 := h.ext he
  by_cases hkl : k < xs.length
  · have hx : 0 ≤ xs.getD k 0 ∧ xs.getD k 0 < 65536 := by rw [axA hkl]; exact hl _ (List.getElem_mem hkl)
    obtain ⟨x, hxx⟩ := Int.eq_ofNat_of_zero_le hx.1
    obtain ⟨gb, cap, cur, rfl, hgb, hgc, hgn, hgm, hgs, hgt⟩ := ho.row (by omega)
    have hra := npA hgt (i := 0 + x / 64 * 1) (by omega)
    obtain ⟨e1, e2⟩ := hlw.at (x / 64)
    have hp : (2 : Nat) ^ (x % 64) < 18446744073709551616 := by
      have : (2 : Nat) ^ (x % 64) < 2 ^ 64 := Nat.pow_lt_pow_right (by decide) (by omega)
      omega
    have ex : xs.getD k 0 = (x : Int) := hxx
    have hsh : IntKind.u64.wrap (1 * 2 ^ (xs.getD k 0 % 64).toNat) = ((2 ^ (x % 64) : Nat) : Int) := by
      rw [show (xs.getD k 0 % 64).toNat = x % 64 by omega, IntKind.wrap_u64, Int.one_mul]
      obtain ⟨p, hpd⟩ : ∃ p, p = 2 ^ (x % 64) := ⟨_, rfl⟩
      have h2 : ((2 : Int) ^ (x % 64)) = (p : Int) := by rw [hpd]; simp
      rw [h2]
      rw [← hpd] at hp ⊢
      omega
    have hor : bits .or .u64 (ws.getD (0 + x / 64 * 1) 0) ((2 ^ (x % 64) : Nat) : Int) = ((wd ws (x / 64) ||| 2 ^ (x % 64) : Nat) : Int) := by
      rw [show 0 + x / 64 * 1 = x / 64 by omega, e1]; exact or64 _ _ e2 hp
    have hor64 : wd ws (x / 64) ||| 2 ^ (x % 64) < 18446744073709551616 := Nat.or_lt_two_pow (n := 64) (by omega) (by omega)
    repeat' (first|(refine oLA ?_;first|refine a0A rfl ?_|(refine cuA (s := 1) rfl rfl (fun _ => rfl) rfl rfl (by omega) (by omega) ?_; rw [show (xs.getD k 0 / 64).toNat = x / 64 by omega])|refine a8A rfl (fun _ => rfl) rfl hgc hra ?_|(show LA _ _ _ _ (⟨_, .binOp .shl _ _ _ _, _, _, _, _⟩ :: _) _; refine hbA rfl rfl rfl (by omega) (by dsimp only [IntKind.bits]; omega) ?_; rw [hsh])|(refine chA (.inr (.inl rfl)) rfl rfl rfl ?_; rw [hor])|(refine a4A (hK _ _ (deA (o := 0 + x / 64 * 1) rfl rfl rfl hgc (fun _ => rfl) (by omega) rfl rfl (fun w4 e4 => ?_))); clear hK K; dsimp only [vals]; refine amA (by kernel_rfl) (fun K hK => ?_))|refine wOp ?_|(refine wCm ?_ ?_<;>intro hc)|(refine wNl hK ?_;clear hK K))|refine wG ?_|(refine wCR ?_;intro K hK)|fail)
    refine a7A (k + 1, ws.set (0 + x / 64 * 1) ((wd ws (x / 64) ||| 2 ^ (x % 64) : Nat) : Int)) (fun w5 e5 => ⟨((he.trans e4).setRow hgb _).trans e5, ?_, ?_, ?_, ?_, ?_⟩) ?_ (by repeat' (first | exact Sub.nil | refine Sub.val rfl (by first | with_reducible rfl | (congr 1; omega)) ?_ | refine Sub.same rfl ?_))
    · dsimp only; omega
    · dsimp only; simp [hwl]
    · exact hlw.set _ hor64
    · intro j hj
      dsimp only
      rw [show 0 + x / 64 * 1 = x / 64 by omega, tqA (by omega), hbit j hj, List.take_succ_eq_append_getElem hkl]
      simp only [bkA, List.mem_append, List.mem_singleton, ← axA hkl, ex]
      by_cases hm : (j : Int) ∈ xs.take k
      · simp [hm]
      · by_cases e : j = x
        · subst e; simp
        · rw [decide_eq_false hm, decide_eq_false e, decide_eq_false (fun h => by rcases h with h | h; exact hm h; omega)]; rfl
    · have hh := OwnI.set hgb (e4.block hgc) hgn hgm hgs hgt (0 + x / 64 * 1) (by omega) ((wd ws (x / 64) ||| 2 ^ (x % 64) : Nat) : Int)
      dsimp only
      exact OwnI.ext hh e5
    · dsimp only; omega
  · obtain rfl : k = xs.length := by omega
    repeat' (first|(refine oLA ?_;first|refine a0A rfl ?_|refine wOp ?_|(refine wCm ?_ ?_<;>intro hc)|(refine wNl hK ?_;clear hK K))|refine wG ?_|(refine wCR ?_;intro K hK)|fail)
    refine alA rfl rfl he (fun u w2 e2 hu => ?_)
    obtain rfl : u = _ := hu
    rw [List.take_length] at hbit
    have hh := ho.ext e2
    rwa [i4A hlw hwl, beA hbit] at hh
end Go.Proofs.YtfcioiobhpcngaaGreatDoor
end
section
set_option linter.unusedSimpArgs false
set_option linter.unusedVariables false
set_option maxRecDepth 3000
namespace Go.Proofs.YtfcioiobhpcngaaGreatDoor
open Go.LA Go.ArrP Go.RowKit
theorem htA : El Tryz.prog 52 72 (.int .u16 0) 1 2 := ⟨rfl, rfl, rfl, by decide⟩
theorem tmA (w : World) (v : Value) (ws : List Int) (h : SlI .u64 w v ws) (hl : Lw ws) (hT : Tab w) : Fc Tryz.prog 114 #[v] w (Ret w (.pred (bjA w.heap.size 72 .u16 (adA (c3A ws) (64 * min ws.length 1024))))) := by
  have hlen := h.len
  refine Fc.of (args := [_]) Tryz.func114 rfl rfl Tryz.ntmps114 (Nat.le_of_ble_eq_true rfl) ?_
  repeat' (first|(refine oLA ?_;first|refine a0A rfl ?_|refine cmA rfl rfl rfl ?_|refine wOp ?_|(refine wCm ?_ ?_<;>intro hc)|(refine wNl hK ?_;clear hK K))|refine wG ?_|(refine wCR ?_;intro K hK)|fail)
  refine ahA (ι := Nat × Value) (fun i => [(0, .val v), (3, .val i.2), (8, .val (.int .i64 (min (ws.length : Int) 1024))), (9, .val (.int .i64 i.1))]) (fun i w' => Ext w w' ∧ i.1 ≤ min ws.length 1024 ∧ OwnI w.heap.size 72 .u16 w' i.2 (adA (c3A ws) (64 * i.1)))
    (fun i => min ws.length 1024 - i.1) (fun w2 e2 => ⟨(0, .slice none 0 0), ⟨e2, Nat.zero_le _, OwnI.nil⟩, (by repeat' (first | exact Sub.nil | refine Sub.val rfl (by first | with_reducible rfl | (congr 1; omega)) ?_ | refine Sub.same rfl ?_))⟩) ?_
  rintro ⟨k, so⟩ w1 ⟨he, hk, ho⟩
  dsimp only at hk ho ⊢
  have h1 := h.ext he
  have hT1 := hT.ext he
  by_cases hkl : k < min ws.length 1024
  · obtain ⟨e1, e2⟩ := hl.at k
    repeat' (first|(refine oLA ?_;first|refine a0A rfl ?_|refine wOp ?_|(refine wCm ?_ ?_<;>intro hc)|(refine wNl hK ?_;clear hK K))|refine wG ?_|(refine wCR ?_;intro K hK)|fail)
    refine ahA (ι := Nat × Nat × Value) (fun i => [(0, .val v), (3, .val i.2.2), (4, .val (.int .i64 k)), (5, .val (.int .u64 i.2.1)), (8, .val (.int .i64 (min (ws.length : Int) 1024))), (9, .val (.int .i64 k))])
      (fun i w' => Ext w w' ∧ i.1 ≤ 64 ∧ i.2.1 < 18446744073709551616 ∧ (∀ j, i.2.1.testBit j = (decide (i.1 ≤ j) && (wd ws k).testBit j)) ∧ OwnI w.heap.size 72 .u16 w' i.2.2 (adA (c3A ws) (64 * k + i.1)))
      (fun i => 64 - i.1) (fun w2 e2' => ⟨(0, wd ws k, so), ⟨he.trans e2', Nat.zero_le _, e2, fun j => by simp, ho.ext e2'⟩, ?_⟩) ?_
    · dsimp only; rw [← e1]; exact (by repeat' (first | exact Sub.nil | refine Sub.val rfl (by first | with_reducible rfl | (congr 1; omega)) ?_ | refine Sub.same rfl ?_))
    rintro ⟨t, x, sq⟩ w2 ⟨he2, ht, hx, hb, ho2⟩
    dsimp only at ht hx hb ho2 ⊢
    have hT2 := hT.ext he2
    have hwb : ∀ j, j < 64 → c3A ws (64 * k + j) = (wd ws k).testBit j := fun j hj => by
      unfold c3A; rw [show (64 * k + j) / 64 = k by omega, show (64 * k + j) % 64 = j by omega]
    have hll := baA (c3A ws) (64 * k + t)
    have hcl := cnt_le (c3A ws) (64 * k + t)
    by_cases h0 : x = 0
    · subst h0
      have hsk : adA (c3A ws) (64 * (k + 1)) = adA (c3A ws) (64 * k + t) := by
        refine fsA _ _ (by omega) fun i g1 g2 => ?_
        have := hb (i - 64 * k)
        rw [Nat.zero_testBit, decide_eq_true (by omega), Bool.true_and] at this
        have h2 := hwb (i - 64 * k) (by omega)
        rw [show 64 * k + (i - 64 * k) = i by omega] at h2
        rw [h2, ← this]
      repeat' (first|(refine oLA ?_;first|refine a0A rfl ?_|refine wOp ?_|(refine wCm ?_ ?_<;>intro hc)|(refine wNl hK ?_;clear hK K))|refine wG ?_|(refine wCR ?_;intro K hK)|fail)
      refine a7A (k + 1, sq) (fun w5 e5 => ⟨he2.trans e5, ?_, ?_⟩) ?_ (by repeat' (first | exact Sub.nil | refine Sub.val rfl (by first | with_reducible rfl | (congr 1; omega)) ?_ | refine Sub.same rfl ?_))
      · dsimp only; omega
      · dsimp only; rw [hsk]; exact ho2.ext e5
      · dsimp only; omega
    · obtain ⟨m, -, hc64⟩ := jlA h0 hx
      have lb := uoA h0 hx
      obtain ⟨c, hc⟩ : ∃ c, c = Lib.ctz 64 x := ⟨_, rfl⟩
      rw [← hc] at hc64 lb
      have hct : t ≤ c ∧ (wd ws k).testBit c = true := by
        have := (lb 0).1.1; rw [hb] at this; simpa using this
      have hsk : adA (c3A ws) (64 * k + c) = adA (c3A ws) (64 * k + t) := by
        refine fsA _ _ (by omega) fun i g1 g2 => ?_
        have h3 := (lb (i - 64 * k)).1.2 (by omega)
        rw [hb, decide_eq_true (by omega), Bool.true_and] at h3
        have h2 := hwb (i - 64 * k) (by omega)
        rw [show 64 * k + (i - 64 * k) = i by omega] at h2
        rw [h2, h3]
      have hnx : adA (c3A ws) (64 * k + (c + 1)) = adA (c3A ws) (64 * k + t) ++ [((64 * k + c : Nat) : Int)] := by
        rw [← Nat.add_assoc, adA, hsk, hwb c hc64, hct.2]; rfl
      have hxa : bits .and .u64 (x : Int) ((x : Int) - 1) = ((x &&& (x - 1) : Nat) : Int) := kuA _ _ hx (by omega) rfl (by omega)
      have hx1 : x &&& (x - 1) < 18446744073709551616 := Nat.lt_of_le_of_lt Nat.and_le_left hx
      repeat' (first|(refine oLA ?_;first|refine a0A rfl ?_|(refine oC 166 ?_; refine a1A (f := 166) rfl rfl rfl  (.val (.int .i64 c)) (by intro u1 w e hu1; (try obtain rfl : u1 = _ := hu1); exact (hc ▸ tz_c _ x hx (hT2.ext e))) ?_)|refine poA rfl htA rfl rfl ?_|(refine a4A (hK _ _ (i1A rfl (by decide) htA rfl ho2 rfl (by omega) (by omega) he2 (fun v' w' he' ho' => ?_))); clear hK K; dsimp only [vals]; refine amA (by kernel_rfl) (fun K hK => ?_))|(refine chA (.inl rfl) rfl rfl rfl ?_; rw [hxa])|refine wOp ?_|(refine wCm ?_ ?_<;>intro hc)|(refine wNl hK ?_;clear hK K))|refine wG ?_|(refine wCR ?_;intro K hK)|fail)
      refine a7A (c + 1, x &&& (x - 1), v') (fun w5 e5 => ⟨he'.trans e5, ?_, hx1, fun j => ?_, ?_⟩) ?_ (by repeat' (first | exact Sub.nil | refine Sub.val rfl (by first | with_reducible rfl | (congr 1; omega)) ?_ | refine Sub.same rfl ?_))
      · dsimp only; omega
      · dsimp only
        rw [(lb j).2, hb]
        by_cases hj : j < c
        · have h3 := (lb j).1.2 hj
          rw [hb] at h3
          rw [h3, decide_eq_false (show ¬ c + 1 ≤ j by omega)]; simp
        · by_cases e : j = c
          · subst e; rw [decide_eq_false (show ¬ j + 1 ≤ j by omega)]; simp
          · rw [decide_eq_true (by omega : t ≤ j), decide_eq_true (by omega : c + 1 ≤ j), decide_eq_true (show j ≠ c from e)]; simp
      · dsimp only; rw [hnx]
        have h9 := ho'.ext e5
        rwa [show (64 * (k : Int) + (c : Int)) = ((64 * k + c : Nat) : Int) by omega] at h9
      · dsimp only; omega
  · obtain rfl : k = min ws.length 1024 := by omega
    repeat' (first|(refine oLA ?_;first|refine a0A rfl ?_|refine wOp ?_|(refine wCm ?_ ?_<;>intro hc)|(refine wNl hK ?_;clear hK K))|refine wG ?_|(refine wCR ?_;intro K hK)|fail)
    refine alA rfl rfl he (fun u w2 e2 hu => ?_)
    obtain rfl : u = _ := hu
    exact ho.ext e2
end Go.Proofs.YtfcioiobhpcngaaGreatDoor
end
section
set_option linter.unusedSimpArgs false
set_option linter.unusedVariables false
set_option maxRecDepth 3000
namespace Go.Proofs.YtfcioiobhpcngaaGreatDoor
open Go.LA Go.ArrP Go.RowKit
theorem tkA (w : World) (v : Value) (ws : List Int) (x : Int) (h : SlI .u64 w v ws) (hl : Lw ws) (hn : ws.length ≤ 17592186044416) (hx : -9223372036854775808 ≤ x ∧ x < 9223372036854775808) : Fc Tryz.prog 144 #[v, .int .i64 x] w (Ret w (.val (.int .i64 (cnt (c3A ws) (min (max x 0) (64 * ws.length : Int)).toNat)))) := by
  obtain ⟨r, hr⟩ : ∃ r : Nat, min (max x 0) (64 * ws.length : Int) = r := ⟨(min (max x 0) (64 * ws.length : Int)).toNat, by omega⟩
  have hrl : r ≤ 64 * ws.length := by omega
  have hq : r / 64 ≤ ws.length := by omega
  have hcp := rnA ws (r / 64) (r % 64) (by omega)
  rw [show 64 * (r / 64) + r % 64 = r by omega] at hcp
  have hc1 := cnt_le (c3A ws) r
  obtain ⟨e1, e2⟩ := hl.at (r / 64)
  have htk : (ws.take (r / 64)).length = r / 64 := by rw [List.length_take]; omega
  have hct : cnt (c3A (ws.take (r / 64))) (64 * (ws.take (r / 64)).length) = cnt (c3A ws) (64 * (r / 64)) := by
    rw [htk]; exact ccA _ (fun i hi => nbA hi)
  have eq1 : ((r : Int) / 64).toNat = r / 64 := by omega
  refine Fc.of (args := [_, _]) Tryz.func144 rfl rfl Tryz.ntmps144 (Nat.le_of_ble_eq_true rfl) ?_
  have hsub : SlI .u64 w (dyA v 0 (r / 64) 1) (ws.take (r / 64)) := by have := SlI.sub h (Nat.zero_le (r / 64)) hq; simpa using this
  rw [hr]
  by_cases hm : r % 64 = 0
  · have hcm : cnt (c3A ws) r = cnt (c3A ws) (64 * (r / 64)) := by rw [hcp, hm]; simp [cnt]
    repeat' (first|(refine oLA ?_;first|refine a0A rfl ?_|refine egA rfl rfl rfl ?_|(refine cmA rfl rfl rfl ?_; rw [hr])|(refine exA rfl _ rfl rfl (HasC.val h) rfl (by omega) (by omega) (by exact fun _ => rfl) ?_; rw [eq1])|(refine oC 141 ?_; refine a1A (f := 141) rfl rfl rfl  (.val (.int .i64 (cnt (c3A ws) (64 * (r / 64))))) (by intro u1 w e hu1; (try obtain rfl : u1 = _ := hu1); exact agA (by rw [hct]) (n8A _ _ (ws.take (r / 64)) (hsub.ext e) (hl.take _) (by omega))) ?_)|refine wOp ?_|(refine wCm ?_ ?_<;>intro hc)|(refine wNl hK ?_;clear hK K))|refine wG ?_|(refine wCR ?_;intro K hK)|fail)
    exact abA rfl rfl (Ext.refl _) (by rw [Int.toNat_natCast, hcm])
  · have hsh : IntKind.u64.wrap (ws.getD (r / 64) 0 * 2 ^ (64 - (r : Int) % 64).toNat) = ((wd ws (r / 64) * 2 ^ (64 - r % 64) % 18446744073709551616 : Nat) : Int) := by
      rw [e1, IntKind.wrap_u64, show (64 - (r : Int) % 64).toNat = 64 - r % 64 by omega]
      have h2 : ((2 : Int) ^ (64 - r % 64)) = ((2 ^ (64 - r % 64) : Nat) : Int) := by simp
      rw [h2, ← Int.natCast_mul]; omega
    have hpp := ufA (wd ws (r / 64)) (r % 64) (by omega)
    repeat' (first|(refine oLA ?_;first|refine a0A rfl ?_|refine egA rfl rfl rfl ?_|(refine cmA rfl rfl rfl ?_; rw [hr])|(refine exA rfl _ rfl rfl (HasC.val h) rfl (by omega) (by omega) (by exact fun _ => rfl) ?_; rw [eq1])|(refine oC 141 ?_; refine a1A (f := 141) rfl rfl rfl  (.val (.int .i64 (cnt (c3A ws) (64 * (r / 64))))) (by intro u1 w e hu1; (try obtain rfl : u1 = _ := hu1); exact agA (by rw [hct]) (n8A _ _ (ws.take (r / 64)) (hsub.ext e) (hl.take _) (by omega))) ?_)|(refine glA rfl _ rfl (fun _ => rfl) rfl (HasI.val h) rfl (by omega) (by omega) ?_; rw [eq1])|(show LA _ _ _ _ (⟨_, .binOp .shl _ _ _ _, _, _, _, _⟩ :: _) _; refine hbA rfl rfl rfl (by omega) (by dsimp only [IntKind.bits]; omega) ?_; rw [hsh])|(refine oC 181 ?_; refine a1A (f := 181) rfl rfl rfl  (.val (.int .i64 (cnt (fun i => (wd ws (r / 64)).testBit i) (r % 64)))) (by intro u1 w e hu1; (try obtain rfl : u1 = _ := hu1); exact agA (by rw [hpp]) (kbA rfl (by omega))) ?_)|refine wOp ?_|(refine wCm ?_ ?_<;>intro hc)|(refine wNl hK ?_;clear hK K))|refine wG ?_|(refine wCR ?_;intro K hK)|fail)
    exact abA rfl rfl (Ext.refl _) (by rw [Int.toNat_natCast]; congr 1; omega)
theorem wcA (w : World) (v : Value) (ws : List Int) (x : Nat) (h : SlI .u64 w v ws) (hl : Lw ws) (hx : x < 65536) : Fc Tryz.prog 146 #[v, .int .u16 x] w (Ret w (.val (.bool (c3A ws x)))) := by
  have hlen := h.len
  refine Fc.of (args := [_, _]) Tryz.func146 rfl rfl Tryz.ntmps146 (Nat.le_of_ble_eq_true rfl) ?_
  obtain ⟨e1, e2⟩ := hl.at (x / 64)
  by_cases hc : x / 64 < ws.length
  · have eq1 : ((x : Int) / 64).toNat = x / 64 := by omega
    obtain ⟨y, hy⟩ : ∃ y, y = wd ws (x / 64) / 2 ^ (x % 64) := ⟨_, rfl⟩
    have hyl : y ≤ wd ws (x / 64) := by rw [hy]; exact Nat.div_le_self _ _
    have hsh : ws.getD (x / 64) 0 / 2 ^ ((x : Int) % 64).toNat = (y : Int) := by
      rw [e1, hy, show ((x : Int) % 64).toNat = x % 64 by omega, Int.natCast_ediv]; simp
    have han : bits .and .u64 (y : Int) 1 = ((y % 2 : Nat) : Int) := by
      rw [show (1 : Int) = ((1 : Nat) : Int) by rfl, bits_and_u64_nat y 1 (by omega) (by decide)]
      exact congrArg _ (Nat.and_one_is_mod y)
    have hb : c3A ws x = decide (y % 2 = 1) := by rw [hy]; unfold c3A; exact Nat.testBit_eq_decide_div_mod_eq
    cases hv : c3A ws x
    all_goals rw [hv] at hb
    all_goals have hb' := hb.symm
    all_goals simp only [decide_eq_true_eq, decide_eq_false_iff_not] at hb'
    all_goals
      repeat' (first|(refine oLA ?_;first|refine a0A rfl ?_|(refine glA rfl _ rfl (fun _ => rfl) rfl (HasI.val h) rfl (by omega) (by omega) ?_; rw [eq1])|(show LA _ _ _ _ (⟨_, .binOp .shr _ _ _ _, _, _, _, _⟩ :: _) _; refine ejA rfl rfl rfl (by omega) (by dsimp only [IntKind.bits]; omega) ?_; rw [hsh])|(refine chA (.inl rfl) rfl rfl rfl ?_; rw [han])|refine wOp ?_|(refine wCm ?_ ?_<;>intro hc)|(refine wNl hK ?_;clear hK K))|refine wG ?_|(refine wCR ?_;intro K hK)|fail)
    all_goals exact abA rfl rfl (Ext.refl _) rfl
  · have hv : c3A ws x = false := ncA (by omega)
    rw [hv]
    repeat' (first|(refine oLA ?_;first|refine a0A rfl ?_|refine wOp ?_|(refine wCm ?_ ?_<;>intro hc)|(refine wNl hK ?_;clear hK K))|refine wG ?_|(refine wCR ?_;intro K hK)|fail)
    exact abA rfl rfl (Ext.refl _) rfl
end Go.Proofs.YtfcioiobhpcngaaGreatDoor
end
section
set_option linter.unusedSimpArgs false
set_option linter.unusedVariables false
set_option maxRecDepth 3000
namespace Go.Proofs.YtfcioiobhpcngaaGreatDoor
open Go.LA Go.ArrP Go.RowKit
def iuA (F : Bool → Bool → Bool) (a b : List Int) (i : Nat) : Bool := decide (i < 64 * min (min a.length b.length) 1024) && F (c3A a i) (c3A b i)
theorem tfA (F : Bool → Bool → Bool) (G : Nat → Nat → Nat) (ft : FuncId) (hT : ∀ (x y : Nat) (w : World), x < 18446744073709551616 → y < 18446744073709551616 → Fc Tryz.prog ft #[.int .u64 x, .int .u64 y] w (Ret w (.val (.int .u64 (G x y)))))
    (hG : ∀ x y, x < 18446744073709551616 → y < 18446744073709551616 → G x y < 18446744073709551616 ∧ ∀ i, i < 64 → (G x y).testBit i = F (x.testBit i) (y.testBit i)) (w : World) (va vb : Value) (a b : List Int) (ha : SlI .u64 w va a) (hb : SlI .u64 w vb b) (hla : Lw a) (hlb : Lw b) :
    Fc Tryz.prog 135 #[va, vb, .func (.func ft) #[] #[]] w (Ret w (.pred (bjA w.heap.size 22 .u64 (wordsOf (iuA F a b))))) := by
  have hlen := ha.len
  have hlen' := hb.len
  refine Fc.of (args := [_, _, _]) Tryz.func135 rfl rfl Tryz.ntmps135 (Nat.le_of_ble_eq_true rfl) ?_
  repeat' (first|(refine oLA ?_;first|refine a0A rfl ?_|refine j3A (n := 1024) rfl l5A rfl rfl (by decide) (by decide) ?_|refine vzA rfl rfl rfl rfl ?_|refine wOp ?_|(refine wCm ?_ ?_<;>intro hc)|(refine wNl hK ?_;clear hK K))|refine wG ?_|(refine wCR ?_;intro K hK)|fail)
  refine g6A 7 rfl (fun v7 w3 e3 h3 => ?_)
  have h3 : OwnI w.heap.size 22 .u64 w3 v7 (List.replicate 1024 0) := h3
  obtain ⟨L, hL⟩ : ∃ L : Nat, L = min (min a.length b.length) 1024 := ⟨_, rfl⟩
  have hLi : min (min (a.length : Int) (b.length : Int)) 1024 = L := by omega
  rw [hLi]
  refine ahA (ι := Nat × List Int) (fun i => [(0, .val va), (1, .val vb), (2, .val (.func (.func ft) #[] #[])), (7, .val v7), (14, .val (.int .i64 L)), (15, .val (.int .i64 i.1))]) (fun i w' => Ext w w' ∧ i.1 ≤ L ∧ i.2.length = 1024 ∧ Lw i.2 ∧ (∀ j, j < 65536 → c3A i.2 j = (decide (j < 64 * i.1) && F (c3A a j) (c3A b j))) ∧ OwnI w.heap.size 22 .u64 w' v7 i.2)
    (fun i => L - i.1) (fun w2 e2 => ⟨(0, List.replicate 1024 0), ⟨e3.trans e2, Nat.zero_le _, List.length_replicate, kvA _, fun j _ => by rw [jaA]; simp, h3.ext e2⟩, (by repeat' (first | exact Sub.nil | refine Sub.val rfl (by first | with_reducible rfl | (congr 1; omega)) ?_ | refine Sub.same rfl ?_))⟩) ?_
  rintro ⟨k, ws⟩ w1 ⟨he, hk, hwl, hlw, hbit, ho⟩
  dsimp only at hk hwl hlw hbit ho ⊢
  have h1 := ha.ext he
  have h2 := hb.ext he
  by_cases hkl : k < L
  · obtain ⟨gb, cap, cur, rfl, hgb, hgc, hgn, hgm, hgs, hgt⟩ := ho.row (by omega)
    obtain ⟨e1, e2⟩ := hla.at k
    obtain ⟨e1', e2'⟩ := hlb.at k
    obtain ⟨g1, g2⟩ := hG _ _ e2 e2'
    repeat' (first|(refine oLA ?_;first|refine a0A rfl ?_|(refine cuA (s := 1) rfl rfl (fun _ => rfl) rfl rfl (by omega) (by omega) ?_; rw [Int.toNat_natCast])|(refine a4A (hK _ _ rfl (deA (o := 0 + k * 1) rfl rfl rfl hgc (fun _ => rfl) (by omega) rfl rfl (fun w4 e4 => ?_))); clear hK K; dsimp only [vals]; refine amA (by kernel_rfl) (fun K hK => ?_))|refine wOp ?_|(refine wCm ?_ ?_<;>intro hc)|(refine oCv ?_;first|refine a3A (f := ft) (r1 := .val (.int .u64 _)) (r2 := .val (.int .u64 _)) rfl rfl rfl rfl (.val (.int .u64 (G (wd a k) (wd b k)))) (by intro u1 u2 w e hu1 hu2; obtain rfl : u1 = _ := hu1; obtain rfl : u2 = _ := hu2; rw [e1, e1']; exact hT _ _ _ e2 e2') ?_)|(refine wNl hK ?_;clear hK K))|(refine oCX ?_;first|refine brA 13 (by decide) (by kernel_rfl) (by kernel_rfl) (fun K hK => ?_))|refine wG ?_|(refine wCR ?_;intro K hK)|fail)
    refine a7A (k + 1, ws.set (0 + k * 1) ((G (wd a k) (wd b k) : Nat) : Int)) (fun w5 e5 => ⟨((he.trans e4).setRow hgb _).trans e5, ?_, ?_, ?_, ?_, ?_⟩) ?_ (by repeat' (first | exact Sub.nil | refine Sub.val rfl (by first | with_reducible rfl | (congr 1; omega)) ?_ | refine Sub.same rfl ?_))
    · dsimp only; omega
    · dsimp only; simp [hwl]
    · exact hlw.set _ g1
    · intro j hj
      dsimp only
      rw [show 0 + k * 1 = k by omega, jbA (by omega)]
      by_cases e : j / 64 = k
      · rw [if_pos e, g2 _ (by omega), decide_eq_true (by omega)]
        unfold c3A; rw [e]; simp
      · rw [if_neg e, hbit j hj, show decide (j < 64 * (k + 1)) = decide (j < 64 * k) by rw [decide_eq_decide]; omega]
    · have hh := OwnI.set hgb (e4.block hgc) hgn hgm hgs hgt (0 + k * 1) (by omega) ((G (wd a k) (wd b k) : Nat) : Int)
      dsimp only
      exact OwnI.ext hh e5
    · dsimp only; omega
  · obtain rfl : k = L := by omega
    repeat' (first|(refine oLA ?_;first|refine a0A rfl ?_|refine wOp ?_|(refine wCm ?_ ?_<;>intro hc)|(refine wNl hK ?_;clear hK K))|refine wG ?_|(refine wCR ?_;intro K hK)|fail)
    refine alA rfl rfl he (fun u w2 e2 hu => ?_)
    obtain rfl : u = _ := hu
    have hh := ho.ext e2
    rwa [i4A hlw hwl, beA (q := iuA F a b) (fun i hi => by rw [hbit i hi]; unfold iuA; rw [← hL])] at hh
end Go.Proofs.YtfcioiobhpcngaaGreatDoor
end
section
set_option linter.unusedSimpArgs false
set_option linter.unusedVariables false
set_option maxRecDepth 3000
namespace Go.Proofs.YtfcioiobhpcngaaGreatDoor
open Go.LA Go.ArrP Go.RowKit
theorem m7A (a : Nat) : BitVec.ofInt 64 (a : Int) = BitVec.ofNat 64 a := by
  rw [BitVec.ofInt_natCast]
theorem n7A (v : BitVec 64) : IntKind.u64.wrap (v.toNat : Int) = (v.toNat : Int) := by
  have := v.isLt
  rw [IntKind.wrap_u64]; omega
def x9A (x y : Nat) : Nat := (BitVec.ofNat 64 x ^^^ BitVec.ofNat 64 y).toNat
def v1A (x y : Nat) : Nat := (BitVec.ofNat 64 x &&& ~~~BitVec.ofNat 64 y).toNat
theorem xor64 (a b : Nat) : bits .xor .u64 (a : Int) (b : Int) = ((x9A a b : Nat) : Int) := by
  show IntKind.u64.wrap ((BitVec.ofInt 64 (a : Int) ^^^ BitVec.ofInt 64 (b : Int)).toNat : Int) = _
  rw [m7A, m7A, n7A]; rfl
theorem wvA (a b : Nat) : bits .andNot .u64 (a : Int) (b : Int) = ((v1A a b : Nat) : Int) := by
  show IntKind.u64.wrap ((BitVec.ofInt 64 (a : Int) &&& ~~~BitVec.ofInt 64 (b : Int)).toNat : Int) = _
  rw [m7A, m7A, n7A]; rfl
theorem rcA (x y i : Nat) (hi : i < 64) : (x9A x y).testBit i = !(x.testBit i == y.testBit i) := by
  unfold x9A
  rw [BitVec.testBit_toNat, BitVec.getLsbD_xor, BitVec.getLsbD_ofNat, BitVec.getLsbD_ofNat]
  simp only [hi, decide_true, Bool.true_and]
  cases x.testBit i <;> cases y.testBit i <;> rfl
theorem lyA (x y i : Nat) (hi : i < 64) : (v1A x y).testBit i = (x.testBit i && !y.testBit i) := by
  unfold v1A
  rw [BitVec.testBit_toNat, BitVec.getLsbD_and, BitVec.getLsbD_not, BitVec.getLsbD_ofNat, BitVec.getLsbD_ofNat]
  simp [hi]
theorem w8A (x y : Nat) (w : World) (hx : x < 18446744073709551616) (hy : y < 18446744073709551616) : Fc Tryz.prog 136 #[.int .u64 x, .int .u64 y] w (Ret w (.val (.int .u64 ((x ||| y : Nat) : Int)))) := by
  refine Fc.of (args := [_, _]) Tryz.func136 rfl rfl Tryz.ntmps136 (Nat.le_of_ble_eq_true rfl) ?_
  repeat' (first|(refine oLA ?_;first|refine a0A rfl ?_|refine chA (.inr (.inl rfl)) rfl rfl rfl ?_|refine wOp ?_|(refine wCm ?_ ?_<;>intro hc)|(refine wNl hK ?_;clear hK K))|refine wG ?_|(refine wCR ?_;intro K hK)|fail)
  exact abA rfl rfl (Ext.refl _) (by rw [or64 x y hx hy])
theorem tlA (x y : Nat) (w : World) (hx : x < 18446744073709551616) (hy : y < 18446744073709551616) : Fc Tryz.prog 153 #[.int .u64 x, .int .u64 y] w (Ret w (.val (.int .u64 ((v1A x y : Nat) : Int)))) := by
  refine Fc.of (args := [_, _]) Tryz.func153 rfl rfl Tryz.ntmps153 (Nat.le_of_ble_eq_true rfl) ?_
  repeat' (first|(refine oLA ?_;first|refine a0A rfl ?_|refine chA (.inr (.inr (.inr rfl))) rfl rfl rfl ?_|refine wOp ?_|(refine wCm ?_ ?_<;>intro hc)|(refine wNl hK ?_;clear hK K))|refine wG ?_|(refine wCR ?_;intro K hK)|fail)
  exact abA rfl rfl (Ext.refl _) (by rw [wvA])
section
variable (w : World) (va vb : Value) (a b : List Int) (ha : SlI .u64 w va a) (hb : SlI .u64 w vb b) (hla : Lw a) (hlb : Lw b)
include ha hb hla hlb
theorem wor_c : Fc Tryz.prog 91 #[va, vb] w (Ret w (.pred (bjA w.heap.size 22 .u64 (wordsOf (iuA (fun x y => x || y) a b))))) := by
  refine Fc.of (args := [_, _]) Tryz.func91 rfl rfl Tryz.ntmps91 (Nat.le_of_ble_eq_true rfl) ?_
  repeat' (first|(refine oLA ?_;first|refine a0A rfl ?_|refine wOp ?_|(refine wCm ?_ ?_<;>intro hc)|(refine oCv ?_;first|(refine oC 135 ?_; refine bhA (f := 135) rfl rfl rfl rfl rfl  (.pred (bjA w.heap.size 22 .u64 (wordsOf (iuA (fun x y => x || y) a b)))) (by intro u1 u2 u3 w e hu1 hu2 hu3; (try obtain rfl : u1 = _ := hu1); (try obtain rfl : u2 = _ := hu2); (try obtain rfl : u3 = _ := hu3); exact (tfA (fun x y => x || y) (fun x y => x ||| y) _ w8A (fun x y hx hy => ⟨Nat.or_lt_two_pow (n := 64) hx hy, fun i _ => Nat.testBit_or x y i⟩) _ _ _ a b (ha.ext e) (hb.ext e) hla hlb).mono (aaA e.size)) ?_))|(refine wNl hK ?_;clear hK K))|refine wG ?_|(refine wCR ?_;intro K hK)|fail)
  exact alA rfl rfl (Ext.refl _) (fun _ _ _ h => h)
theorem waA : Fc Tryz.prog 110 #[va, vb] w (Ret w (.pred (bjA w.heap.size 22 .u64 (wordsOf (iuA (fun x y => x && !y) a b))))) := by
  refine Fc.of (args := [_, _]) Tryz.func110 rfl rfl Tryz.ntmps110 (Nat.le_of_ble_eq_true rfl) ?_
  repeat' (first|(refine oLA ?_;first|refine a0A rfl ?_|refine wOp ?_|(refine wCm ?_ ?_<;>intro hc)|(refine oCv ?_;first|(refine oC 135 ?_; refine bhA (f := 135) rfl rfl rfl rfl rfl  (.pred (bjA w.heap.size 22 .u64 (wordsOf (iuA (fun x y => x && !y) a b)))) (by intro u1 u2 u3 w e hu1 hu2 hu3; (try obtain rfl : u1 = _ := hu1); (try obtain rfl : u2 = _ := hu2); (try obtain rfl : u3 = _ := hu3); exact (tfA (fun x y => x && !y) v1A _ tlA (fun x y hx hy => ⟨(BitVec.ofNat 64 x &&& ~~~BitVec.ofNat 64 y).isLt, fun i hi => lyA x y i hi⟩) _ _ _ a b (ha.ext e) (hb.ext e) hla hlb).mono (aaA e.size)) ?_))|(refine wNl hK ?_;clear hK K))|refine wG ?_|(refine wCR ?_;intro K hK)|fail)
  exact alA rfl rfl (Ext.refl _) (fun _ _ _ h => h)
end
end Go.Proofs.YtfcioiobhpcngaaGreatDoor
end
section
set_option linter.unusedSimpArgs false
set_option linter.unusedVariables false
set_option maxRecDepth 3000
namespace Go.Proofs.YtfcioiobhpcngaaGreatDoor
open Go.LA Go.ArrP Go.RowKit
def fuA (ws : List Int) : Nat → Nat
  | 0 => 0
  | k + 1 => wd ws k / 9223372036854775808
theorem r1A (ws : List Int) (hl : Lw ws) (k i : Nat) : (fuA ws k).testBit i = (decide (i = 0) && (decide (0 < k) && c3A ws (64 * k - 1))) := by
  cases k with
  | zero => simp [fuA]
  | succ k =>
    have h2 := (hl.at k).2
    have e : c3A ws (64 * (k + 1) - 1) = (wd ws k).testBit 63 := by
      unfold c3A; rw [show (64 * (k + 1) - 1) / 64 = k by omega, show (64 * (k + 1) - 1) % 64 = 63 by omega]
    rw [e, fuA, show wd ws k / 9223372036854775808 = (wd ws k) >>> 63 by rw [Nat.shiftRight_eq_div_pow], Nat.testBit_shiftRight]
    by_cases h : i = 0
    · subst h; simp
    · rw [decide_eq_false h, Nat.testBit_lt_two_pow (Nat.lt_of_lt_of_le h2 (Nat.pow_le_pow_right (n := 2) (by decide) (by omega : 64 ≤ 63 + i)))]; simp
theorem k3A (ws : List Int) (hl : Lw ws) (k : Nat) : cnt (biA (c3A ws)) (64 * (k + 1)) = cnt (biA (c3A ws)) (64 * k) + fmA (v1A (wd ws k) ((wd ws k * 2 % 18446744073709551616) ||| fuA ws k)) := by
  rw [show 64 * (k + 1) = 64 * k + 64 by omega, e7A]
  congr 1
  unfold fmA
  refine ccA 64 fun i hi => ?_
  rw [lyA _ _ _ hi, Nat.testBit_or, r1A ws hl]
  have hs : (wd ws k * 2 % 18446744073709551616).testBit i = (decide (1 ≤ i) && (wd ws k).testBit (i - 1)) := by
    rw [show (18446744073709551616 : Nat) = 2 ^ 64 by rfl, Nat.testBit_mod_two_pow, decide_eq_true hi, Bool.true_and, Nat.mul_comm, show 2 * wd ws k = 2 ^ 1 * wd ws k by rfl, Nat.testBit_two_pow_mul]
  rw [hs]
  have hb : ∀ j, j < 64 → c3A ws (64 * k + j) = (wd ws k).testBit j := fun j hj => by
    unfold c3A; rw [show (64 * k + j) / 64 = k by omega, show (64 * k + j) % 64 = j by omega]
  simp only [biA]
  rw [hb i hi]
  congr 1
  by_cases h0 : i = 0
  · subst h0
    rw [decide_eq_false (show ¬ 1 ≤ 0 by omega), Nat.add_zero]
    by_cases hk : k = 0
    · subst hk; simp
    · rw [decide_eq_true (by omega : 0 < k), show (64 * k == 0) = false by simp; omega]; simp
  · rw [decide_eq_true (by omega : 1 ≤ i), decide_eq_false h0, show (64 * k + i == 0) = false by simp; omega, show 64 * k + i - 1 = 64 * k + (i - 1) by omega, hb (i - 1) (by omega)]; simp
theorem tjA (w : World) (v : Value) (ws : List Int) (h : SlI .u64 w v ws) (hl : Lw ws) (hn : ws.length ≤ 17592186044416) : Fc Tryz.prog 175 #[v] w (Ret w (.val (.int .i64 (cnt (biA (c3A ws)) (64 * ws.length))))) := by
  refine Fc.of (args := [_]) Tryz.func175 rfl rfl Tryz.ntmps175 (Nat.le_of_ble_eq_true rfl) ?_
  repeat' (first|(refine oLA ?_;first|refine a0A rfl ?_|refine wOp ?_|(refine wCm ?_ ?_<;>intro hc)|(refine wNl hK ?_;clear hK K))|refine wG ?_|(refine wCR ?_;intro K hK)|fail)
  refine b8A (ι := Nat) (fun k => [(3, .val (.int .i64 (cnt (biA (c3A ws)) (64 * k)))), (4, .val (.int .u64 (fuA ws k))), (7, .val v), (8, .val (.int .i64 ws.length)), (9, .val (.int .i64 k))]) (fun k => k ≤ ws.length) (fun k => ws.length - k) 0 (by omega) (by repeat' (first | exact Sub.nil | refine Sub.val rfl (by first | with_reducible rfl | (congr 1; omega)) ?_ | refine Sub.same rfl ?_)) ?_
  intro k hk
  have hs := k3A ws hl k
  have hc := cnt_le (biA (c3A ws)) (64 * k)
  obtain ⟨e1, e2⟩ := hl.at k
  have hla : fuA ws k < 18446744073709551616 := by
    cases k with
    | zero => simp [fuA]
    | succ j => simp only [fuA]; have := (hl.at j).2; omega
  have hla2 : fuA ws (k + 1) = wd ws k / 9223372036854775808 := rfl
  have hsh : IntKind.u64.wrap (ws.getD k 0 * 2 ^ (1 : Int).toNat) = ((wd ws k * 2 % 18446744073709551616 : Nat) : Int) := by
    rw [e1, IntKind.wrap_u64, show (1 : Int).toNat = 1 by rfl, Int.pow_one]; omega
  have hor := or64 (wd ws k * 2 % 18446744073709551616) (fuA ws k) (by omega) hla
  have han := wvA (wd ws k) (wd ws k * 2 % 18446744073709551616 ||| fuA ws k)
  obtain ⟨G, hG⟩ : ∃ G, G = v1A (wd ws k) (wd ws k * 2 % 18446744073709551616 ||| fuA ws k) := ⟨_, rfl⟩
  have hGl : G < 18446744073709551616 := hG ▸ (BitVec.ofNat 64 (wd ws k) &&& ~~~BitVec.ofNat 64 (wd ws k * 2 % 18446744073709551616 ||| fuA ws k)).isLt
  rw [← hG] at hs han
  rw [← e1] at han
  have hp := t5A G
  by_cases hkl : k < ws.length
  · skip
    repeat' (first|(refine oLA ?_;first|refine a0A rfl ?_|(show LA _ _ _ _ (⟨_, .binOp .shl _ _ _ _, _, _, _, _⟩ :: _) _; refine hbA rfl rfl rfl (by omega) (by dsimp only [IntKind.bits]; omega) ?_; rw [hsh])|(show LA _ _ _ _ (⟨_, .binOp .or _ _ _ _, _, _, _, _⟩ :: _) _; refine chA (.inr (.inl rfl)) rfl rfl rfl ?_; rw [hor])|(show LA _ _ _ _ (⟨_, .binOp .andNot _ _ _ _, _, _, _, _⟩ :: _) _; refine chA (.inr (.inr (.inr rfl))) rfl rfl rfl ?_; rw [han])|(refine oC 181 ?_; refine a1A (f := 181) rfl rfl rfl  (.val (.int .i64 (fmA G))) (by intro u1 w e hu1; (try obtain rfl : u1 = _ := hu1); exact kbA rfl hGl) ?_)|refine wOp ?_|(refine wCm ?_ ?_<;>intro hc)|(refine wNl hK ?_;clear hK K))|refine wG ?_|(refine wCR ?_;intro K hK)|fail)
    refine bpA (k + 1) ?_ ?_ (by repeat' (first | exact Sub.nil | refine Sub.val rfl (by first | with_reducible rfl | (congr 1; omega)) ?_ | refine Sub.same rfl ?_))
    · omega
    · omega
  · obtain rfl : k = ws.length := by omega
    repeat' (first|(refine oLA ?_;first|refine a0A rfl ?_|refine wOp ?_|(refine wCm ?_ ?_<;>intro hc)|(refine wNl hK ?_;clear hK K))|refine wG ?_|(refine wCR ?_;intro K hK)|fail)
    exact abA rfl rfl (Ext.refl _) rfl
end Go.Proofs.YtfcioiobhpcngaaGreatDoor
end
section
set_option linter.unusedSimpArgs false
set_option linter.unusedVariables false
set_option maxRecDepth 3000
namespace Go.Proofs.YtfcioiobhpcngaaGreatDoor
open Go.LA Go.ArrP Go.RowKit
def Cut (W j x : Nat) : Prop := x < 18446744073709551616 ∧ ∀ b, x.testBit b = (W.testBit b && decide (j ≤ cnt (fun i => W.testBit i) b))
end Go.Proofs.YtfcioiobhpcngaaGreatDoor
end
section
set_option linter.unusedSimpArgs false
set_option linter.unusedVariables false
set_option maxRecDepth 3000
namespace Go.Proofs.YtfcioiobhpcngaaGreatDoor
open Go.LA Go.ArrP Go.RowKit
theorem ipA {k : IntKind} {xs : List Int} : ∀ u ∈ xs.map (Value.int k), u.oneCell' = true := fun u hu => by
  simp only [List.mem_map] at hu
  obtain ⟨x, _, rfl⟩ := hu
  rfl
def quA (ws : List Int) : List Int := ws.take 1024 ++ List.replicate (1024 - ws.length) 0
theorem liA (ws : List Int) : (quA ws).length = 1024 := by simp [quA]; omega
theorem uiA {ws : List Int} (h : Lw ws) : Lw (quA ws) := fun x hx => by
  rcases List.mem_append.1 hx with h1 | h1
  · exact h x (List.mem_of_mem_take h1)
  · exact kvA _ x h1
theorem qtA (ws : List Int) {i : Nat} (hi : i < 65536) : c3A (quA ws) i = c3A ws i := by
  unfold c3A wd
  congr 2
  unfold quA
  by_cases h : i / 64 < ws.length
  · rw [List.getD, List.getElem?_append_left (by rw [List.length_take]; omega), List.getElem?_take, if_pos (by omega)]; rfl
  · rw [List.getD, List.getElem?_append_right (by rw [List.length_take]; omega), List.getD, List.getElem?_eq_none (by omega : ws.length ≤ i / 64), List.getElem?_replicate]
    split <;> rfl
def kjA (ws : List Int) (lo hi : Int) (i : Nat) : Bool := !(c3A ws i == (decide (lo ≤ i) && decide ((i : Int) < hi)))
theorem qyA (d s : Nat) : (18446744073709551615 / 2 ^ (64 - d) * 2 ^ s : Int) % 18446744073709551616 = ((18446744073709551615 / 2 ^ (64 - d) * 2 ^ s % 18446744073709551616 : Nat) : Int) := by
  rw [Int.natCast_emod, Int.natCast_mul, Int.natCast_ediv, Int.natCast_pow, Int.natCast_pow]; rfl
theorem ttA {base e : Nat} {k : IntKind} {w : World} {v : Value} (h : OwnI base e k w v (List.replicate 1024 0)) : dyA v 0 1024 1 = v := by
  obtain ⟨gb, cap, cur, hv, hgb, hgc, hgn, hgm, hgs, hgt⟩ := h.row (by rw [List.length_replicate]; decide)
  rw [List.length_replicate] at hv hgn
  rw [hv, e8A (by omega), Nat.zero_mul, Nat.sub_zero, Nat.sub_zero]
theorem SlI.c64 {k : IntKind} {w : World} {v : Value} {xs : List Int} (h : SlI k w v xs) : SlC w v xs.length 1 (xs.map (Value.int k)) := h
theorem tnA (w : World) (v : Value) (ws : List Int) (lo hi : Int) (h : SlI .u64 w v ws) (hl : Lw ws) (hlo : -9223372036854775808 ≤ lo ∧ lo < 9223372036854775808) (hhi : -9223372036854775808 ≤ hi ∧ hi < 9223372036854775808) :
    Fc Tryz.prog 71 #[v, .int .i64 lo, .int .i64 hi] w (Ret w (.pred (bjA w.heap.size 22 .u64 (wordsOf (kjA ws lo hi))))) := by
  have hlen := h.len
  refine Fc.of (args := [_, _, _]) Tryz.func71 rfl rfl Tryz.ntmps71 (Nat.le_of_ble_eq_true rfl) ?_
  repeat' (first|(refine oLA ?_;first|refine a0A rfl ?_|refine j3A (n := 1024) rfl l5A rfl rfl (by decide) (by decide) ?_|refine egA rfl rfl rfl ?_|refine cmA rfl rfl rfl ?_|(refine oD 12 ?_; refine a4A (hK _ _ (byA 7 rfl (fun v7 w3 e3 h3 => ?_))); clear hK K; have h3 : OwnI w.heap.size 22 .u64 w3 v7 (List.replicate 1024 0) := h3; have hw3 := h.ext e3; have hv7 : dyA v7 0 (List.replicate 1024 (0 : Int)).length 1 = v7 := (by rw [List.length_replicate]; exact ttA h3); refine amA (by kernel_rfl) (fun K hK => ?_))|(refine a4A (hK _ _ (eeA 0 rfl (by intro q h; cases h; decide) l5A (by rw [hv7]; rfl) rfl h3 (SlI.c64 hw3) (Nat.zero_le _) (fun c hc => ipA c (List.mem_of_mem_take hc)) (fun w4 w5 e4 ho5 hg5 => ?_))); clear hK K; dsimp only [vals]; refine amA (by kernel_rfl) (fun K hK => ?_))|refine wOp ?_|(refine wCm ?_ ?_<;>intro hc)|(refine wNl hK ?_;clear hK K))|refine wG ?_|(refine wCR ?_;intro K hK)|fail)
  have x5 : Ext w w5 := (e3.trans e4).grown hg5 (fun q hq => (Own.lt h3 q hq).1)
  have o5 : OwnI w.heap.size 22 .u64 w5 v7 (quA ws) := by
    unfold OwnI
    rw [liA]
    have e : (List.map (Value.int .u64) (List.replicate 1024 (0 : Int))).take (0 * 1) ++ (List.map (Value.int .u64) ws).take (min ws.length ((List.replicate 1024 (0 : Int)).length - 0) * 1) ++ (List.map (Value.int .u64) (List.replicate 1024 (0 : Int))).drop ((0 + min ws.length ((List.replicate 1024 (0 : Int)).length - 0)) * 1) = (quA ws).map (Value.int .u64) := by
      rw [List.length_replicate, Nat.zero_mul, List.take_zero, List.nil_append, ← List.map_take, ← List.map_drop, ← List.map_append]
      unfold quA
      rw [List.drop_replicate, show min ws.length (1024 - 0) * 1 = min ws.length 1024 by omega, show 1024 - (0 + min ws.length (1024 - 0)) * 1 = 1024 - ws.length by omega]
      congr 2
      by_cases h : ws.length ≤ 1024
      · rw [Nat.min_eq_left h, List.take_of_length_le (Nat.le_refl _), List.take_of_length_le h]
      · rw [Nat.min_eq_right (by omega)]
    rw [e, List.length_replicate] at ho5; exact ho5
  obtain ⟨LO, hLO⟩ : ∃ LO : Nat, max lo 0 = LO := ⟨(max lo 0).toNat, by omega⟩
  obtain ⟨HI, hHI⟩ : ∃ HI : Int, min hi 65536 = HI := ⟨_, rfl⟩
  rw [hLO, hHI]
  have hLb : (LO : Int) < 9223372036854775808 := by omega
  have hHb : -9223372036854775808 ≤ HI ∧ HI ≤ 65536 := by omega
  refine ahA (ι := Nat × List Int) (fun i => [(1, .val (.int .i64 LO)), (2, .val (.int .i64 HI)), (7, .val v7), (19, .val (.int .i64 i.1))]) (fun i w' => Ext w w' ∧ i.1 ≤ 1024 ∧ i.2.length = 1024 ∧ Lw i.2 ∧ (∀ j, j < 65536 → c3A i.2 j = if j < 64 * i.1 then kjA ws lo hi j else c3A ws j) ∧ OwnI w.heap.size 22 .u64 w' v7 i.2)
    (fun i => 1024 - i.1) (fun w2 e2 => ⟨(0, quA ws), ⟨x5.trans e2, Nat.zero_le _, liA ws, uiA hl, fun j hj => by rw [qtA ws hj]; simp, o5.ext e2⟩, (by repeat' (first | exact Sub.nil | refine Sub.val rfl (by first | with_reducible rfl | (congr 1; omega)) ?_ | refine Sub.same rfl ?_))⟩) ?_
  rintro ⟨k, l⟩ w1 ⟨he, hk, hwl, hlw, hbit, ho⟩
  dsimp only at hk hwl hlw hbit ho ⊢
  clear hLb
  by_cases hkl : k < 1024
  · have tail : ∀ j, j < 65536 → j / 64 ≠ k → c3A l j = if j < 64 * (k + 1) then kjA ws lo hi j else c3A ws j := fun j hj e => by
      rw [hbit j hj]
      by_cases h1 : j < 64 * k
      · rw [if_pos h1, if_pos (by omega)]
      · rw [if_neg h1, if_neg (by omega)]
    by_cases hfg : max (LO : Int) (64 * k) < min HI (64 * k + 64)
    · obtain ⟨d, s, hs, hd, hds, hbits⟩ : ∃ d s : Nat, max (LO : Int) (64 * k) - 64 * k = s ∧ min HI (64 * k + 64) - max (LO : Int) (64 * k) = d ∧ (0 < d ∧ d + s ≤ 64) ∧ ∀ b, b < 64 → ((decide (s ≤ b) && decide (b < s + d)) = (decide (lo ≤ ((64 * k + b : Nat) : Int)) && decide (((64 * k + b : Nat) : Int) < hi))) := by
        refine ⟨(min HI (64 * k + 64) - max (LO : Int) (64 * k)).toNat, (max (LO : Int) (64 * k) - 64 * k).toNat, by omega, by omega, by omega, fun b hb => ?_⟩
        congr 1
        · rw [decide_eq_decide]; omega
        · rw [decide_eq_decide]; omega
      obtain ⟨M, hM⟩ : ∃ M : Nat, M = 18446744073709551615 / 2 ^ (64 - d) * 2 ^ s % 18446744073709551616 := ⟨_, rfl⟩
      have hmask : ∀ b, M.testBit b = (decide (s ≤ b) && decide (b < s + d)) := fun b => by rw [hM]; exact qzA d s b hds.2
      have hMi : IntKind.u64.wrap (18446744073709551615 / 2 ^ (64 - (min HI (64 * (k : Int) + 64) - max (LO : Int) (64 * k))).toNat * 2 ^ (max (LO : Int) (64 * k) - 64 * k).toNat) = (M : Int) := by
        rw [hs, hd, hM, IntKind.wrap_u64, show (64 - (d : Int)).toNat = 64 - d by omega, Int.toNat_natCast]
        exact qyA d s
      obtain ⟨gb, cap, cur, rfl, hgb, hgc, hgn, hgm, hgs, hgt⟩ := ho.row (by omega)
      have hra := npA hgt (i := 0 + k * 1) (by omega)
      obtain ⟨e1, e2⟩ := hlw.at k
      rw [show 0 + k * 1 = k by omega, e1] at hra
      repeat' (first|(refine oLA ?_;first|refine a0A rfl ?_|refine egA rfl rfl rfl ?_|refine cmA rfl rfl rfl ?_|(refine cuA (s := 1) rfl rfl (fun _ => rfl) rfl rfl (by omega) (by omega) ?_; rw [Int.toNat_natCast])|refine a8A rfl (fun _ => rfl) rfl hgc (by rw [show 0 + k * 1 = k by omega]; exact hra) ?_|(refine chA (.inr (.inr (.inl rfl))) rfl rfl rfl ?_; rw [hMi, xor64])|(refine a4A (hK _ _ rfl (deA (o := 0 + k * 1) rfl rfl rfl hgc (fun _ => rfl) (by omega) rfl rfl (fun w4 e4 => ?_))); clear hK K; dsimp only [vals]; refine amA (by kernel_rfl) (fun K hK => ?_))|refine wOp ?_|(refine wCm ?_ ?_<;>intro hc)|(refine wNl hK ?_;clear hK K))|(refine oCX ?_;first|refine brA 16 (by decide) (by kernel_rfl) (by kernel_rfl) (fun K hK => ?_))|refine wG ?_|(refine wCR ?_;intro K hK)|fail)
      refine a7A (k + 1, l.set (0 + k * 1) ((x9A (wd l k) M : Nat) : Int)) (fun w5 e5 => ⟨((he.trans e4).setRow hgb _).trans e5, ?_, ?_, ?_, ?_, ?_⟩) ?_ (by repeat' (first | exact Sub.nil | refine Sub.val rfl (by first | with_reducible rfl | (congr 1; omega)) ?_ | refine Sub.same rfl ?_))
      · dsimp only; omega
      · dsimp only; simp [hwl]
      · exact hlw.set _ (BitVec.ofNat 64 (wd l k) ^^^ BitVec.ofNat 64 M).isLt
      · intro j hj
        dsimp only
        rw [show 0 + k * 1 = k by omega, jbA (by omega)]
        by_cases e : j / 64 = k
        · have hb := hbit j hj
          rw [if_neg (by omega)] at hb
          rw [if_pos e, rcA _ _ _ (by omega), if_pos (by omega), hmask, hbits _ (by omega), show 64 * k + j % 64 = j by omega]
          unfold kjA
          rw [← hb]
          unfold c3A; rw [e]
        · rw [if_neg e]; exact tail j hj e
      · have hh := OwnI.set hgb (e4.block hgc) hgn hgm hgs hgt (0 + k * 1) (by omega) ((x9A (wd l k) M : Nat) : Int)
        dsimp only
        exact OwnI.ext hh e5
      · dsimp only; omega
    · skip
      repeat' (first|(refine oLA ?_;first|refine a0A rfl ?_|refine egA rfl rfl rfl ?_|refine cmA rfl rfl rfl ?_|refine wOp ?_|(refine wCm ?_ ?_<;>intro hc)|(refine wNl hK ?_;clear hK K))|refine wG ?_|(refine wCR ?_;intro K hK)|fail)
      refine a7A (k + 1, l) (fun w5 e5 => ⟨he.trans e5, ?_, hwl, hlw, ?_, ho.ext e5⟩) ?_ (by repeat' (first | exact Sub.nil | refine Sub.val rfl (by first | with_reducible rfl | (congr 1; omega)) ?_ | refine Sub.same rfl ?_))
      · dsimp only; omega
      · intro j hj
        dsimp only
        by_cases e : j / 64 = k
        · have hb := hbit j hj
          rw [if_neg (by omega)] at hb
          rw [hb, if_pos (by omega)]
          unfold kjA
          have : (decide (lo ≤ (j : Int)) && decide ((j : Int) < hi)) = false := by
            rw [Bool.and_eq_false_iff, decide_eq_false_iff_not, decide_eq_false_iff_not]; omega
          rw [this]; cases c3A ws j <;> rfl
        · exact tail j hj e
      · dsimp only; omega
  · obtain rfl : k = 1024 := by omega
    repeat' (first|(refine oLA ?_;first|refine a0A rfl ?_|refine wOp ?_|(refine wCm ?_ ?_<;>intro hc)|(refine wNl hK ?_;clear hK K))|refine wG ?_|(refine wCR ?_;intro K hK)|fail)
    refine alA rfl rfl he (fun u w2 e2 hu => ?_)
    obtain rfl : u = _ := hu
    have hh := ho.ext e2
    rwa [i4A hlw hwl, beA (q := kjA ws lo hi) (fun i hi => by rw [hbit i hi, if_pos (by omega)])] at hh
end Go.Proofs.YtfcioiobhpcngaaGreatDoor
end
section
set_option linter.unusedSimpArgs false
set_option linter.unusedVariables false
set_option maxRecDepth 3000
namespace Go.Proofs.YtfcioiobhpcngaaGreatDoor
open Go.LA Go.ArrP Go.RowKit
def iyA (what : Int) (a b : Bool) : Bool := if what = 1 then a && b else if what = 2 then a || b else if what = 3 then a && !b else !(a == b)
end Go.Proofs.YtfcioiobhpcngaaGreatDoor
end
section
set_option linter.unusedSimpArgs false
set_option linter.unusedVariables false
set_option maxRecDepth 3000
namespace Go.Proofs.YtfcioiobhpcngaaGreatDoor
open Go.LA Go.ArrP Go.RowKit
def jrA (p : Nat → Bool) (lo hi : Int) (i : Nat) : Bool := !(p i == (decide (lo ≤ i) && decide ((i : Int) < hi)))
end Go.Proofs.YtfcioiobhpcngaaGreatDoor
end
section
set_option linter.unusedSimpArgs false
set_option linter.unusedVariables false
namespace Go.LA
open Go.RowKit Go.ArrP
def mlA (xs : List Int) (x : Int) : List Int := if crA xs x = true then xs else xs.take (bsS xs x) ++ [x] ++ xs.drop (bsS xs x)
theorem naA {xs : List Int} {x : Int} (h : Inc xs) : Inc (mlA xs x) := by
  unfold mlA
  split
  · exact h
  · rename_i hf
    rw [e5A x h, decide_eq_true_eq] at hf
    obtain ⟨g1, g2⟩ := giA x h
    have g3 := m8A xs x
    have ht : Inc (xs.take (bsS xs x)) := h.sublist (List.take_sublist _ _)
    have hd : Inc (xs.drop (bsS xs x)) := h.sublist (List.drop_sublist _ _)
    have hlt : ∀ z ∈ xs.take (bsS xs x), z < x := fun z hz => by
      obtain ⟨k, hk, rfl⟩ := List.getElem_of_mem hz
      rw [List.length_take] at hk
      have := g1 k (by omega)
      rw [axA (by omega)] at this
      rw [List.getElem_take]; exact this
    have hgt : ∀ z ∈ xs.drop (bsS xs x), x < z := fun z hz => by
      obtain ⟨k, hk, rfl⟩ := List.getElem_of_mem hz
      rw [List.length_drop] at hk
      have := g2 (bsS xs x + k) (by omega) (by omega)
      rw [axA (by omega)] at this
      rw [List.getElem_drop]
      have hne : x ≠ xs[bsS xs x + k] := fun e => hf (by rw [e]; exact List.getElem_mem _)
      omega
    refine List.pairwise_append.2 ⟨List.pairwise_append.2 ⟨ht, List.pairwise_singleton _ _, fun a ha b hb => ?_⟩, hd, fun a ha b hb => ?_⟩
    · simp at hb; subst hb; exact hlt a ha
    · rcases List.mem_append.1 ha with ha | ha
      · have := hlt a ha; have := hgt b hb; omega
      · simp at ha; subst ha; exact hgt b hb
theorem n9A {xs : List Int} {x : Int} (h : Inc xs) (z : Int) : z ∈ mlA xs x ↔ z ∈ xs ∨ z = x := by
  unfold mlA
  split
  · rename_i hf
    rw [e5A x h, decide_eq_true_eq] at hf
    exact ⟨.inl, fun h => h.elim id (fun e => e ▸ hf)⟩
  · rw [List.mem_append, List.mem_append]
    conv => rhs; rw [← List.take_append_drop (bsS xs x) xs]
    rw [List.mem_append]
    simp only [List.mem_singleton]
    constructor
    · rintro ((h | h) | h)
      · exact .inl (.inl h)
      · exact .inr h
      · exact .inl (.inr h)
    · rintro ((h | h) | h)
      · exact .inl (.inl h)
      · exact .inr h
      · exact .inl (.inr h)
def xgA (p : Nat → Bool) (x : Nat) (i : Nat) : Bool := p i || decide (i = x)
theorem q9A {xs : List Int} {x : Int} (h : Inc xs) (hl : Low xs) (h0 : 0 ≤ x) (h1 : x < 65536) : mlA xs x = adA (xgA (bkA xs) x.toNat) 65536 := by
  refine ffA (naA h) (bfA _ _) fun z => ?_
  rw [n9A h, buA]
  constructor
  · rintro (hz | rfl)
    · have := hl z hz
      exact ⟨z.toNat, by omega, by simp only [xgA, bkA, show ((z.toNat : Nat) : Int) = z by omega]; simp [hz], by omega⟩
    · exact ⟨z.toNat, by omega, by simp [xgA], by omega⟩
  · rintro ⟨i, g1, g2, rfl⟩
    simp only [xgA, bkA, Bool.or_eq_true, decide_eq_true_eq] at g2
    rcases g2 with g2 | g2
    · exact .inl g2
    · right; omega
theorem k9A (p : Nat → Bool) {m : Nat} (hm : m < 65536) (hp : p m = true) : gsA (adA p 65536) (cnt p m) = biA p m := by
  have hx := f4A p 65536 m hm hp
  have hs : biA p m = (m == 0 || !p (m - 1)) := by simp [biA, hp]
  rw [hs]
  simp only [gsA, hx]
  by_cases h0 : m = 0
  · subst h0; simp [cnt]
  · have e0 : (m == 0) = false := by simpa using h0
    rw [e0, Bool.false_or]
    cases hq : p (m - 1)
    · rw [Bool.not_false, decide_eq_true_eq]
      by_cases hk : cnt p m = 0
      · exact .inl hk
      · right
        obtain ⟨j, g1, g2, g3, g4⟩ := e3A p 65536 (cnt p m - 1) (by have := cnt_mono p (m := m) 65536 (by omega); omega)
        rw [g4]
        have : j ≠ m - 1 := fun e => by rw [e, hq] at g2; cases g2
        have : j < m := by
          rcases Nat.lt_or_ge j m with h | h
          · exact h
          · have := cnt_mono p (m := m) j h; omega
        omega
    · rw [Bool.not_true, decide_eq_false_iff_not]
      have hc : cnt p m = cnt p (m - 1) + 1 := by
        conv => lhs; rw [show m = (m - 1) + 1 by omega]
        simp [cnt, hq]
      have hy := f4A p 65536 (m - 1) (by omega) hq
      rintro (h | h)
      · omega
      · rw [hc, Nat.add_sub_cancel, hy] at h; omega
theorem g7A (p : Nat → Bool) : ∀ m, m ≤ 65536 → g8A (adA p 65536) (cnt p m) = cnt (biA p) m
  | 0, _ => rfl
  | m + 1, hm => by
    have ih := g7A p m (by omega)
    cases hp : p m
    · have : biA p m = false := by simp [biA, hp]
      simp only [cnt, hp, this, Bool.false_eq_true, if_false, Nat.add_zero]; exact ih
    · simp only [cnt, hp, if_true]
      rw [gpA, ih, k9A p (by omega) hp]
theorem k7A (p : Nat → Bool) : tzA (adA p 65536) = cnt (biA p) 65536 := by
  unfold tzA; rw [baA]; exact g7A p 65536 (Nat.le_refl _)
end Go.LA
end
