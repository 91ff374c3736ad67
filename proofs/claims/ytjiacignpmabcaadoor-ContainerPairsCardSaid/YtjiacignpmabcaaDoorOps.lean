/- The single operations of a walk over abstract values. -/
import Derived.Test.YtjiacignpmabcaaDoorLa
namespace Go.LA
open Go.RowKit

/-! ### What the cells of a slice hold -/
def ptrC (cs : List Value) : AV := ⟨fun v w => ∃ p : Addr, v = .pointer (some p) ∧ ∀ (j : Nat) (c : Value), cs[j]? = some c → w.cell? (p.add j) = some c,
  fun _ _ _ e ⟨p, h1, h2⟩ => ⟨p, h1, fun j c h => e.cell (h2 j c h)⟩⟩

def SlC (w : World) (v : Value) (n s : Nat) (cs : List Value) : Prop :=
  cs.length = n * s ∧ ∃ (a : Option Addr) (cap : Nat), v = .slice a n cap ∧ n ≤ cap ∧ cap ≤ maxLen ∧ (a = none → cap = 0) ∧ (n = 0 ∨ ∃ b off, a = some ⟨b, off, none⟩ ∧ ∀ (j : Nat) (c : Value), cs[j]? = some c → w.cell? ⟨b, off + j, none⟩ = some c)

theorem SlC.ext {w w' : World} {v : Value} {n s : Nat} {cs : List Value} (h : SlC w v n s cs) (e : Ext w w') : SlC w' v n s cs := by
  obtain ⟨h0, a, cap, h1, h2, h3, h4, h5⟩ := h
  refine ⟨h0, a, cap, h1, h2, h3, h4, ?_⟩
  rcases h5 with h5 | ⟨b, off, h5, h6⟩
  · exact .inl h5
  · exact .inr ⟨b, off, h5, fun j c hj => e.cell (h6 j c hj)⟩

def slC (n s : Nat) (cs : List Value) : AV := ⟨fun v w => SlC w v n s cs, fun _ _ _ e h => h.ext e⟩

/-- A slice of integers. -/
def SlI (k : IntKind) (w : World) (v : Value) (xs : List Int) : Prop := SlC w v xs.length 1 (xs.map (Value.int k))
theorem SlI.ext {k : IntKind} {w w' : World} {v : Value} {xs : List Int} (h : SlI k w v xs) (e : Ext w w') : SlI k w' v xs := SlC.ext h e
def slI (k : IntKind) (xs : List Int) : AV := ⟨fun v w => SlI k w v xs, fun _ _ _ e h => h.ext e⟩
theorem SlI.len {k : IntKind} {w : World} {v : Value} {xs : List Int} (h : SlI k w v xs) : xs.length ≤ 9223372036854775807 := by
  obtain ⟨_, a, cap, _, h2, h3, _⟩ := h
  unfold maxLen at h3; omega
theorem SlC.len {w : World} {v : Value} {n s : Nat} {cs : List Value} (h : SlC w v n s cs) : n ≤ 9223372036854775807 := by
  obtain ⟨_, a, cap, _, h2, h3, _⟩ := h
  unfold maxLen at h3; omega

theorem SlC.isSlice {w : World} {v : Value} {n s : Nat} {cs : List Value} (h : SlC w v n s cs) : ∃ a c, v = .slice a n c := let ⟨_, a, c, h, _⟩ := h; ⟨a, c, h⟩
theorem SlI.isSlice {k : IntKind} {w : World} {v : Value} {xs : List Int} (h : SlI k w v xs) : ∃ a c, v = .slice a xs.length c := SlC.isSlice h

/-- What is known of a slot says that it holds such a slice, in every later world. -/
def HasC (wb : World) (r : AD) (n s : Nat) (cs : List Value) : Prop := ∀ v w, Ext wb w → r.ok v w → SlC w v n s cs
def HasI (wb : World) (r : AD) (k : IntKind) (xs : List Int) : Prop := ∀ v w, Ext wb w → r.ok v w → SlI k w v xs
theorem HasC.val {wb : World} {u : Value} {n s : Nat} {cs : List Value} (h : SlC wb u n s cs) : HasC wb (.val u) n s cs := fun v w e hv => by
  have hv : v = u := hv
  subst hv; exact h.ext e
theorem HasC.pred {wb : World} {n s : Nat} {cs : List Value} : HasC wb (.pred (slC n s cs)) n s cs := fun _ _ _ hv => hv
theorem HasI.val {wb : World} {u : Value} {k : IntKind} {xs : List Int} (h : SlI k wb u xs) : HasI wb (.val u) k xs := fun v w e hv => by
  have hv : v = u := hv
  subst hv; exact h.ext e
theorem HasI.pred {wb : World} {k : IntKind} {xs : List Int} : HasI wb (.pred (slI k xs)) k xs := fun _ _ _ hv => hv
theorem HasI.c {wb : World} {r : AD} {k : IntKind} {xs : List Int} (h : HasI wb r k xs) : HasC wb r xs.length 1 (xs.map (Value.int k)) := h

section
variable {P : Program} {l : List Oper} {N : Nat} {wb : World} {K : List Oper → Env → Prop} {rest : List Oper} {E : Env}

theorem OB_val {o : Oper} {v : Value} (h : ∀ (a : Act) (w : World), Ext wb w → (∀ x ∈ o.op.operands, (opE E x).ok (a.eval x) w) → (execOp a.eval o).run P w = .ok (.value v) w) : OB P wb E o (.val v) := fun a w he hx => by
  rw [h a w he hx]; exact ⟨Ext.refl _, rfl⟩

variable {d : Tmp} {ty t t' : TypeId} {pos : String} {after : Array Edge} {g : Option (Nat × Bool)} {x y z : Operand} {k k' : IntKind}

/-! ### Values that are handed on -/
theorem OB_move {r : AD} {o : Oper} (ho : o.op = .move x ∨ o.op = .assign x) (hx : opE E x = r) : OB P wb E o r := fun a w he h => by
  obtain ⟨dst, op, ty, pos, after, guard⟩ := o
  simp only at ho h
  rcases ho with rfl | rfl
  · have h1 := h x (by simp [Op.operands])
    rw [hx] at h1
    simp only [execOp, Sem.run_pure]; exact ⟨Ext.refl _, h1⟩
  · have h1 := h x (by simp [Op.operands])
    rw [hx] at h1
    simp only [execOp, Sem.run_pure]; exact ⟨Ext.refl _, h1⟩
theorem LA_move {r : AD} (hg : gdec l E g = some true) (hx : opE E x = r) (h : LA P l wb K rest ((d, r) :: E)) : LA P l wb K (⟨some d, .move x, ty, pos, after, g⟩ :: rest) E :=
  LA_of r hg (OB_move (.inl rfl) hx) h
theorem LA_assign {r : AD} (hg : gdec l E g = some true) (hx : opE E x = r) (h : LA P l wb K rest ((d, r) :: E)) : LA P l wb K (⟨some d, .assign x, ty, pos, after, g⟩ :: rest) E :=
  LA_of r hg (OB_move (.inr rfl) hx) h
theorem LA_moveV {c : Value} (hg : gdec l E g = some true) (hx : opE E x = .val c) (h : LA P l wb K rest ((d, .val c) :: E)) : LA P l wb K (⟨some d, .move x, ty, pos, after, g⟩ :: rest) E := LA_move hg hx h
theorem LA_moveP {φ : AV} (hg : gdec l E g = some true) (hx : opE E x = .pred φ) (h : LA P l wb K rest ((d, .pred φ) :: E)) : LA P l wb K (⟨some d, .move x, ty, pos, after, g⟩ :: rest) E := LA_move hg hx h
theorem LA_moveT {a b : AD} (hg : gdec l E g = some true) (hx : opE E x = .tup2 a b) (h : LA P l wb K rest ((d, .tup2 a b) :: E)) : LA P l wb K (⟨some d, .move x, ty, pos, after, g⟩ :: rest) E := LA_move hg hx h
theorem LA_moveU {a b c : AD} (hg : gdec l E g = some true) (hx : opE E x = .tup3 a b c) (h : LA P l wb K rest ((d, .tup3 a b c) :: E)) : LA P l wb K (⟨some d, .move x, ty, pos, after, g⟩ :: rest) E := LA_move hg hx h
theorem LA_moveA  (hg : gdec l E g = some true) (hx : opE E x = .any) (h : LA P l wb K rest ((d, .any) :: E)) : LA P l wb K (⟨some d, .move x, ty, pos, after, g⟩ :: rest) E := LA_move hg hx h
theorem LA_assignV {c : Value} (hg : gdec l E g = some true) (hx : opE E x = .val c) (h : LA P l wb K rest ((d, .val c) :: E)) : LA P l wb K (⟨some d, .assign x, ty, pos, after, g⟩ :: rest) E := LA_assign hg hx h
theorem LA_assignP {φ : AV} (hg : gdec l E g = some true) (hx : opE E x = .pred φ) (h : LA P l wb K rest ((d, .pred φ) :: E)) : LA P l wb K (⟨some d, .assign x, ty, pos, after, g⟩ :: rest) E := LA_assign hg hx h
theorem LA_assignT {a b : AD} (hg : gdec l E g = some true) (hx : opE E x = .tup2 a b) (h : LA P l wb K rest ((d, .tup2 a b) :: E)) : LA P l wb K (⟨some d, .assign x, ty, pos, after, g⟩ :: rest) E := LA_assign hg hx h
theorem LA_assignU {a b c : AD} (hg : gdec l E g = some true) (hx : opE E x = .tup3 a b c) (h : LA P l wb K rest ((d, .tup3 a b c) :: E)) : LA P l wb K (⟨some d, .assign x, ty, pos, after, g⟩ :: rest) E := LA_assign hg hx h
theorem LA_assignA  (hg : gdec l E g = some true) (hx : opE E x = .any) (h : LA P l wb K rest ((d, .any) :: E)) : LA P l wb K (⟨some d, .assign x, ty, pos, after, g⟩ :: rest) E := LA_assign hg hx h
/-- An operation that is passed over. -/
theorem LA_pass {op : Op} (hg : gdec l E g = some false) (h : LA P l wb K rest ((d, .val undef) :: E)) : LA P l wb K (⟨some d, op, ty, pos, after, g⟩ :: rest) E := LA_skip hg h
theorem LA_pickT {r : AD} (hg : gdec l E g = some true) (hc : opE E x = .val (.bool true)) (hx : opE E y = r) (h : LA P l wb K rest ((d, r) :: E)) : LA P l wb K (⟨some d, .pick x y z, ty, pos, after, g⟩ :: rest) E :=
  LA_of r hg (fun a w he hh => by
    have h0 := hh x (by simp [Op.operands]); have h1 := hh y (by simp [Op.operands])
    rw [hc] at h0; rw [hx] at h1; simp only [AD.ok] at h0
    simp only [execOp, h0, asBool, Sem.run_bind, Sem.run_pure, Result.andThen_ok, if_true]
    exact ⟨Ext.refl _, h1⟩) h
theorem LA_pickF {r : AD} (hg : gdec l E g = some true) (hc : opE E x = .val (.bool false)) (hx : opE E z = r) (h : LA P l wb K rest ((d, r) :: E)) : LA P l wb K (⟨some d, .pick x y z, ty, pos, after, g⟩ :: rest) E :=
  LA_of r hg (fun a w he hh => by
    have h0 := hh x (by simp [Op.operands]); have h1 := hh z (by simp [Op.operands])
    rw [hc] at h0; rw [hx] at h1; simp only [AD.ok] at h0
    simp only [execOp, h0, asBool, Sem.run_bind, Sem.run_pure, Result.andThen_ok, Bool.false_eq_true, if_false]
    exact ⟨Ext.refl _, h1⟩) h
theorem LA_pickTV {c : Value} (hg : gdec l E g = some true) (hc : opE E x = .val (.bool true)) (hx : opE E y = .val c) (h : LA P l wb K rest ((d, .val c) :: E)) : LA P l wb K (⟨some d, .pick x y z, ty, pos, after, g⟩ :: rest) E := LA_pickT hg hc hx h
theorem LA_pickFV {c : Value} (hg : gdec l E g = some true) (hc : opE E x = .val (.bool false)) (hx : opE E z = .val c) (h : LA P l wb K rest ((d, .val c) :: E)) : LA P l wb K (⟨some d, .pick x y z, ty, pos, after, g⟩ :: rest) E := LA_pickF hg hc hx h
theorem LA_not {b : Bool} (hg : gdec l E g = some true) (hc : opE E x = .val (.bool b)) (h : LA P l wb K rest ((d, .val (.bool (!b))) :: E)) : LA P l wb K (⟨some d, .unOp .not t x, ty, pos, after, g⟩ :: rest) E :=
  LA_of _ hg (OB_val fun a w he hh => by
    have h0 := hh x (by simp [Op.operands])
    rw [hc] at h0; simp only [AD.ok] at h0
    simp only [execOp, h0, Op.unary, Sem.run_bind, Sem.run_pure, Result.andThen_ok]) h
theorem LA_notT (hg : gdec l E g = some true) (hc : opE E x = .val (.bool true)) (h : LA P l wb K rest ((d, .val (.bool false)) :: E)) : LA P l wb K (⟨some d, .unOp .not t x, ty, pos, after, g⟩ :: rest) E := LA_not hg hc h
theorem LA_notF (hg : gdec l E g = some true) (hc : opE E x = .val (.bool false)) (h : LA P l wb K rest ((d, .val (.bool true)) :: E)) : LA P l wb K (⟨some d, .unOp .not t x, ty, pos, after, g⟩ :: rest) E := LA_not hg hc h
theorem LA_ext0 {r r' : AD} (hg : gdec l E g = some true) (hx : opE E x = .tup2 r r') (h : LA P l wb K rest ((d, r) :: E)) : LA P l wb K (⟨some d, .extract x 0, ty, pos, after, g⟩ :: rest) E :=
  LA_of _ hg (fun a w he hh => by
    have h0 := hh x (by simp [Op.operands])
    rw [hx] at h0
    obtain ⟨u, v, h1, h2, h3⟩ := h0
    simp only [execOp, h1, Instr.extract, Sem.run_bind]; exact ⟨Ext.refl _, h2⟩) h
theorem LA_ext1 {r r' : AD} (hg : gdec l E g = some true) (hx : opE E x = .tup2 r r') (h : LA P l wb K rest ((d, r') :: E)) : LA P l wb K (⟨some d, .extract x 1, ty, pos, after, g⟩ :: rest) E :=
  LA_of _ hg (fun a w he hh => by
    have h0 := hh x (by simp [Op.operands])
    rw [hx] at h0
    obtain ⟨u, v, h1, h2, h3⟩ := h0
    simp only [execOp, h1, Instr.extract, Sem.run_bind]; exact ⟨Ext.refl _, h3⟩) h
theorem LA_ext30 {r r' r'' : AD} (hg : gdec l E g = some true) (hx : opE E x = .tup3 r r' r'') (h : LA P l wb K rest ((d, r) :: E)) : LA P l wb K (⟨some d, .extract x 0, ty, pos, after, g⟩ :: rest) E :=
  LA_of _ hg (fun a w he hh => by
    have h0 := hh x (by simp [Op.operands])
    rw [hx] at h0
    obtain ⟨u, v, z, h1, h2, h3, h4⟩ := h0
    simp only [execOp, h1, Instr.extract, Sem.run_bind]; exact ⟨Ext.refl _, h2⟩) h
theorem LA_ext31 {r r' r'' : AD} (hg : gdec l E g = some true) (hx : opE E x = .tup3 r r' r'') (h : LA P l wb K rest ((d, r') :: E)) : LA P l wb K (⟨some d, .extract x 1, ty, pos, after, g⟩ :: rest) E :=
  LA_of _ hg (fun a w he hh => by
    have h0 := hh x (by simp [Op.operands])
    rw [hx] at h0
    obtain ⟨u, v, z, h1, h2, h3, h4⟩ := h0
    simp only [execOp, h1, Instr.extract, Sem.run_bind]; exact ⟨Ext.refl _, h3⟩) h
theorem LA_ext32 {r r' r'' : AD} (hg : gdec l E g = some true) (hx : opE E x = .tup3 r r' r'') (h : LA P l wb K rest ((d, r'') :: E)) : LA P l wb K (⟨some d, .extract x 2, ty, pos, after, g⟩ :: rest) E :=
  LA_of _ hg (fun a w he hh => by
    have h0 := hh x (by simp [Op.operands])
    rw [hx] at h0
    obtain ⟨u, v, z, h1, h2, h3, h4⟩ := h0
    simp only [execOp, h1, Instr.extract, Sem.run_bind]; exact ⟨Ext.refl _, h4⟩) h

/-! ### Integers -/
def isCmp : BinOp → Bool
  | .lss | .leq | .gtr | .geq | .eql | .neq => true
  | _ => false
def cmpP : BinOp → Int → Int → Prop
  | .lss, a, b => a < b
  | .leq, a, b => a ≤ b
  | .gtr, a, b => b < a
  | .geq, a, b => b ≤ a
  | .eql, a, b => a = b
  | .neq, a, b => a ≠ b
  | _, _, _ => False

theorem run_cmp {op : BinOp} {a b : Int} {v : Bool} (hc : isCmp op = true) (hv : cmpP op a b ↔ v = true) (w : World) : (binOp op t (.int k a) (.int k b)).run P w = .ok (.bool v) w := by
  cases op <;> simp only [isCmp, Bool.false_eq_true] at hc <;> simp only [binOp_lss, binOp_leq, binOp_gtr, binOp_geq, binOp_eql, binOp_neq, Sem.run_pure, cmpP] at hv ⊢ <;>
    (congr 2; rw [Bool.eq_iff_iff, ← hv]; simp)

theorem OB_cmp {op : BinOp} {a b : Int} {v : Bool} (hx : opE E x = .val (.int k a)) (hy : opE E y = .val (.int k b)) (hc : isCmp op = true) (hv : cmpP op a b ↔ v = true) :
    OB P wb E ⟨some d, .binOp op t x y t', ty, pos, after, g⟩ (.val (.bool v)) := OB_val fun a w he h => by
  have h1 := h x (by simp [Op.operands]); have h2 := h y (by simp [Op.operands])
  rw [hx] at h1; rw [hy] at h2
  simp only [AD.ok] at h1 h2
  simp only [execOp, h1, h2, Sem.run_bind, eqGuard_at_int, Sem.run_pure, Result.andThen_ok, run_cmp hc hv]

theorem LA_cmpT {op : BinOp} {a b : Int} (hg : gdec l E g = some true) (hx : opE E x = .val (.int k a)) (hy : opE E y = .val (.int k b)) (hc : isCmp op = true) (hp : cmpP op a b)
    (h : LA P l wb K rest ((d, .val (.bool true)) :: E)) : LA P l wb K (⟨some d, .binOp op t x y t', ty, pos, after, g⟩ :: rest) E :=
  LA_of _ hg (OB_cmp hx hy hc ⟨fun _ => rfl, fun _ => hp⟩) h
theorem LA_cmpF {op : BinOp} {a b : Int} (hg : gdec l E g = some true) (hx : opE E x = .val (.int k a)) (hy : opE E y = .val (.int k b)) (hc : isCmp op = true) (hp : ¬ cmpP op a b)
    (h : LA P l wb K rest ((d, .val (.bool false)) :: E)) : LA P l wb K (⟨some d, .binOp op t x y t', ty, pos, after, g⟩ :: rest) E :=
  LA_of (.val (.bool false)) hg (OB_cmp hx hy hc ⟨fun h => absurd h hp, fun h => by cases h⟩) h
theorem LA_cmp {op : BinOp} {a b : Int} (hg : gdec l E g = some true) (hx : opE E x = .val (.int k a)) (hy : opE E y = .val (.int k b)) (hc : isCmp op = true)
    (h : cmpP op a b → LA P l wb K rest ((d, .val (.bool true)) :: E)) (h' : ¬ cmpP op a b → LA P l wb K rest ((d, .val (.bool false)) :: E)) :
    LA P l wb K (⟨some d, .binOp op t x y t', ty, pos, after, g⟩ :: rest) E := by
  by_cases hp : cmpP op a b
  · exact LA_cmpT hg hx hy hc hp (h hp)
  · exact LA_cmpF hg hx hy hc hp (h' hp)

def isAr : BinOp → Bool
  | .add | .sub | .mul => true
  | _ => false
def arI : BinOp → Int → Int → Int
  | .add, a, b => a + b
  | .sub, a, b => a - b
  | .mul, a, b => a * b
  | _, a, _ => a
theorem OB_ar {op : BinOp} {a b : Int} (hx : opE E x = .val (.int k a)) (hy : opE E y = .val (.int k b)) (hc : isAr op = true) :
    OB P wb E ⟨some d, .binOp op t x y t', ty, pos, after, g⟩ (.val (.int k (k.wrap (arI op a b)))) := OB_val fun a w he h => by
  have h1 := h x (by simp [Op.operands]); have h2 := h y (by simp [Op.operands])
  rw [hx] at h1; rw [hy] at h2
  simp only [AD.ok] at h1 h2
  cases op <;> simp only [isAr, Bool.false_eq_true] at hc <;>
    simp only [execOp, h1, h2, Sem.run_bind, eqGuard_at_int, Sem.run_pure, Result.andThen_ok, binOp_add, binOp_sub, binOp_mul, Op.intArith, arI]
/-- Whole numbers of 64 bits that do not overflow. -/
theorem LA_ar {op : BinOp} {a b : Int} (hg : gdec l E g = some true) (hx : opE E x = .val (.int .i64 a)) (hy : opE E y = .val (.int .i64 b)) (hc : isAr op = true)
    (h0 : -9223372036854775808 ≤ arI op a b ∧ arI op a b ≤ 9223372036854775807) (h : LA P l wb K rest ((d, .val (.int .i64 (arI op a b))) :: E)) :
    LA P l wb K (⟨some d, .binOp op t x y t', ty, pos, after, g⟩ :: rest) E := by
  have e : IntKind.i64.wrap (arI op a b) = arI op a b := IntWalk.i64_in _ h0
  have h1 := OB_ar (P := P) (wb := wb) (d := d) (t := t) (t' := t') (ty := ty) (pos := pos) (after := after) (g := g) hx hy hc
  rw [e] at h1
  exact LA_of _ hg h1 h
theorem LA_arW {op : BinOp} {a b : Int} (hg : gdec l E g = some true) (hx : opE E x = .val (.int k a)) (hy : opE E y = .val (.int k b)) (hc : isAr op = true)
    (h : LA P l wb K rest ((d, .val (.int k (k.wrap (arI op a b)))) :: E)) :
    LA P l wb K (⟨some d, .binOp op t x y t', ty, pos, after, g⟩ :: rest) E := LA_of _ hg (OB_ar hx hy hc) h

/-- A whole number of another kind. -/
theorem LA_conv {src dst : TypeId} {n : Int} {kd : IntKind} (hg : gdec l E g = some true) (hs : (P.underlying src).isSome = true) (hd : P.underlying dst = some (.int kd)) (hx : opE E x = .val (.int k n))
    (h : LA P l wb K rest ((d, .val (.int kd (kd.wrap n))) :: E)) : LA P l wb K (⟨some d, .convert src dst x, ty, pos, after, g⟩ :: rest) E :=
  LA_of _ hg (OB_val fun a w he hh => by
    have h1 := hh x (by simp [Op.operands])
    rw [hx] at h1; simp only [AD.ok] at h1
    obtain ⟨u, hu⟩ := Option.isSome_iff_exists.mp hs
    simp only [execOp, h1, convert, Sem.run_bind, run_underlying hd, run_underlying hu, Conv.intToInt, Sem.run_pure, Result.andThen_ok]) h
/-- The number fits the other kind. -/
def fits : IntKind → Int → Prop
  | .i64, n => -9223372036854775808 ≤ n ∧ n ≤ 9223372036854775807
  | .u64, n => 0 ≤ n ∧ n ≤ 18446744073709551615
  | .i32, n => -2147483648 ≤ n ∧ n ≤ 2147483647
  | .u32, n => 0 ≤ n ∧ n ≤ 4294967295
  | .i16, n => -32768 ≤ n ∧ n ≤ 32767
  | .u16, n => 0 ≤ n ∧ n ≤ 65535
  | .i8, n => -128 ≤ n ∧ n ≤ 127
  | .u8, n => 0 ≤ n ∧ n ≤ 255
theorem wrap_fits (k : IntKind) (n : Int) (h : fits k n) : k.wrap n = n := by
  cases k <;> simp only [fits] at h
  · exact IntWalk.i8_in n h
  · exact IntWalk.i16_in n h
  · exact IntWalk.i32_in n h
  · exact IntWalk.i64_in n h
  · exact IntWalk.u8_in n h
  · exact IntWalk.u16_in n h
  · exact IntWalk.u32_in n h
  · exact IntWalk.u64_in n h
theorem LA_convF {src dst : TypeId} {n : Int} {kd : IntKind} (hg : gdec l E g = some true) (hs : (P.underlying src).isSome = true) (hd : P.underlying dst = some (.int kd)) (hx : opE E x = .val (.int k n)) (hf : fits kd n)
    (h : LA P l wb K rest ((d, .val (.int kd n)) :: E)) : LA P l wb K (⟨some d, .convert src dst x, ty, pos, after, g⟩ :: rest) E :=
  LA_conv hg hs hd hx (by rw [wrap_fits kd n hf]; exact h)
/-- A shift to the right. -/
theorem LA_shr {n m : Int} {km : IntKind} (hg : gdec l E g = some true) (hx : opE E x = .val (.int k n)) (hy : opE E y = .val (.int km m)) (h0 : 0 ≤ m) (h1 : m ≤ k.bits)
    (h : LA P l wb K rest ((d, .val (.int k (n / 2 ^ m.toNat))) :: E)) : LA P l wb K (⟨some d, .binOp .shr t x y t', ty, pos, after, g⟩ :: rest) E :=
  LA_of _ hg (OB_val fun a w he hh => by
    have e1 := hh x (by simp [Op.operands]); have e2 := hh y (by simp [Op.operands])
    rw [hx] at e1; rw [hy] at e2; simp only [AD.ok] at e1 e2
    simp only [execOp, e1, e2, Sem.run_bind, eqGuard_at_int, Sem.run_pure, Result.andThen_ok, binOp_shr, shift_shr k km n m h0 h1]) h
theorem LA_shl {n m : Int} {km : IntKind} (hg : gdec l E g = some true) (hx : opE E x = .val (.int k n)) (hy : opE E y = .val (.int km m)) (h0 : 0 ≤ m) (h1 : m ≤ k.bits)
    (h : LA P l wb K rest ((d, .val (.int k (k.wrap (n * 2 ^ m.toNat)))) :: E)) : LA P l wb K (⟨some d, .binOp .shl t x y t', ty, pos, after, g⟩ :: rest) E :=
  LA_of _ hg (OB_val fun a w he hh => by
    have e1 := hh x (by simp [Op.operands]); have e2 := hh y (by simp [Op.operands])
    rw [hx] at e1; rw [hy] at e2; simp only [AD.ok] at e1 e2
    simp only [execOp, e1, e2, Sem.run_bind, eqGuard_at_int, Sem.run_pure, Result.andThen_ok, binOp_shl, shift_shl k km n m h0 h1]) h
/-- Bits. -/
theorem LA_bits {op : BinOp} {n m : Int} (hop : op = .and ∨ op = .or ∨ op = .xor ∨ op = .andNot) (hg : gdec l E g = some true) (hx : opE E x = .val (.int k n)) (hy : opE E y = .val (.int k m))
    (h : LA P l wb K rest ((d, .val (.int k (bits op k n m))) :: E)) : LA P l wb K (⟨some d, .binOp op t x y t', ty, pos, after, g⟩ :: rest) E :=
  LA_of _ hg (OB_val fun a w he hh => by
    have e1 := hh x (by simp [Op.operands]); have e2 := hh y (by simp [Op.operands])
    rw [hx] at e1; rw [hy] at e2; simp only [AD.ok] at e1 e2
    rcases hop with rfl | rfl | rfl | rfl <;>
      simp only [execOp, e1, e2, Sem.run_bind, eqGuard_at_int, Sem.run_pure, Result.andThen_ok, binOp_and, binOp_or, binOp_xor, binOp_andNot, intBits_and, intBits_or, intBits_xor, intBits_andNot]) h
/-- Two bools. -/
theorem run_equalB {tb : TypeId} {a b : Bool} {w : World} (ht : P.underlying tb = some .bool) : (Op.equal tb (.bool a) (.bool b)).run P w = .ok (a == b) w := by
  unfold Op.equal
  have : ∀ n, n ≠ 0 → (Op.equalIn n tb (.bool a) (.bool b)).run P w = .ok (a == b) w := fun n hn => by
    cases n with
    | zero => exact absurd rfl hn
    | succ n => simp [Op.equalIn, run_underlying ht]
  exact this _ (by decide)
theorem run_eqB {tb : TypeId} {a b : Bool} {w : World} (ht : P.underlying tb = some .bool) : (binOp .eql tb (.bool a) (.bool b)).run P w = .ok (.bool (a == b)) w := by
  show ((do pure (.bool (← Op.equal tb (.bool a) (.bool b))) : Sem Value)).run P w = _
  simp only [Sem.run_bind, run_equalB ht, Result.andThen_ok, Sem.run_pure]
theorem run_neB {tb : TypeId} {a b : Bool} {w : World} (ht : P.underlying tb = some .bool) : (binOp .neq tb (.bool a) (.bool b)).run P w = .ok (.bool (!(a == b))) w := by
  show ((do pure (.bool (!(← Op.equal tb (.bool a) (.bool b)))) : Sem Value)).run P w = _
  simp only [Sem.run_bind, run_equalB ht, Result.andThen_ok, Sem.run_pure]
theorem LA_boolEq {tb : TypeId} {a b : Bool} (hg : gdec l E g = some true) (ht : P.underlying tb = some .bool) (hx : opE E x = .val (.bool a)) (hy : opE E y = .val (.bool b))
    (h : LA P l wb K rest ((d, .val (.bool (a == b))) :: E)) : LA P l wb K (⟨some d, .binOp .eql tb x y t', ty, pos, after, g⟩ :: rest) E :=
  LA_of _ hg (OB_val fun ac w he hh => by
    have e1 := hh x (by simp [Op.operands]); have e2 := hh y (by simp [Op.operands])
    rw [hx] at e1; rw [hy] at e2; simp only [AD.ok] at e1 e2
    have : (binOp .eql tb (.bool a) (.bool b)).run P w = .ok (.bool (a == b)) w := run_eqB ht
    simp only [execOp, e1, e2, Sem.run_bind, eqGuard_at_bool, Sem.run_pure, Result.andThen_ok, this]) h
theorem LA_boolEqT {tb : TypeId} {a b : Bool} (hg : gdec l E g = some true) (ht : P.underlying tb = some .bool) (hx : opE E x = .val (.bool a)) (hy : opE E y = .val (.bool b)) (hab : a = b)
    (h : LA P l wb K rest ((d, .val (.bool true)) :: E)) : LA P l wb K (⟨some d, .binOp .eql tb x y t', ty, pos, after, g⟩ :: rest) E := LA_boolEq hg ht hx hy (by rw [show (a == b) = true by simp [hab]]; exact h)
theorem LA_boolEqF {tb : TypeId} {a b : Bool} (hg : gdec l E g = some true) (ht : P.underlying tb = some .bool) (hx : opE E x = .val (.bool a)) (hy : opE E y = .val (.bool b)) (hab : a ≠ b)
    (h : LA P l wb K rest ((d, .val (.bool false)) :: E)) : LA P l wb K (⟨some d, .binOp .eql tb x y t', ty, pos, after, g⟩ :: rest) E := LA_boolEq hg ht hx hy (by rw [show (a == b) = false by simp [hab]]; exact h)
theorem LA_boolNe {tb : TypeId} {a b : Bool} (hg : gdec l E g = some true) (ht : P.underlying tb = some .bool) (hx : opE E x = .val (.bool a)) (hy : opE E y = .val (.bool b))
    (h : LA P l wb K rest ((d, .val (.bool (!(a == b)))) :: E)) : LA P l wb K (⟨some d, .binOp .neq tb x y t', ty, pos, after, g⟩ :: rest) E :=
  LA_of _ hg (OB_val fun ac w he hh => by
    have e1 := hh x (by simp [Op.operands]); have e2 := hh y (by simp [Op.operands])
    rw [hx] at e1; rw [hy] at e2; simp only [AD.ok] at e1 e2
    have : (binOp .neq tb (.bool a) (.bool b)).run P w = .ok (.bool (!(a == b))) w := run_neB ht
    simp only [execOp, e1, e2, Sem.run_bind, eqGuard_at_bool, Sem.run_pure, Result.andThen_ok, this]) h

theorem LA_arF {op : BinOp} {a b : Int} (hg : gdec l E g = some true) (hx : opE E x = .val (.int k a)) (hy : opE E y = .val (.int k b)) (hc : isAr op = true) (hf : fits k (arI op a b))
    (h : LA P l wb K rest ((d, .val (.int k (arI op a b))) :: E)) : LA P l wb K (⟨some d, .binOp op t x y t', ty, pos, after, g⟩ :: rest) E :=
  LA_arW hg hx hy hc (by rw [wrap_fits k _ hf]; exact h)

theorem LA_boolNeT {tb : TypeId} {a b : Bool} (hg : gdec l E g = some true) (ht : P.underlying tb = some .bool) (hx : opE E x = .val (.bool a)) (hy : opE E y = .val (.bool b)) (hab : a ≠ b)
    (h : LA P l wb K rest ((d, .val (.bool true)) :: E)) : LA P l wb K (⟨some d, .binOp .neq tb x y t', ty, pos, after, g⟩ :: rest) E := LA_boolNe hg ht hx hy (by rw [show (!(a == b)) = true by simp [hab]]; exact h)
theorem LA_boolNeF {tb : TypeId} {a b : Bool} (hg : gdec l E g = some true) (ht : P.underlying tb = some .bool) (hx : opE E x = .val (.bool a)) (hy : opE E y = .val (.bool b)) (hab : a = b)
    (h : LA P l wb K rest ((d, .val (.bool false)) :: E)) : LA P l wb K (⟨some d, .binOp .neq tb x y t', ty, pos, after, g⟩ :: rest) E := LA_boolNe hg ht hx hy (by rw [show (!(a == b)) = false by simp [hab]]; exact h)
theorem LA_addF {a b : Int} (hg : gdec l E g = some true) (hx : opE E x = .val (.int k a)) (hy : opE E y = .val (.int k b)) (hf : fits k (a + b))
    (h : LA P l wb K rest ((d, .val (.int k (a + b))) :: E)) : LA P l wb K (⟨some d, .binOp .add t x y t', ty, pos, after, g⟩ :: rest) E := LA_arF hg hx hy rfl hf h
theorem LA_subF {a b : Int} (hg : gdec l E g = some true) (hx : opE E x = .val (.int k a)) (hy : opE E y = .val (.int k b)) (hf : fits k (a - b))
    (h : LA P l wb K rest ((d, .val (.int k (a - b))) :: E)) : LA P l wb K (⟨some d, .binOp .sub t x y t', ty, pos, after, g⟩ :: rest) E := LA_arF hg hx hy rfl hf h
theorem LA_mulF {a b : Int} (hg : gdec l E g = some true) (hx : opE E x = .val (.int k a)) (hy : opE E y = .val (.int k b)) (hf : fits k (a * b))
    (h : LA P l wb K rest ((d, .val (.int k (a * b))) :: E)) : LA P l wb K (⟨some d, .binOp .mul t x y t', ty, pos, after, g⟩ :: rest) E := LA_arF hg hx hy rfl hf h
theorem LA_addW {a b : Int} (hg : gdec l E g = some true) (hx : opE E x = .val (.int k a)) (hy : opE E y = .val (.int k b))
    (h : LA P l wb K rest ((d, .val (.int k (k.wrap (a + b)))) :: E)) : LA P l wb K (⟨some d, .binOp .add t x y t', ty, pos, after, g⟩ :: rest) E := LA_arW hg hx hy rfl h
theorem LA_subW {a b : Int} (hg : gdec l E g = some true) (hx : opE E x = .val (.int k a)) (hy : opE E y = .val (.int k b))
    (h : LA P l wb K rest ((d, .val (.int k (k.wrap (a - b)))) :: E)) : LA P l wb K (⟨some d, .binOp .sub t x y t', ty, pos, after, g⟩ :: rest) E := LA_arW hg hx hy rfl h
theorem LA_mulW {a b : Int} (hg : gdec l E g = some true) (hx : opE E x = .val (.int k a)) (hy : opE E y = .val (.int k b))
    (h : LA P l wb K rest ((d, .val (.int k (k.wrap (a * b)))) :: E)) : LA P l wb K (⟨some d, .binOp .mul t x y t', ty, pos, after, g⟩ :: rest) E := LA_arW hg hx hy rfl h

/-! ### Slices -/
theorem LA_len {n : Nat} (hg : gdec l E g = some true) (e : TypeId) (ht : P.underlying t = some (.slice e)) {r : AD} {s : Nat} {cs : List Value} (hr : opE E x = r) (hx : HasC wb r n s cs)
    (h : LA P l wb K rest ((d, .val (.int .i64 n)) :: E)) : LA P l wb K (⟨some d, .call ⟨.builtin .len, #[x], #[t]⟩, ty, pos, after, g⟩ :: rest) E :=
  LA_of _ hg (OB_val fun a w he hh => by
    obtain ⟨u, c, hv⟩ := (hx _ _ he (hr ▸ hh x (by simp [Op.operands, Call.operands]))).isSlice
    have : (Builtin.len_ #[t] ty #[.slice u n c]).run P w = .ok (goInt n) w := by simp [Builtin.len_, run_underlying ht]
    simp only [execOp, resolve, Sem.run_bind, Sem.run_pure, Result.andThen_ok, List.map_toArray, List.map_cons, List.map_nil, hv, invoke, builtin, this]
    rfl) h

/-- The address of an element. -/
theorem LA_indexC {n s : Nat} {cs : List Value} {i : Int} (hg : gdec l E g = some true) (e : TypeId) (ht : P.underlying t = some (.slice e)) (hs : ∀ w, (sizeOf e).run P w = .ok s w)
    {r : AD} (hr : opE E x = r) (hx : HasC wb r n s cs) (hi : opE E y = .val (.int k i)) (j : Nat) (hj : i = j) (hn : j < n)
    (h : LA P l wb K rest ((d, .pred (ptrC ((cs.drop (j * s)).take s))) :: E)) : LA P l wb K (⟨some d, .indexAddr t x y, ty, pos, after, g⟩ :: rest) E := by
  refine LA_of (.pred (ptrC ((cs.drop (j * s)).take s))) hg (fun a w he hh => ?_) h
  obtain ⟨h0, ad, cap, hv, hnc, hm, -, hcs⟩ := hx _ _ he (hr ▸ hh x (by simp [Op.operands]))
  have h2 := hh y (by simp [Op.operands])
  rw [hi] at h2; simp only [AD.ok] at h2
  subst hj
  rcases hcs with rfl | ⟨b, off, rfl, hc⟩
  · omega
  · have hrun : (Instr.indexAt t (.slice (some ⟨b, off, none⟩) n cap) (.int k (j : Int))).run P w = .ok (.pointer (some (Addr.add ⟨b, off, none⟩ (j * s)))) w := by
      simp [Instr.indexAt, run_underlying ht, asIntOf, hs, hn]
    simp only [execOp, hv, h2, Sem.run_bind, hrun, Result.andThen_ok, Sem.run_pure]
    refine ⟨Ext.refl _, _, rfl, fun i c hc' => ?_⟩
    rw [List.getElem?_take] at hc'
    split at hc'
    · rw [List.getElem?_drop] at hc'
      have := hc _ _ hc'
      rw [Addr.add_lit, Addr.add_lit, Nat.add_assoc]; exact this
    · cases hc'

/-- The address of an element of a slice of integers. -/
theorem LA_index {k' : IntKind} {xs : List Int} {i : Int} (hg : gdec l E g = some true) (e : TypeId) (ht : P.underlying t = some (.slice e)) (hs : ∀ w, (sizeOf e).run P w = .ok 1 w)
    {r : AD} (hr : opE E x = r) (hx : HasI wb r k' xs) (hi : opE E y = .val (.int k i)) (h0 : 0 ≤ i) (hn : i < xs.length)
    (h : LA P l wb K rest ((d, .pred (ptrC [.int k' (xs.getD i.toNat 0)])) :: E)) : LA P l wb K (⟨some d, .indexAddr t x y, ty, pos, after, g⟩ :: rest) E := by
  refine LA_indexC hg e ht hs hr hx.c hi i.toNat (by omega) (by omega) ?_
  have : ((xs.map (Value.int k')).drop (i.toNat * 1)).take 1 = [.int k' (xs.getD i.toNat 0)] := by
    rw [Nat.mul_one, List.drop_eq_getElem_cons (by simp; omega)]
    simp [List.getD, List.getElem?_eq_getElem (by omega : i.toNat < xs.length)]
  rw [this]; exact h

theorem LA_indexN {k' : IntKind} {xs : List Int} {j : Nat} (hg : gdec l E g = some true) (e : TypeId) (ht : P.underlying t = some (.slice e)) (hs : ∀ w, (sizeOf e).run P w = .ok 1 w)
    {r : AD} (hr : opE E x = r) (hx : HasI wb r k' xs) (hi : opE E y = .val (.int k ((j : Nat) : Int))) (hn : j < xs.length)
    (h : LA P l wb K rest ((d, .pred (ptrC [.int k' (xs.getD j 0)])) :: E)) : LA P l wb K (⟨some d, .indexAddr t x y, ty, pos, after, g⟩ :: rest) E :=
  LA_index hg e ht hs hr hx hi (by omega) (by omega) h

/-- The value of a cell whose address is known. -/
theorem LA_load {c : Value} (hg : gdec l E g = some true) (ht : ∀ w, (isAgg t).run P w = .ok false w) (hx : opE E x = .pred (ptrC [c])) (h : LA P l wb K rest ((d, .val c) :: E)) :
    LA P l wb K (⟨some d, .load t x, ty, pos, after, g⟩ :: rest) E :=
  LA_of _ hg (OB_val fun a w he hh => by
    have h1 := hh x (by simp [Op.operands])
    rw [hx] at h1
    obtain ⟨p, hv, hc⟩ := h1
    have hc := hc 0 c rfl
    have e0 : p.add 0 = p := Addr.add_zero' p
    rw [e0] at hc
    simp only [execOp, hv, Instr.loadAt, Instr.sureAddr, loadVar, Sem.run_bind, Sem.run_pure, Result.andThen_ok, ht, Bool.false_eq_true, if_false, run_load, hc]) h
theorem LA_loadV {c : Value} {p : Addr} (hg : gdec l E g = some true) (ht : ∀ w, (isAgg t).run P w = .ok false w) (hx : opE E x = .val (.pointer (some p))) (hc : wb.cell? p = some c) (h : LA P l wb K rest ((d, .val c) :: E)) :
    LA P l wb K (⟨some d, .load t x, ty, pos, after, g⟩ :: rest) E :=
  LA_of _ hg (OB_val fun a w he hh => by
    have h1 := hh x (by simp [Op.operands])
    rw [hx] at h1; simp only [AD.ok] at h1
    have hc := he.cell hc
    simp only [execOp, h1, Instr.loadAt, Instr.sureAddr, loadVar, Sem.run_bind, Sem.run_pure, Result.andThen_ok, ht, Bool.false_eq_true, if_false, run_load, hc]) h

/-! ### Calls -/
/-- A contract: the function is a Go function with a body, and calling it ends so. -/
def Fc (P : Program) (f : FuncId) (args : Array Value) (w : World) (R : Ending → World → Prop) : Prop :=
  (∀ (args : Array Value) (w : World), (callFunc f args).run P w = .ok (.enter f args) w) ∧ Calls P f args w R

theorem run_call_func {f : FuncId} {fn : Func} {c : Code} (hf : P.funcs[f]? = some fn) (hb : fn.body = some c) (hn : (fn.name == "runtime.NumGoroutine") = false) (args : Array Value) (w : World) :
    (callFunc f args).run P w = .ok (.enter f args) w := by
  unfold callFunc
  simp only [Sem.run_bind, run_program, Result.andThen_ok, hf, hn, hb, Option.isNone_some, Bool.false_eq_true, if_false]
  rfl

theorem Fc.of {f : FuncId} {fn : Func} {c : Code} {args : List Value} {w : World} {R : Ending → World → Prop} (hf : P.funcs[f]? = some fn) (hb : fn.body = some c) (hname : (fn.name == "runtime.NumGoroutine") = false) (hn : fn.ntmps = N) (hle : args.length ≤ N)
    (h : CX P N w c (argEnv args 0) (bodyPost P fn R)) : Fc P f args.toArray w R := ⟨run_call_func hf hb hname, calls_cx hf hb hn hle h⟩
theorem Fc.mono {f : FuncId} {args : Array Value} {w : World} {R R' : Ending → World → Prop} (h : Fc P f args w R) (hr : ∀ e w', R e w' → R' e w') : Fc P f args w R' := ⟨h.1, h.2.mono hr⟩

theorem run_call_op {f : FuncId} {args : Array Operand} {ats : Array TypeId} {w : World} {ρ : Operand → Value} {fv : Operand} (hfv : ρ fv = .func (.func f) #[] #[]) (hf : (callFunc f (args.map ρ)).run P w = .ok (.enter f (args.map ρ)) w) :
    (execOp ρ ⟨some d, .call ⟨.value fv, args, ats⟩, ty, pos, after, g⟩).run P w = .ok (.enter f (args.map ρ)) w := by
  simp only [execOp, resolve, Deferred.ofValue, hfv, Sem.run_bind, Sem.run_pure, Result.andThen_ok, invoke]
  simpa using hf

theorem LA_call0 {f : FuncId} {ats : Array TypeId} {fv : Operand} (hg : gdec l E g = some true) (hfv : opE E fv = .val (.func (.func f) #[] #[])) (r : AD) (hc : ∀ w, Ext wb w → Fc P f #[] w (Ret w r))
    (h : LA P l wb K rest ((d, r) :: E)) : LA P l wb K (⟨some d, .call ⟨.value fv, #[], ats⟩, ty, pos, after, g⟩ :: rest) E :=
  LA_of r hg (fun a w he hh => by
    have h1 := hh fv (by simp [Op.operands, Call.operands])
    rw [hfv] at h1
    rw [run_call_op h1 ((hc w he).1 _ _)]
    refine ⟨rfl, ?_⟩; simp only [List.map_toArray, List.map_nil]; exact (hc w he).2) h
theorem LA_call1 {f : FuncId} {ats : Array TypeId} {fv : Operand} {r1 : AD} (hg : gdec l E g = some true) (hfv : opE E fv = .val (.func (.func f) #[] #[])) (hu1 : opE E x = r1) (r : AD)
    (hc : ∀ u1 w, Ext wb w → r1.ok u1 w → Fc P f #[u1] w (Ret w r))
    (h : LA P l wb K rest ((d, r) :: E)) : LA P l wb K (⟨some d, .call ⟨.value fv, #[x], ats⟩, ty, pos, after, g⟩ :: rest) E :=
  LA_of r hg (fun a w he hh => by
    have h1 := hh fv (by simp [Op.operands, Call.operands])
    rw [hfv] at h1
    have eu1 := hh x (by simp [Op.operands, Call.operands])
    rw [hu1] at eu1
    have := hc _ w he eu1
    rw [run_call_op h1 (this.1 _ _)]
    refine ⟨rfl, ?_⟩; simp only [List.map_toArray, List.map_cons, List.map_nil]; exact this.2) h
theorem LA_call2 {f : FuncId} {ats : Array TypeId} {fv : Operand} {r1 r2 : AD} (hg : gdec l E g = some true) (hfv : opE E fv = .val (.func (.func f) #[] #[])) (hu1 : opE E x = r1) (hu2 : opE E y = r2) (r : AD)
    (hc : ∀ u1 u2 w, Ext wb w → r1.ok u1 w → r2.ok u2 w → Fc P f #[u1, u2] w (Ret w r))
    (h : LA P l wb K rest ((d, r) :: E)) : LA P l wb K (⟨some d, .call ⟨.value fv, #[x, y], ats⟩, ty, pos, after, g⟩ :: rest) E :=
  LA_of r hg (fun a w he hh => by
    have h1 := hh fv (by simp [Op.operands, Call.operands])
    rw [hfv] at h1
    have eu1 := hh x (by simp [Op.operands, Call.operands])
    rw [hu1] at eu1
    have eu2 := hh y (by simp [Op.operands, Call.operands])
    rw [hu2] at eu2
    have := hc _ _ w he eu1 eu2
    rw [run_call_op h1 (this.1 _ _)]
    refine ⟨rfl, ?_⟩; simp only [List.map_toArray, List.map_cons, List.map_nil]; exact this.2) h
theorem LA_call3 {f : FuncId} {ats : Array TypeId} {fv : Operand} {r1 r2 r3 : AD} (hg : gdec l E g = some true) (hfv : opE E fv = .val (.func (.func f) #[] #[])) (hu1 : opE E x = r1) (hu2 : opE E y = r2) (hu3 : opE E z = r3) (r : AD)
    (hc : ∀ u1 u2 u3 w, Ext wb w → r1.ok u1 w → r2.ok u2 w → r3.ok u3 w → Fc P f #[u1, u2, u3] w (Ret w r))
    (h : LA P l wb K rest ((d, r) :: E)) : LA P l wb K (⟨some d, .call ⟨.value fv, #[x, y, z], ats⟩, ty, pos, after, g⟩ :: rest) E :=
  LA_of r hg (fun a w he hh => by
    have h1 := hh fv (by simp [Op.operands, Call.operands])
    rw [hfv] at h1
    have eu1 := hh x (by simp [Op.operands, Call.operands])
    rw [hu1] at eu1
    have eu2 := hh y (by simp [Op.operands, Call.operands])
    rw [hu2] at eu2
    have eu3 := hh z (by simp [Op.operands, Call.operands])
    rw [hu3] at eu3
    have := hc _ _ _ w he eu1 eu2 eu3
    rw [run_call_op h1 (this.1 _ _)]
    refine ⟨rfl, ?_⟩; simp only [List.map_toArray, List.map_cons, List.map_nil]; exact this.2) h
theorem LA_call4 {f : FuncId} {ats : Array TypeId} {fv : Operand} {q : Operand} {r1 r2 r3 r4 : AD} (hg : gdec l E g = some true) (hfv : opE E fv = .val (.func (.func f) #[] #[])) (hu1 : opE E x = r1) (hu2 : opE E y = r2) (hu3 : opE E z = r3) (hu4 : opE E q = r4) (r : AD)
    (hc : ∀ u1 u2 u3 u4 w, Ext wb w → r1.ok u1 w → r2.ok u2 w → r3.ok u3 w → r4.ok u4 w → Fc P f #[u1, u2, u3, u4] w (Ret w r))
    (h : LA P l wb K rest ((d, r) :: E)) : LA P l wb K (⟨some d, .call ⟨.value fv, #[x, y, z, q], ats⟩, ty, pos, after, g⟩ :: rest) E :=
  LA_of r hg (fun a w he hh => by
    have h1 := hh fv (by simp [Op.operands, Call.operands])
    rw [hfv] at h1
    have eu1 := hh x (by simp [Op.operands, Call.operands])
    rw [hu1] at eu1
    have eu2 := hh y (by simp [Op.operands, Call.operands])
    rw [hu2] at eu2
    have eu3 := hh z (by simp [Op.operands, Call.operands])
    rw [hu3] at eu3
    have eu4 := hh q (by simp [Op.operands, Call.operands])
    rw [hu4] at eu4
    have := hc _ _ _ _ w he eu1 eu2 eu3 eu4
    rw [run_call_op h1 (this.1 _ _)]
    refine ⟨rfl, ?_⟩; simp only [List.map_toArray, List.map_cons, List.map_nil]; exact this.2) h
theorem LA_call5 {f : FuncId} {ats : Array TypeId} {fv : Operand} {q s5 : Operand} {r1 r2 r3 r4 r5 : AD} (hg : gdec l E g = some true) (hfv : opE E fv = .val (.func (.func f) #[] #[])) (hu1 : opE E x = r1) (hu2 : opE E y = r2) (hu3 : opE E z = r3) (hu4 : opE E q = r4) (hu5 : opE E s5 = r5) (r : AD)
    (hc : ∀ u1 u2 u3 u4 u5 w, Ext wb w → r1.ok u1 w → r2.ok u2 w → r3.ok u3 w → r4.ok u4 w → r5.ok u5 w → Fc P f #[u1, u2, u3, u4, u5] w (Ret w r))
    (h : LA P l wb K rest ((d, r) :: E)) : LA P l wb K (⟨some d, .call ⟨.value fv, #[x, y, z, q, s5], ats⟩, ty, pos, after, g⟩ :: rest) E :=
  LA_of r hg (fun a w he hh => by
    have h1 := hh fv (by simp [Op.operands, Call.operands])
    rw [hfv] at h1
    have eu1 := hh x (by simp [Op.operands, Call.operands])
    rw [hu1] at eu1
    have eu2 := hh y (by simp [Op.operands, Call.operands])
    rw [hu2] at eu2
    have eu3 := hh z (by simp [Op.operands, Call.operands])
    rw [hu3] at eu3
    have eu4 := hh q (by simp [Op.operands, Call.operands])
    rw [hu4] at eu4
    have eu5 := hh s5 (by simp [Op.operands, Call.operands])
    rw [hu5] at eu5
    have := hc _ _ _ _ _ w he eu1 eu2 eu3 eu4 eu5
    rw [run_call_op h1 (this.1 _ _)]
    refine ⟨rfl, ?_⟩; simp only [List.map_toArray, List.map_cons, List.map_nil]; exact this.2) h
theorem LA_callB0 {f : FuncId} {ats : Array TypeId} {fv : Operand} (hg : gdec l E g = some true) (hfv : opE E fv = .val (.func (.func f) #[] #[]))  (b : Bool)
    (hc : ∀  w, Ext wb w → Fc P f #[] w (Ret w (.val (.bool b))))
    (h : b = true → LA P l wb K rest ((d, .val (.bool true)) :: E)) (h' : b = false → LA P l wb K rest ((d, .val (.bool false)) :: E)) : LA P l wb K (⟨some d, .call ⟨.value fv, #[], ats⟩, ty, pos, after, g⟩ :: rest) E := by
  cases b
  · exact LA_call0 hg hfv  _ hc (h' rfl)
  · exact LA_call0 hg hfv  _ hc (h rfl)
theorem LA_callB1 {f : FuncId} {ats : Array TypeId} {fv : Operand} {r1 : AD} (hg : gdec l E g = some true) (hfv : opE E fv = .val (.func (.func f) #[] #[])) (hu1 : opE E x = r1) (b : Bool)
    (hc : ∀ u1 w, Ext wb w → r1.ok u1 w → Fc P f #[u1] w (Ret w (.val (.bool b))))
    (h : b = true → LA P l wb K rest ((d, .val (.bool true)) :: E)) (h' : b = false → LA P l wb K rest ((d, .val (.bool false)) :: E)) : LA P l wb K (⟨some d, .call ⟨.value fv, #[x], ats⟩, ty, pos, after, g⟩ :: rest) E := by
  cases b
  · exact LA_call1 hg hfv hu1 _ hc (h' rfl)
  · exact LA_call1 hg hfv hu1 _ hc (h rfl)
theorem LA_callB2 {f : FuncId} {ats : Array TypeId} {fv : Operand} {r1 r2 : AD} (hg : gdec l E g = some true) (hfv : opE E fv = .val (.func (.func f) #[] #[])) (hu1 : opE E x = r1) (hu2 : opE E y = r2) (b : Bool)
    (hc : ∀ u1 u2 w, Ext wb w → r1.ok u1 w → r2.ok u2 w → Fc P f #[u1, u2] w (Ret w (.val (.bool b))))
    (h : b = true → LA P l wb K rest ((d, .val (.bool true)) :: E)) (h' : b = false → LA P l wb K rest ((d, .val (.bool false)) :: E)) : LA P l wb K (⟨some d, .call ⟨.value fv, #[x, y], ats⟩, ty, pos, after, g⟩ :: rest) E := by
  cases b
  · exact LA_call2 hg hfv hu1 hu2 _ hc (h' rfl)
  · exact LA_call2 hg hfv hu1 hu2 _ hc (h rfl)
theorem LA_callB3 {f : FuncId} {ats : Array TypeId} {fv : Operand} {r1 r2 r3 : AD} (hg : gdec l E g = some true) (hfv : opE E fv = .val (.func (.func f) #[] #[])) (hu1 : opE E x = r1) (hu2 : opE E y = r2) (hu3 : opE E z = r3) (b : Bool)
    (hc : ∀ u1 u2 u3 w, Ext wb w → r1.ok u1 w → r2.ok u2 w → r3.ok u3 w → Fc P f #[u1, u2, u3] w (Ret w (.val (.bool b))))
    (h : b = true → LA P l wb K rest ((d, .val (.bool true)) :: E)) (h' : b = false → LA P l wb K rest ((d, .val (.bool false)) :: E)) : LA P l wb K (⟨some d, .call ⟨.value fv, #[x, y, z], ats⟩, ty, pos, after, g⟩ :: rest) E := by
  cases b
  · exact LA_call3 hg hfv hu1 hu2 hu3 _ hc (h' rfl)
  · exact LA_call3 hg hfv hu1 hu2 hu3 _ hc (h rfl)
theorem ret_eq {f : FuncId} {args : Array Value} {w : World} {b b' : Value} (hb : b = b') (h : Fc P f args w (Ret w (.val b))) : Fc P f args w (Ret w (.val b')) := hb ▸ h
theorem ret_true {f : FuncId} {args : Array Value} {w : World} {b : Bool} (h : Fc P f args w (Ret w (.val (.bool b)))) (hb : b = true) : Fc P f args w (Ret w (.val (.bool true))) := hb ▸ h
theorem Fc.run {f : FuncId} {args : Array Value} {w : World} {R : Ending → World → Prop} (h : Fc P f args w R) (args' : Array Value) (w' : World) : (callFunc f args').run P w' = .ok (.enter f args') w' := h.1 _ _
theorem Fc.calls {f : FuncId} {args : Array Value} {w : World} {R : Ending → World → Prop} (h : Fc P f args w R) : Calls P f args w R := h.2
end
attribute [irreducible] Fc
end Go.LA
