/- Memory in a walk over abstract values: slices of slices, slices that a call owns, append. -/
import Derived.Test.YtjiacignpmabcaaDoorOps
import Derived.Laws.AppendOwnNone
namespace Go.LA
open Go.RowKit

/-- What is known of the elements' type of a slice type. -/
structure El (P : Program) (t e : TypeId) (z : Value) (s b : Nat) : Prop where
  ht : P.underlying t = some (.slice e)
  info : (P.info? e).map (fun i => (i.zero, i.size, i.bytes)) = some (some z, s, b)
  zs : z.cells.size = s
  pos : 0 < s

theorem El.parts {P : Program} {t e : TypeId} {z : Value} {s b : Nat} (h : El P t e z s b) : ∃ i, P.info? e = some i ∧ i.zero = some z ∧ i.size = s ∧ i.bytes = b := by
  have h1 := h.info
  cases hi : P.info? e with
  | none => rw [hi] at h1; cases h1
  | some i =>
    rw [hi] at h1
    simp only [Option.map_some, Option.some.injEq, Prod.mk.injEq] at h1
    exact ⟨i, rfl, h1.1, h1.2.1, h1.2.2⟩
theorem El.sizeOf {P : Program} {t e : TypeId} {z : Value} {s b : Nat} (h : El P t e z s b) (w : World) : (sizeOf e).run P w = .ok s w := by
  obtain ⟨i, h1, h2, h3, h4⟩ := h.parts
  simp [Go.sizeOf, typeInfo, h1, h3]
theorem El.zero {P : Program} {t e : TypeId} {z : Value} {s b : Nat} (h : El P t e z s b) (w : World) : (zeroValue e).run P w = .ok z w := by
  obtain ⟨i, h1, h2, h3, h4⟩ := h.parts
  simp [zeroValue, typeInfo, h1, h2]

/-- A slice that the call owns. -/
def Own (base : Nat) (e s : Nat) (w : World) (v : Value) (n : Nat) (cs : List Value) : Prop := w.ownsRow base e s v n cs
theorem Own.nil {base e s : Nat} {w : World} : Own base e s w (.slice none 0 0) 0 [] := World.ownsRow_nil w base e s
theorem Own.slC {base e s : Nat} {w : World} {v : Value} {n : Nat} {cs : List Value} (h : Own base e s w v n cs) : SlC w v n s cs := by
  refine ⟨h.1, ?_⟩
  rcases h.2 with ⟨rfl, rfl⟩ | ⟨g, cap, cur, rfl, hb, hg, hnc, hm, hsz, htake⟩
  · exact ⟨none, 0, rfl, Nat.le_refl _, Nat.zero_le _, fun _ => rfl, .inl rfl⟩
  · refine ⟨_, cap, rfl, hnc, hm, (fun h => by cases h), .inr ⟨g, 0, rfl, fun j c hj => ?_⟩⟩
    have := World.ownsRow.cells (w := w) (v := .slice (some ⟨g, 0, none⟩) n cap) h (g := g) rfl j c hj
    rwa [Addr.add_lit] at this
theorem Own.ext {base e s : Nat} {w w' : World} {v : Value} {n : Nat} {cs : List Value} (h : Own base e s w v n cs) (x : Ext w w') : Own base e s w' v n cs := by
  refine ⟨h.1, ?_⟩
  rcases h.2 with hn | ⟨g, cap, cur, hv, hb, hg, r⟩
  · exact .inl hn
  · exact .inr ⟨g, cap, cur, hv, hb, x.block hg, r⟩
theorem Own.base {base base' e s : Nat} {w : World} {v : Value} {n : Nat} {cs : List Value} (h : Own base e s w v n cs) (hb : base' ≤ base) : Own base' e s w v n cs := by
  refine ⟨h.1, ?_⟩
  rcases h.2 with hn | ⟨g, cap, cur, hv, hb', r⟩
  · exact .inl hn
  · exact .inr ⟨g, cap, cur, hv, Nat.le_trans hb hb', r⟩
theorem Own.lt {base e s : Nat} {w : World} {v : Value} {n : Nat} {cs : List Value} (h : Own base e s w v n cs) : ∀ k, v.ownBlock = some k → base ≤ k ∧ k < w.heap.size := World.ownsRow.lt h
/-- It stays while another row grows. -/
theorem Own.kept {base e s : Nat} {w w' : World} {v : Value} {n : Nat} {cs : List Value} {row : Option Nat} (h : Own base e s w v n cs) (hg : w.grownBy w' row) (hne : v.ownBlock = none ∨ v.ownBlock ≠ row) : Own base e s w' v n cs := World.ownsRow.kept h hg hne
theorem Ext.grown {w0 w w' : World} {row : Option Nat} (h : Ext w0 w) (hg : w.grownBy w' row) (hr : ∀ k, row = some k → w0.heap.size ≤ k) : Ext w0 w' := Below.grown h hg h.size hr

def ownC (base e s : Nat) (n : Nat) (cs : List Value) : AV := ⟨fun v w => Own base e s w v n cs, fun _ _ _ x h => h.ext x⟩
/-- Integers. -/
def OwnI (base e : Nat) (k : IntKind) (w : World) (v : Value) (xs : List Int) : Prop := Own base e 1 w v xs.length (xs.map (Value.int k))
theorem OwnI.slI {base e : Nat} {k : IntKind} {w : World} {v : Value} {xs : List Int} (h : OwnI base e k w v xs) : SlI k w v xs := Own.slC h
theorem OwnI.ext {base e : Nat} {k : IntKind} {w w' : World} {v : Value} {xs : List Int} (h : OwnI base e k w v xs) (x : Ext w w') : OwnI base e k w' v xs := Own.ext h x
theorem OwnI.nil {base e : Nat} {k : IntKind} {w : World} : OwnI base e k w (.slice none 0 0) [] := Own.nil
def ownI (base e : Nat) (k : IntKind) (xs : List Int) : AV := ⟨fun v w => OwnI base e k w v xs, fun _ _ _ x h => h.ext x⟩
theorem HasI.own {wb : World} {base e : Nat} {k : IntKind} {xs : List Int} : HasI wb (.pred (ownI base e k xs)) k xs := fun _ _ _ hv => OwnI.slI hv
theorem HasC.own {wb : World} {base e s n : Nat} {cs : List Value} : HasC wb (.pred (ownC base e s n cs)) n s cs := fun _ _ _ hv => Own.slC hv
theorem HasI.ownV {wb : World} {base e : Nat} {k : IntKind} {xs : List Int} {v : Value} (h : OwnI base e k wb v xs) : HasI wb (.val v) k xs := HasI.val h.slI
theorem HasC.ownV {wb : World} {base e s n : Nat} {cs : List Value} {v : Value} (h : Own base e s wb v n cs) : HasC wb (.val v) n s cs := HasC.val h.slC

theorem OwnI.cells {base e : Nat} {k : IntKind} {w : World} {v : Value} {xs : List Int} (h : OwnI base e k w v xs) : v.cells = #[v] := by
  obtain ⟨a, c, rfl⟩ := h.slI.isSlice; rfl
theorem OwnI.one {base e : Nat} {k : IntKind} {w : World} {v : Value} {xs : List Int} (h : OwnI base e k w v xs) : v.oneCell' = true := by
  obtain ⟨a, c, rfl⟩ := h.slI.isSlice; rfl

/-- What is new from a later place on is new from an earlier one on. -/
theorem ret_base {w : World} {base base' e : Nat} {k : IntKind} {xs : List Int} (hb : base' ≤ base) (en : Ending) (w' : World) (h : Ret w (.pred (ownI base e k xs)) en w') : Ret w (.pred (ownI base' e k xs)) en w' := by
  obtain ⟨v, h1, h2, h3⟩ := h
  exact ⟨v, h1, h2, Own.base h3 hb⟩

/-- A part of a slice. -/
def subS (v : Value) (l h s : Nat) : Value := match v with
  | .slice a _ cap => sliced a l h cap s
  | _ => v
theorem SlC.sub {w : World} {v : Value} {n s : Nat} {cs : List Value} (hs : SlC w v n s cs) {l h : Nat} (h1 : l ≤ h) (h2 : h ≤ n) : SlC w (subS v l h s) (h - l) s ((cs.take (h * s)).drop (l * s)) := by
  obtain ⟨h0, a, cap, rfl, hc, hm, hn, hcs⟩ := hs
  have hh : h * s ≤ n * s := Nat.mul_le_mul_right _ h2
  refine ⟨by rw [List.length_drop, List.length_take, h0, Nat.min_eq_left hh, Nat.sub_mul], ?_⟩
  simp only [subS, sliced]
  refine ⟨_, cap - l, rfl, by omega, by omega, fun ha => ?_, ?_⟩
  · split at ha
    · omega
    · cases a with
      | none => have := hn rfl; omega
      | some a => simp at ha
  · by_cases hz : h - l = 0
    · exact .inl hz
    · rcases hcs with rfl | ⟨b, off, rfl, hc'⟩
      · omega
      · refine .inr ⟨b, off + l * s, ?_, fun j c hj => ?_⟩
        · rw [if_neg (by omega)]; simp [Addr.add_lit]
        · rw [List.getElem?_drop, List.getElem?_take] at hj
          split at hj
          · have := hc' _ _ hj; rw [Nat.add_assoc]; exact this
          · cases hj
theorem SlI.sub {k : IntKind} {w : World} {v : Value} {xs : List Int} (hs : SlI k w v xs) {l h : Nat} (h1 : l ≤ h) (h2 : h ≤ xs.length) : SlI k w (subS v l h 1) ((xs.take h).drop l) := by
  have := SlC.sub hs h1 h2
  unfold SlI
  have e : ((xs.take h).drop l).length = h - l := by simp; omega
  rw [e]
  simpa [List.map_take, List.map_drop] using this
theorem SlI.drop {k : IntKind} {w : World} {v : Value} {xs : List Int} (hs : SlI k w v xs) {l : Nat} (h1 : l ≤ xs.length) : SlI k w (subS v l xs.length 1) (xs.drop l) := by
  have := SlI.sub hs h1 (Nat.le_refl _)
  rwa [List.take_length] at this

/-- Only values are kept of what is known. -/
def vals : Env → Env
  | [] => []
  | (d, r) :: E => (d, match r with | .val v => .val v | _ => .any) :: vals E
theorem vals_ok (E : Env) (t : Nat) : lkE (vals E) t = (match lkE E t with | .val v => .val v | _ => .any) := by
  induction E with
  | nil => rfl
  | cons p E ih =>
    obtain ⟨d, r⟩ := p
    simp only [vals, look_push]
    split
    · rfl
    · exact ih

section
variable {P : Program} {l : List Oper} {N : Nat} {wb : World} {K : List Oper → Env → Prop} {rest : List Oper} {E : Env} {Q : Exit → Act → World → Prop}
variable {d : Tmp} {ty t t' : TypeId} {pos : String} {after : Array Edge} {g : Option (Nat × Bool)} {x y z : Operand} {k k' : IntKind}

theorem St.vals {a : Act} {w w' : World} (s : St N wb E a w) : St N w' (LA.vals E) a w' := by
  refine ⟨s.sz, s.df, Ext.refl _, fun t => ?_⟩
  rw [vals_ok]
  have := s.sat t
  split
  · rename_i v hv; rw [hv] at this; exact this
  · trivial

/-- A part of a slice whose value is known: the value of the part is. -/
theorem run_sub {n s : Nat} {cs : List Value} {v : Value} {w : World} {e : TypeId} (ht : P.underlying t = some (.slice e)) (hs : ∀ w, (sizeOf e).run P w = .ok s w) (h : SlC w v n s cs) (lo hi : Option Value) (l h' : Nat)
    (hb : ∀ cap, n ≤ cap → (Instr.sliceBounds true n cap lo hi none).run P w = .ok (l, h', cap) w) : (Instr.sliceAt t v lo hi none).run P w = .ok (subS v l h' s) w := by
  have fin : ∀ (a : Option Addr) (cap : Nat), n ≤ cap → (Instr.sliceAt t (.slice a n cap) lo hi none).run P w = .ok (subS (.slice a n cap) l h' s) w := fun a cap hc => by
    simp only [Instr.sliceAt, Instr.slice, Sem.run_bind, run_underlying ht, Result.andThen_ok, hb cap hc, hs, subS]
    simp [sliced]
  obtain ⟨h0, a, cap, rfl, hc, -⟩ := h
  exact fin _ _ hc
theorem bounds_l {n cap l : Nat} {w : World} (h1 : l ≤ n) : (Instr.sliceBounds true n cap (some (.int k (l : Int))) none none).run P w = .ok (l, n, cap) w := by
  simp only [Instr.sliceBounds, Sem.run_bind, Sem.run_pure, Result.andThen_ok]
  rw [run_sliceBound w k l n _ (by omega) (by omega)]
  simp
theorem bounds_h {n cap h : Nat} {w : World} (h1 : h ≤ cap) : (Instr.sliceBounds true n cap none (some (.int k (h : Int))) none).run P w = .ok (0, h, cap) w := by
  simp only [Instr.sliceBounds, Sem.run_bind, Sem.run_pure, Result.andThen_ok]
  rw [run_sliceBound w k h cap _ (by omega) (by omega)]
  simp
theorem bounds_lh {n cap l h : Nat} {w : World} (h0 : l ≤ h) (h1 : h ≤ cap) : (Instr.sliceBounds true n cap (some (.int k (l : Int))) (some (.int k' (h : Int))) none).run P w = .ok (l, h, cap) w := by
  simp only [Instr.sliceBounds, Sem.run_bind, Sem.run_pure, Result.andThen_ok]
  rw [run_sliceBound w k' h cap _ (by omega) (by omega)]
  simp only [Result.andThen_ok, Int.toNat_natCast]
  rw [run_sliceBound w k l h _ (by omega) (by omega)]
  simp
theorem LA_sliceL {n s : Nat} {cs : List Value} {v : Value} {i : Int} (hg : gdec l E g = some true) (e : TypeId) (ht : P.underlying t = some (.slice e))
    (hx : opE E x = .val v) (hv : HasC wb (.val v) n s cs) (hi : opE E y = .val (.int k i)) (h0 : 0 ≤ i) (hn : i ≤ n) (hs : ∀ w, (sizeOf e).run P w = .ok s w) (h : LA P l wb K rest ((d, .val (subS v i.toNat n s)) :: E)) :
    LA P l wb K (⟨some d, .slice t x (some y) none none, ty, pos, after, g⟩ :: rest) E :=
  LA_of _ hg (OB_val fun a w he hh => by
    have h1 := hh x (by simp [Op.operands])
    have h2 := hh y (by simp [Op.operands])
    rw [hx] at h1; rw [hi] at h2; simp only [AD.ok] at h1 h2
    obtain ⟨j, rfl⟩ := Int.eq_ofNat_of_zero_le h0
    simp only [execOp, Option.map_some, Option.map_none, h1, h2, Sem.run_bind, run_sub ht hs (hv v w he rfl) _ _ j n (fun cap hc => bounds_l (by omega)), Result.andThen_ok, Sem.run_pure, Int.toNat_natCast]) h
theorem LA_sliceH {n s : Nat} {cs : List Value} {v : Value} {i : Int} (hg : gdec l E g = some true) (e : TypeId) (ht : P.underlying t = some (.slice e))
    (hx : opE E x = .val v) (hv : HasC wb (.val v) n s cs) (hi : opE E y = .val (.int k i)) (h0 : 0 ≤ i) (hn : i ≤ n) (hs : ∀ w, (sizeOf e).run P w = .ok s w) (h : LA P l wb K rest ((d, .val (subS v 0 i.toNat s)) :: E)) :
    LA P l wb K (⟨some d, .slice t x none (some y) none, ty, pos, after, g⟩ :: rest) E :=
  LA_of _ hg (OB_val fun a w he hh => by
    have h1 := hh x (by simp [Op.operands])
    have h2 := hh y (by simp [Op.operands])
    rw [hx] at h1; rw [hi] at h2; simp only [AD.ok] at h1 h2
    obtain ⟨j, rfl⟩ := Int.eq_ofNat_of_zero_le h0
    simp only [execOp, Option.map_some, Option.map_none, h1, h2, Sem.run_bind, run_sub ht hs (hv v w he rfl) _ _ 0 j (fun cap hc => bounds_h (by omega)), Result.andThen_ok, Sem.run_pure, Int.toNat_natCast]) h
theorem LA_sliceLH {n s : Nat} {cs : List Value} {v : Value} {i i' : Int} (hg : gdec l E g = some true) (e : TypeId) (ht : P.underlying t = some (.slice e))
    (hx : opE E x = .val v) (hv : HasC wb (.val v) n s cs) (hi : opE E y = .val (.int k i)) (hi' : opE E z = .val (.int k' i')) (h0 : 0 ≤ i) (h1 : i ≤ i') (hn : i' ≤ n) (hs : ∀ w, (sizeOf e).run P w = .ok s w) (h : LA P l wb K rest ((d, .val (subS v i.toNat i'.toNat s)) :: E)) :
    LA P l wb K (⟨some d, .slice t x (some y) (some z) none, ty, pos, after, g⟩ :: rest) E :=
  LA_of _ hg (OB_val fun a w he hh => by
    have h3 := hh x (by simp [Op.operands])
    have h4 := hh y (by simp [Op.operands])
    have h5 := hh z (by simp [Op.operands])
    rw [hx] at h3; rw [hi] at h4; rw [hi'] at h5; simp only [AD.ok] at h3 h4 h5
    obtain ⟨j, rfl⟩ := Int.eq_ofNat_of_zero_le h0
    obtain ⟨j', rfl⟩ := Int.eq_ofNat_of_zero_le (by omega : 0 ≤ i')
    simp only [execOp, Option.map_some, Option.map_none, h3, h4, h5, Sem.run_bind, run_sub ht hs (hv v w he rfl) _ _ j j' (fun cap hc => bounds_lh (by omega) (by omega)), Result.andThen_ok, Sem.run_pure, Int.toNat_natCast]) h

/-- 'append(xs, x)': the row of one element that the new one is laid into. -/
theorem fill_one {c : Value} {z : Array Value} (hc : c.cells = #[c]) (_hz : z.size = 1) : Instr.fill (fun i => some (i * 1, 1)) ((Array.range (1 * 1)).map (fun j => z[j % z.size]!)) [(0, c)] = some #[c] := by
  have e : Array.range (1 * 1) = #[0] := rfl
  rw [e]; simp [Instr.fill, hc]
theorem LA_one {c z : Value} {b : Nat} {e : TypeId} (hg : gdec l E g = some true) (hel : El P t e z 1 b) (hx : opE E x = .val c) (hc : c.cells = #[c]) (h : LA P l wb K rest ((d, .pred (slC 1 1 [c])) :: E)) :
    LA P l wb K (⟨some d, .buildSlice t 1 #[(0, x)], ty, pos, after, g⟩ :: rest) E := by
  refine LA_of (.pred (slC 1 1 [c])) hg (fun a w he hh => ?_) h
  have h1 := hh x (by simp [Op.operands])
  rw [hx] at h1; simp only [AD.ok] at h1
  have hrun : (Instr.buildSlice t 1 #[(0, c)]).run P w = .ok (.slice (some ⟨w.heap.size, 0, none⟩) 1 1) (w.alloc (.cells #[c] e)) := by
    simp only [Instr.buildSlice, Sem.run_bind, run_underlying hel.ht, Result.andThen_ok, hel.sizeOf, Nat.reduceMul, Nat.reducePow, gt_iff_lt, Nat.reduceLT, if_false, Sem.run_pure, Nat.reduceEqDiff, hel.zero, fill_one hc hel.zs]
    rfl
  simp only [execOp, List.map_toArray, List.map_cons, List.map_nil, h1, Sem.run_bind, hrun, Result.andThen_ok, Sem.run_pure]
  refine ⟨Ext.alloc _ _, rfl, _, 1, rfl, Nat.le_refl _, by decide, (fun h => by cases h), .inr ⟨w.heap.size, 0, rfl, fun j c' hj => ?_⟩⟩
  rw [World.cell?_alloc_at _ _ _ _ rfl]
  match j, hj with
  | 0, hj => simpa using hj

theorem run_append_any {w : World} {base e s b n m : Nat} {v vy z : Value} {cs news : List Value} (hel : El P t e z s b) (hown : Own base e s w v n cs) (hy : SlC w vy m s news) (h1 : ∀ u ∈ news, u.oneCell' = true)
    (h63 : n + m ≤ maxLen) (hbytes : (n + m) * b ≤ 140737488355328) (hbase : base ≤ w.heap.size) :
    ∃ v' w', (Builtin.append_ #[t, t] ty #[v, vy]).run P w = .ok v' w' ∧ Own base e s w' v' (n + m) (cs ++ news) ∧ w.grownBy w' v.ownBlock := by
  obtain ⟨i, hi1, hi2, hi3, hi4⟩ := hel.parts
  obtain ⟨h0, a, cap, rfl, hc, hm, hn, hcs⟩ := hy
  cases a with
  | none =>
    obtain rfl := hn rfl
    obtain rfl : m = 0 := by omega
    have hnews : news = [] := List.eq_nil_of_length_eq_zero (by simpa using h0)
    subst hnews
    exact ⟨v, w, run_append_owned_none (P := P) w base t ty e i s hel.ht hi1 v n cs hown, by simpa using hown, ⟨rfl, rfl, rfl, Nat.le_refl _, fun _ _ _ => rfl⟩⟩
  | some a =>
    have hcells : ∀ (j : Nat) (u : Value), news[j]? = some u → w.cell? (a.add j) = some u := fun j u hj => by
      rcases hcs with rfl | ⟨b', off, ha, hc'⟩
      · have : news = [] := List.eq_nil_of_length_eq_zero (by simpa using h0)
        subst this; cases hj
      · obtain rfl := Option.some.inj ha
        rw [Addr.add_lit]; exact hc' j u hj
    obtain ⟨v', w', g1, g2, g3, g4⟩ := run_append_own (P := P) w base t ty e i z s b hel.ht hi1 hi2 hi3 hi4 hel.zs hel.pos v n cs hown a m cap news h0 hcells h1 h63 hbytes hbase
    exact ⟨v', w', g1, g2, g3⟩

/-- append onto a slice of the call's own: the base is the world behind it. -/
theorem LX_append {base e s b n m : Nat} {v z : Value} {cs news : List Value} {r : AD} (hg : g = none) (hd : d < N) (hel : El P t e z s b) (hx : opE E x = .val v) (hown : Own base e s wb v n cs) (hr : opE E y = r) (hy : HasC wb r m s news)
    (h1 : ∀ u ∈ news, u.oneCell' = true) (h63 : n + m ≤ maxLen) (hbytes : (n + m) * b ≤ 140737488355328) (hbase : base ≤ wb.heap.size)
    (h : ∀ v' w w', Ext wb w → Own base e s w' v' (n + m) (cs ++ news) → w.grownBy w' v.ownBlock → LX P N w' l Q rest ((d, .val v') :: vals E)) :
    LX P N wb l Q (⟨some d, .call ⟨.builtin .append, #[x, y], #[t, t]⟩, ty, pos, after, g⟩ :: rest) E := by
  unfold LX
  intro a w st
  have e1 := st.opd x; rw [hx] at e1; simp only [AD.ok] at e1
  have e2 := st.opd y; rw [hr] at e2
  obtain ⟨v', w', g1, g2, g3⟩ := run_append_any (t := t) (ty := ty) hel (hown.ext st.ext) (hy _ _ st.ext e2) h1 h63 hbytes (Nat.le_trans hbase st.ext.size)
  refine wpList_plain hg fun Kc hK => ?_
  unfold Oper.wp
  simp only [execOp, resolve, invoke, builtin, Sem.run_bind, Sem.run_pure, Result.andThen_ok, List.map_toArray, List.map_cons, List.map_nil, e1, g1, Oper.upon]
  refine hK _ _ ?_
  have h2 := h v' w w' st.ext g2 g3
  unfold LX at h2
  exact h2 _ _ ((st.vals (w' := w')).push (Ext.refl _) (dst := some d) (r := .val v') (fun d' hd' => by cases hd'; exact hd) (.inr rfl))
/-- append of one number onto a row of the call's own. -/
theorem LX_appendI {w0 : World} {e b : Nat} {v : Value} {z c : Int} {cs : List Int} {kd : IntKind} (hg : g = none) (hd : d < N) (hel : El P t e (.int kd z) 1 b) (hx : opE E x = .val v) (hown : OwnI w0.heap.size e kd wb v cs) (hy : opE E y = .pred (slC 1 1 [.int kd c]))
    (h63 : cs.length + 1 ≤ 9223372036854775807) (hbytes : (cs.length + 1) * b ≤ 140737488355328) (hbase : Ext w0 wb)
    (h : ∀ v' w', Ext w0 w' → OwnI w0.heap.size e kd w' v' (cs ++ [c]) → LX P N w' l Q rest ((d, .val v') :: vals E)) :
    LX P N wb l Q (⟨some d, .call ⟨.builtin .append, #[x, y], #[t, t]⟩, ty, pos, after, g⟩ :: rest) E :=
  LX_append hg hd hel hx hown hy HasC.pred (by simp [Value.oneCell']) (by unfold maxLen; omega) hbytes hbase.size (fun v' w w' he ho hgr => by
    refine h v' w' ((hbase.trans he).grown hgr (fun k hk => (Own.lt hown k hk).1)) ?_
    unfold OwnI
    simpa using ho)

/-! ### Blocks of the call's own -/
/-- A pointer to a block whose cells are known. -/
def ptrB (base : Nat) (cs : Array Value) (e : TypeId) : AV := ⟨fun v w => ∃ b, base ≤ b ∧ v = .pointer (some ⟨b, 0, none⟩) ∧ w.heap[b]? = some (.cells cs e (0, 0)),
  fun _ _ _ x ⟨b, h1, h2, h3⟩ => ⟨b, h1, h2, x.block h3⟩⟩
theorem LA_alloc {e : TypeId} {z : Value} (hg : gdec l E g = some true) (hz : ∀ w, (zeroValue e).run P w = .ok z w) (h : LA P l wb K rest ((d, .pred (ptrB wb.heap.size z.cells e)) :: E)) :
    LA P l wb K (⟨some d, .alloc e, ty, pos, after, g⟩ :: rest) E :=
  LA_of _ hg (fun a w he hh => by
    have hrun : (Instr.alloc e true (.tuple #[])).run P w = .ok (.pointer (some ⟨w.heap.size, 0, none⟩)) (w.alloc (.cells z.cells e)) := by
      simp only [Instr.alloc, Sem.run_bind, hz, Result.andThen_ok]
      rfl
    simp only [execOp, Sem.run_bind, hrun, Result.andThen_ok, Sem.run_pure]
    exact ⟨Ext.alloc _ _, w.heap.size, he.size, rfl, heap_alloc_new w _⟩) h
theorem LA_box {e : TypeId} {c : Value} (hg : gdec l E g = some true) (hx : opE E x = .val c) (h : LA P l wb K rest ((d, .pred (ptrB wb.heap.size c.cells e)) :: E)) :
    LA P l wb K (⟨some d, .box e x, ty, pos, after, g⟩ :: rest) E :=
  LA_of _ hg (fun a w he hh => by
    have h0 := hh x (by simp [Op.operands])
    rw [hx] at h0; simp only [AD.ok] at h0
    have hrun : (Instr.box e c).run P w = .ok (.pointer (some ⟨w.heap.size, 0, none⟩)) (w.alloc (.cells c.cells e)) := rfl
    simp only [execOp, h0, Sem.run_bind, hrun, Result.andThen_ok, Sem.run_pure]
    exact ⟨Ext.alloc _ _, w.heap.size, he.size, rfl, heap_alloc_new w _⟩) h

theorem Ext.setRow {w0 w : World} (h : Ext w0 w) {b : Nat} (hb : w0.heap.size ≤ b) (cs : Array Value) : Ext w0 (w.setRow b cs) :=
  Below.trans h ⟨rfl, rfl, rfl, by simp, fun k hk => setRow_other w b k cs (by omega)⟩
/-- What does not lie in the block that is written stays. -/
theorem setRow_cell {w : World} {b : Nat} {cs : Array Value} {p : Addr} (h : p.block ≠ b) : (w.setRow b cs).cell? p = w.cell? p := World.cell?_of_block (setRow_other w b p.block cs h)

theorem Own.setRow {base e s n : Nat} {w : World} {v : Value} {cs : List Value} (h : Own base e s w v n cs) {b : Nat} (cur : Array Value) (hne : v.ownBlock ≠ some b) : Own base e s (w.setRow b cur) v n cs := by
  refine ⟨h.1, ?_⟩
  rcases h.2 with hn | ⟨g, cap, cur', rfl, hb', hg, r⟩
  · exact .inl hn
  · refine .inr ⟨g, cap, cur', rfl, hb', ?_, r⟩
    rw [setRow_other w b g cur (fun e => hne (by simp [Value.ownBlock, e]))]; exact hg
theorem SlC.setRow {w : World} {v : Value} {n s : Nat} {cs : List Value} (h : SlC w v n s cs) {b : Nat} (cur : Array Value) (hne : v.ownBlock ≠ some b) : SlC (w.setRow b cur) v n s cs := by
  obtain ⟨h0, a, cap, rfl, h2, h3, h4, h5⟩ := h
  refine ⟨h0, a, cap, rfl, h2, h3, h4, ?_⟩
  rcases h5 with h5 | ⟨g, off, rfl, h5⟩
  · exact .inl h5
  · refine .inr ⟨g, off, rfl, fun j c hj => ?_⟩
    rw [setRow_cell (fun e => hne (by simp [Value.ownBlock]; exact e))]; exact h5 j c hj

theorem LX_storeAll {b : Nat} {cur : Array Value} {e : TypeId} {c : Value} (hg : g = none) (hx : opE E x = .val (.pointer (some ⟨b, 0, none⟩))) (hy : opE E y = .val c) (hb : wb.heap[b]? = some (.cells cur e (0, 0)))
    (hs : ∀ w, (sizeOf t).run P w = .ok c.cells.size w) (hfit : c.cells.size = cur.size) (h1 : ∀ u ∈ c.cells.toList, u.oneCell' = true) (h : ∀ w, Ext wb w → LX P N (w.setRow b c.cells) l Q rest (vals E)) :
    LX P N wb l Q (⟨none, .store t x y, ty, pos, after, g⟩ :: rest) E := by
  unfold LX
  intro a w st
  have e1 := st.opd x; rw [hx] at e1; simp only [AD.ok] at e1
  have e2 := st.opd y; rw [hy] at e2; simp only [AD.ok] at e2
  have hrun : (Instr.storeAt t (.pointer (some ⟨b, 0, none⟩)) c).run P w = .ok () (w.setRow b c.cells) := by
    have hst := run_storeCells_at P b 0 e c.cells.toList 0 cur w (st.ext.block hb) (by simp [hfit]) h1
    have e3 : (cur.toList.take (0 + 0) ++ c.cells.toList ++ cur.toList.drop (0 + 0 + c.cells.toList.length)).toArray = c.cells := by
      rw [List.drop_eq_nil_of_le (by simp [hfit])]; simp
    rw [e3] at hst
    simp only [Instr.storeAt, Instr.sureAddr, storeVar, Sem.run_bind, Sem.run_pure, Result.andThen_ok, hs, ne_eq, not_true_eq_false, if_false, hst]
  refine wpList_plain hg fun Kc hK => ?_
  unfold Oper.wp
  simp only [execOp, Sem.run_bind, e1, e2, hrun, Result.andThen_ok, Sem.run_pure, Oper.upon]
  refine hK _ _ ?_
  have h2 := h w st.ext
  unfold LX at h2
  exact h2 _ _ (st.vals (w' := w.setRow b c.cells))

/-- The address of an element of an array variable. -/
theorem LA_indexArr {b n s o : Nat} {e : TypeId} {i : Int} (hg : gdec l E g = some true) (ht : P.underlying t = some (.array n e)) (hs : ∀ w, (sizeOf e).run P w = .ok s w) (hx : opE E x = .val (.pointer (some ⟨b, o, none⟩)))
    (hi : opE E y = .val (.int k i)) (j : Nat) (hj : i = j) (hn : j < n) (h : LA P l wb K rest ((d, .val (.pointer (some ⟨b, o + j * s, none⟩))) :: E)) : LA P l wb K (⟨some d, .indexAddr t x y, ty, pos, after, g⟩ :: rest) E :=
  LA_of _ hg (OB_val fun a w he hh => by
    have h1 := hh x (by simp [Op.operands])
    have h2 := hh y (by simp [Op.operands])
    rw [hx] at h1; rw [hi] at h2; simp only [AD.ok] at h1 h2
    subst hj
    have hrun : (Instr.indexAt t (.pointer (some ⟨b, o, none⟩)) (.int k (j : Int))).run P w = .ok (.pointer (some (Addr.add ⟨b, o, none⟩ (j * s)))) w := by
      simp [Instr.indexAt, run_underlying ht, asIntOf, hs, hn, Instr.sureAddr]
    simp only [execOp, h1, h2, Sem.run_bind, hrun, Result.andThen_ok, Sem.run_pure, Addr.add_lit]) h
/-- The value of a cell of a block that is known. -/
theorem LA_loadB {b o : Nat} {cs : Array Value} {e : TypeId} {c : Value} (hg : gdec l E g = some true) (ht : ∀ w, (isAgg t).run P w = .ok false w) (hx : opE E x = .val (.pointer (some ⟨b, o, none⟩))) (hb : wb.heap[b]? = some (.cells cs e (0, 0))) (hc : cs[o]? = some c)
    (h : LA P l wb K rest ((d, .val c) :: E)) : LA P l wb K (⟨some d, .load t x, ty, pos, after, g⟩ :: rest) E :=
  LA_loadV hg ht hx (by rw [cell_of_row wb b o cs e (0, 0) hb]; exact hc) h
theorem LA_loadBN {b : Nat} {cs : Array Value} {e : TypeId} (hg : gdec l E g = some true) (ht : ∀ w, (isAgg t).run P w = .ok true w) (hs : ∀ w, (sizeOf t).run P w = .ok cs.size w) (hx : opE E x = .val (.pointer (some ⟨b, 0, none⟩))) (hb : wb.heap[b]? = some (.cells cs e (0, 0)))
    (h : LA P l wb K rest ((d, .val (.agg cs)) :: E)) : LA P l wb K (⟨some d, .load t x, ty, pos, after, g⟩ :: rest) E :=
  LA_of _ hg (OB_val fun a w he hh => by
    have h1 := hh x (by simp [Op.operands])
    rw [hx] at h1; simp only [AD.ok] at h1
    have hl := run_loadCells_list (P := P) w ⟨b, 0, none⟩ cs.toList (fun j v hj => by
      rw [Addr.add_lit, cell_of_row w b (0 + j) cs e (0, 0) (he.block hb)]; simpa using hj)
    simp only [Array.length_toList, Array.toArray_toList] at hl
    simp only [execOp, h1, Instr.loadAt, Instr.sureAddr, loadVar, Sem.run_bind, Sem.run_pure, Result.andThen_ok, ht, if_true, hs, hl]) h
/-- A struct or an array out of its parts. -/
theorem LA_build1 {x0 : Operand} {v0 : Value} {j0 : Nat} {c : Value} (hg : gdec l E g = some true) (h0 : opE E x0 = .val v0) (hr : ∀ w, (Instr.build t #[(j0, v0)]).run P w = .ok c w) (h : LA P l wb K rest ((d, .val c) :: E)) :
    LA P l wb K (⟨some d, .build t #[(j0, x0)], ty, pos, after, g⟩ :: rest) E :=
  LA_of _ hg (OB_val fun a w he hh => by
    have e0 := hh x0 (by simp [Op.operands])
    rw [h0] at e0; simp only [AD.ok] at e0
    simp only [execOp, List.map_toArray, List.map_cons, List.map_nil, Sem.run_bind, e0, hr, Result.andThen_ok, Sem.run_pure]) h
theorem LA_build2 {x0 x1 : Operand} {v0 v1 : Value} {j0 j1 : Nat} {c : Value} (hg : gdec l E g = some true) (h0 : opE E x0 = .val v0) (h1 : opE E x1 = .val v1) (hr : ∀ w, (Instr.build t #[(j0, v0), (j1, v1)]).run P w = .ok c w) (h : LA P l wb K rest ((d, .val c) :: E)) :
    LA P l wb K (⟨some d, .build t #[(j0, x0), (j1, x1)], ty, pos, after, g⟩ :: rest) E :=
  LA_of _ hg (OB_val fun a w he hh => by
    have e0 := hh x0 (by simp [Op.operands])
    rw [h0] at e0; simp only [AD.ok] at e0
    have e1 := hh x1 (by simp [Op.operands])
    rw [h1] at e1; simp only [AD.ok] at e1
    simp only [execOp, List.map_toArray, List.map_cons, List.map_nil, Sem.run_bind, e0, e1, hr, Result.andThen_ok, Sem.run_pure]) h
theorem LA_build3 {x0 x1 x2 : Operand} {v0 v1 v2 : Value} {j0 j1 j2 : Nat} {c : Value} (hg : gdec l E g = some true) (h0 : opE E x0 = .val v0) (h1 : opE E x1 = .val v1) (h2 : opE E x2 = .val v2) (hr : ∀ w, (Instr.build t #[(j0, v0), (j1, v1), (j2, v2)]).run P w = .ok c w) (h : LA P l wb K rest ((d, .val c) :: E)) :
    LA P l wb K (⟨some d, .build t #[(j0, x0), (j1, x1), (j2, x2)], ty, pos, after, g⟩ :: rest) E :=
  LA_of _ hg (OB_val fun a w he hh => by
    have e0 := hh x0 (by simp [Op.operands])
    rw [h0] at e0; simp only [AD.ok] at e0
    have e1 := hh x1 (by simp [Op.operands])
    rw [h1] at e1; simp only [AD.ok] at e1
    have e2 := hh x2 (by simp [Op.operands])
    rw [h2] at e2; simp only [AD.ok] at e2
    simp only [execOp, List.map_toArray, List.map_cons, List.map_nil, Sem.run_bind, e0, e1, e2, hr, Result.andThen_ok, Sem.run_pure]) h
theorem LA_build4 {x0 x1 x2 x3 : Operand} {v0 v1 v2 v3 : Value} {j0 j1 j2 j3 : Nat} {c : Value} (hg : gdec l E g = some true) (h0 : opE E x0 = .val v0) (h1 : opE E x1 = .val v1) (h2 : opE E x2 = .val v2) (h3 : opE E x3 = .val v3) (hr : ∀ w, (Instr.build t #[(j0, v0), (j1, v1), (j2, v2), (j3, v3)]).run P w = .ok c w) (h : LA P l wb K rest ((d, .val c) :: E)) :
    LA P l wb K (⟨some d, .build t #[(j0, x0), (j1, x1), (j2, x2), (j3, x3)], ty, pos, after, g⟩ :: rest) E :=
  LA_of _ hg (OB_val fun a w he hh => by
    have e0 := hh x0 (by simp [Op.operands])
    rw [h0] at e0; simp only [AD.ok] at e0
    have e1 := hh x1 (by simp [Op.operands])
    rw [h1] at e1; simp only [AD.ok] at e1
    have e2 := hh x2 (by simp [Op.operands])
    rw [h2] at e2; simp only [AD.ok] at e2
    have e3 := hh x3 (by simp [Op.operands])
    rw [h3] at e3; simp only [AD.ok] at e3
    simp only [execOp, List.map_toArray, List.map_cons, List.map_nil, Sem.run_bind, e0, e1, e2, e3, hr, Result.andThen_ok, Sem.run_pure]) h
theorem LA_build5 {x0 x1 x2 x3 x4 : Operand} {v0 v1 v2 v3 v4 : Value} {j0 j1 j2 j3 j4 : Nat} {c : Value} (hg : gdec l E g = some true) (h0 : opE E x0 = .val v0) (h1 : opE E x1 = .val v1) (h2 : opE E x2 = .val v2) (h3 : opE E x3 = .val v3) (h4 : opE E x4 = .val v4) (hr : ∀ w, (Instr.build t #[(j0, v0), (j1, v1), (j2, v2), (j3, v3), (j4, v4)]).run P w = .ok c w) (h : LA P l wb K rest ((d, .val c) :: E)) :
    LA P l wb K (⟨some d, .build t #[(j0, x0), (j1, x1), (j2, x2), (j3, x3), (j4, x4)], ty, pos, after, g⟩ :: rest) E :=
  LA_of _ hg (OB_val fun a w he hh => by
    have e0 := hh x0 (by simp [Op.operands])
    rw [h0] at e0; simp only [AD.ok] at e0
    have e1 := hh x1 (by simp [Op.operands])
    rw [h1] at e1; simp only [AD.ok] at e1
    have e2 := hh x2 (by simp [Op.operands])
    rw [h2] at e2; simp only [AD.ok] at e2
    have e3 := hh x3 (by simp [Op.operands])
    rw [h3] at e3; simp only [AD.ok] at e3
    have e4 := hh x4 (by simp [Op.operands])
    rw [h4] at e4; simp only [AD.ok] at e4
    simp only [execOp, List.map_toArray, List.map_cons, List.map_nil, Sem.run_bind, e0, e1, e2, e3, e4, hr, Result.andThen_ok, Sem.run_pure]) h
theorem LA_build6 {x0 x1 x2 x3 x4 x5 : Operand} {v0 v1 v2 v3 v4 v5 : Value} {j0 j1 j2 j3 j4 j5 : Nat} {c : Value} (hg : gdec l E g = some true) (h0 : opE E x0 = .val v0) (h1 : opE E x1 = .val v1) (h2 : opE E x2 = .val v2) (h3 : opE E x3 = .val v3) (h4 : opE E x4 = .val v4) (h5 : opE E x5 = .val v5) (hr : ∀ w, (Instr.build t #[(j0, v0), (j1, v1), (j2, v2), (j3, v3), (j4, v4), (j5, v5)]).run P w = .ok c w) (h : LA P l wb K rest ((d, .val c) :: E)) :
    LA P l wb K (⟨some d, .build t #[(j0, x0), (j1, x1), (j2, x2), (j3, x3), (j4, x4), (j5, x5)], ty, pos, after, g⟩ :: rest) E :=
  LA_of _ hg (OB_val fun a w he hh => by
    have e0 := hh x0 (by simp [Op.operands])
    rw [h0] at e0; simp only [AD.ok] at e0
    have e1 := hh x1 (by simp [Op.operands])
    rw [h1] at e1; simp only [AD.ok] at e1
    have e2 := hh x2 (by simp [Op.operands])
    rw [h2] at e2; simp only [AD.ok] at e2
    have e3 := hh x3 (by simp [Op.operands])
    rw [h3] at e3; simp only [AD.ok] at e3
    have e4 := hh x4 (by simp [Op.operands])
    rw [h4] at e4; simp only [AD.ok] at e4
    have e5 := hh x5 (by simp [Op.operands])
    rw [h5] at e5; simp only [AD.ok] at e5
    simp only [execOp, List.map_toArray, List.map_cons, List.map_nil, Sem.run_bind, e0, e1, e2, e3, e4, e5, hr, Result.andThen_ok, Sem.run_pure]) h

/-- A row of numbers written out. -/
def litQ (kd : IntKind) (xs : List Int) : List (Nat × Value) := xs.zipIdx.map fun (x, i) => (i, Value.int kd x)
theorem LA_litI {n : Nat} {ps : List (Nat × Operand)} (e : TypeId) (kd : IntKind) (xs : List Int) (hg : gdec l E g = some true) (hq : ∀ a : Act, ps.map (fun (i, x) => (i, a.eval x)) = litQ kd xs)
    (hr : ∀ w, (Instr.buildSlice t n (litQ kd xs).toArray).run P w = .ok (.slice (some ⟨w.heap.size, 0, none⟩) n n) (w.alloc (.cells (xs.map (Value.int kd)).toArray e))) (hn : xs.length = n) (hm : n ≤ maxLen)
    (h : LA P l wb K rest ((d, .pred (ownI wb.heap.size e kd xs)) :: E)) : LA P l wb K (⟨some d, .buildSlice t n ps.toArray, ty, pos, after, g⟩ :: rest) E :=
  LA_of _ hg (fun a w he hh => by
    simp only [execOp, List.map_toArray, hq, Sem.run_bind, hr, Result.andThen_ok, Sem.run_pure]
    refine ⟨Ext.alloc _ _, ?_⟩
    have := World.ownsRow_lit (base := wb.heap.size) (e := e) (size := 1) w (xs.map (Value.int kd)).toArray n he.size hm (by simp [hn])
    show Own _ _ _ _ _ _ _
    rw [hn]
    simpa [Own] using this) h

/-- The result lies in a variable of its own. -/
theorem PX_retB {fn : Func} {w0 : World} {r : AD} {p b : Nat} {cs : Array Value} {e : TypeId} {dsc : TypeDesc} (hr : fn.results = #[.cell p t]) (hl : lkE E p = .val (.pointer (some ⟨b, 0, none⟩))) (hb : wb.heap[b]? = some (.cells cs e (0, 0)))
    (hu : P.underlying t = some dsc) (hd : (match dsc with | .struct _ | .array _ _ => true | _ => false) = true) (hi : (P.info? t).map (·.size) = some cs.size) (he : Ext w0 wb) (hc : ∀ w, Ext wb w → r.ok (.agg cs) w) :
    PX N wb (bodyPost P fn (Ret w0 r)) .ret E := by
  unfold PX
  intro a w st
  have h1 := st.sat p
  rw [hl] at h1
  exact ⟨st.df, _, results_cell_row hr _ _ b e cs (0, 0) dsc h1 (st.ext.block hb) hu hd hi, _, rfl, he.trans st.ext, hc w st.ext⟩
end

/-- A row of integers that came in: all its numbers up to the capacity. -/
def IsRow (k : IntKind) (w : World) (a : Option Addr) (len cap : Nat) (zs : List Int) : Prop :=
  (a = none ∧ len = 0 ∧ cap = 0 ∧ zs = []) ∨
  ∃ x, a = some x ∧ len ≤ cap ∧ cap ≤ maxLen ∧ zs.length = cap ∧ (∀ i, i < zs.length → w.cell? (x.add i) = some (.int k (zs.getD i 0))) ∧ ∀ n ∈ zs, (Lit.int k n).wf = true

theorem isRow_sl {k : IntKind} {w : World} {a : Option Addr} {len cap : Nat} {zs : List Int} (h : IsRow k w a len cap zs) : SlI k w (.slice a len cap) (zs.take len) ∧ (zs.take len).length = len ∧ ∀ n ∈ zs.take len, (Lit.int k n).wf = true := by
  rcases h with ⟨rfl, rfl, rfl, rfl⟩ | ⟨x, rfl, hl, hm, hz, hc, hw⟩
  · exact ⟨⟨rfl, none, 0, rfl, Nat.le_refl _, Nat.zero_le _, fun _ => rfl, .inl rfl⟩, rfl, fun n hn => by cases hn⟩
  · have e : (zs.take len).length = len := by simp; omega
    refine ⟨⟨by simp, some x, cap, by rw [e], by omega, hm, (fun h => by cases h), ?_⟩, e, fun n hn => hw n (List.mem_of_mem_take hn)⟩
    by_cases h0 : len = 0
    · left; omega
    · right
      have hx := hc 0 (by omega)
      obtain ⟨b, off, spot⟩ := x
      have hs : spot = none := by
        cases spot with
        | none => rfl
        | some s =>
          exfalso
          rw [Addr.add_zero'] at hx
          simp only [World.cell?] at hx
          split at hx <;> simp at hx
      subst hs
      refine ⟨b, off, rfl, fun j c hj => ?_⟩
      rw [List.getElem?_map, List.getElem?_take] at hj
      split at hj
      · rename_i hjl
        have := hc j (by omega)
        rw [Addr.add_lit] at this
        rw [this]
        simp [List.getElem?_eq_getElem (by omega : j < zs.length)] at hj
        simp [List.getD, List.getElem?_eq_getElem (by omega : j < zs.length), hj]
      · cases hj

/-- The bounds of numbers that came in. -/
theorem wf_k {k : IntKind} {n : Int} (h : (Lit.int k n).wf = true) : k.min ≤ n ∧ n ≤ k.max := by simpa [Lit.wf] using h
theorem wf_u8 {n : Int} (h : (Lit.int .u8 n).wf = true) : 0 ≤ n ∧ n < 256 := by
  have h1 := wf_k h
  have e1 : IntKind.u8.min = 0 := by decide
  have e2 : IntKind.u8.max = 255 := by decide
  omega
theorem wf_u16 {n : Int} (h : (Lit.int .u16 n).wf = true) : 0 ≤ n ∧ n < 65536 := by
  have h1 := wf_k h
  have e1 : IntKind.u16.min = 0 := by decide
  have e2 : IntKind.u16.max = 65535 := by decide
  omega
theorem wf_u32 {n : Int} (h : (Lit.int .u32 n).wf = true) : 0 ≤ n ∧ n < 4294967296 := by
  have h1 := wf_k h
  have e1 : IntKind.u32.min = 0 := by decide
  have e2 : IntKind.u32.max = 4294967295 := by decide
  omega
theorem wf_u64 {n : Int} (h : (Lit.int .u64 n).wf = true) : 0 ≤ n ∧ n < 18446744073709551616 := by
  have h1 := wf_k h
  have e1 : IntKind.u64.min = 0 := by decide
  have e2 : IntKind.u64.max = 18446744073709551615 := by decide
  omega
theorem wf_i64 {n : Int} (h : (Lit.int .i64 n).wf = true) : -9223372036854775808 ≤ n ∧ n < 9223372036854775808 := by
  have h1 := wf_k h
  have e1 : IntKind.i64.min = -9223372036854775808 := by decide
  have e2 : IntKind.i64.max = 9223372036854775807 := by decide
  omega

theorem ret_said {w : World} (en : Ending) (w' : World) (h : Ret w (.val (.bool true)) en w') : en = .returned (.bool true) ∧ Below w.heap.size w w' := by
  obtain ⟨v, h1, h2, h3⟩ := h
  have h3 : v = .bool true := h3
  subst h3; exact ⟨h1, h2⟩
end Go.LA
