/- Structures: elements of several cells, variables of the call's own, rows of runs. -/
import Derived.Test.YtjiacignpmabcaaDoorSh
import Derived.Test.YtjiacignpmabcaaDoorRP
set_option linter.unusedSimpArgs false
set_option linter.unusedVariables false
namespace Go.LA
open Go.RowKit Go.ArrP
/-- A fact that arithmetic is not to see. -/
structure Hide (P : Prop) : Prop where
  out : P
section
variable {P : Program} {l : List Oper} {N : Nat} {wb : World} {K : List Oper → Env → Prop} {rest : List Oper} {E : Env} {Q : Exit → Act → World → Prop}
variable {d : Tmp} {ty ty' t t' : TypeId} {pos pos' : String} {after after' : Array Edge} {g g' : Option (Nat × Bool)} {x y z : Operand} {k k' : IntKind}

/-- A structure that lies at an address. -/
theorem LA_loadC {cs : List Value} (hg : gdec l E g = some true) (ht : ∀ w, (isAgg t).run P w = .ok true w) (hs : ∀ w, (sizeOf t).run P w = .ok cs.length w) (hx : opE E x = .pred (ptrC cs)) (h : LA P l wb K rest ((d, .val (.agg cs.toArray)) :: E)) :
    LA P l wb K (⟨some d, .load t x, ty, pos, after, g⟩ :: rest) E :=
  LA_of _ hg (OB_val fun a w he hh => by
    have h1 := hh x (by simp [Op.operands])
    rw [hx] at h1
    obtain ⟨p, hv, hc⟩ := h1
    have hl := run_loadCells_list (P := P) w p cs hc
    simp only [execOp, hv, Instr.loadAt, Instr.sureAddr, loadVar, Sem.run_bind, Sem.run_pure, Result.andThen_ok, ht, if_true, hs, hl]) h
/-- A row of one structure. -/
theorem fold_set : ∀ (l : List Value) (k : Nat) (A : Array Value), k + l.length = A.size → (l.zipIdx k).foldl (fun cs x => cs.setIfInBounds x.2 x.1) A = (A.toList.take k ++ l).toArray
  | [], k, A, h => by
    apply Array.ext'
    simp only [List.zipIdx_nil, List.foldl_nil, List.append_nil]
    rw [List.take_of_length_le (by simp at h ⊢; omega)]
  | v :: l, k, A, h => by
    simp only [List.zipIdx_cons, List.foldl_cons]
    rw [fold_set l (k + 1) _ (by simp at h ⊢; omega)]
    apply Array.ext'
    simp only [Array.toList_setIfInBounds]
    rw [List.take_set, List.set_eq_take_append_cons_drop, if_pos (by simp at h ⊢; omega)]
    simp at h ⊢
    rw [List.take_take, Nat.min_eq_left (by omega)]
theorem fill_oneS {c : Value} {z : Array Value} {s : Nat} (hc : c.cells.size = s) : Instr.fill (fun i => some (i * s, s)) ((Array.range (1 * s)).map (fun j => z[j % z.size]!)) [(0, c)] = some c.cells := by
  have e : ((Array.range (1 * s)).map (fun j => z[j % z.size]!)).size = s := by simp
  obtain ⟨A, hA⟩ : ∃ A, A = (Array.range (1 * s)).map (fun j => z[j % z.size]!) := ⟨_, rfl⟩
  rw [← hA] at e ⊢
  have hf := fold_set c.cells.toList 0 A (by simp [e, hc])
  simp only [Instr.fill, Nat.zero_mul, hc]
  simp
  subst hc
  refine ⟨by omega, ?_⟩
  have hz : c.cells.size = c.cells.zipIdx.size := by simp
  rw [hz, ← Array.foldl_toList]
  simpa using hf
theorem LA_oneS {c z : Value} {s b : Nat} {e : TypeId} (hg : gdec l E g = some true) (hel : El P t e z s b) (hx : opE E x = .val c) (hc : c.cells.size = s) (hs1 : s ≤ 1000) (h : LA P l wb K rest ((d, .pred (ownC wb.heap.size e s 1 c.cells.toList)) :: E)) :
    LA P l wb K (⟨some d, .buildSlice t 1 #[(0, x)], ty, pos, after, g⟩ :: rest) E := by
  refine LA_of (.pred (ownC wb.heap.size e s 1 c.cells.toList)) hg (fun a w he hh => ?_) h
  have h1 := hh x (by simp [Op.operands])
  rw [hx] at h1; simp only [AD.ok] at h1
  have hne : ¬ s = 0 := by have := hel.pos; omega
  have hrun : (Instr.buildSlice t 1 #[(0, c)]).run P w = .ok (.slice (some ⟨w.heap.size, 0, none⟩) 1 1) (w.alloc (.cells c.cells e)) := by
    have hf := fill_oneS (c := c) (z := z.cells) (s := s) hc
    simp only [Instr.buildSlice, Sem.run_bind, run_underlying hel.ht, Result.andThen_ok, hel.sizeOf, Nat.one_mul, gt_iff_lt, show ¬ (2 ^ 24 < s) by omega, if_false, hne, Sem.run_pure, hel.zero]
    simp only [Nat.one_mul] at hf
    rw [hf]
    rfl
  simp only [execOp, List.map_toArray, List.map_cons, List.map_nil, h1, Sem.run_bind, hrun, Result.andThen_ok, Sem.run_pure]
  refine ⟨Ext.alloc _ _, ?_⟩
  refine ⟨by simp [hc], .inr ⟨w.heap.size, 1, c.cells, rfl, he.size, heap_alloc_new w _, Nat.le_refl _, by decide, by simp [hc], ?_⟩⟩
  rw [Nat.one_mul, ← hc]
  exact List.take_of_length_le (by simp)
/-- What is known between two parts of a body is said outright: all ways through the first one end so. -/
def Cut (N : Nat) (wb : World) (E' : Env) : Act → World → Prop := fun a w => St N wb E' a w
theorem CX_seqC {c c' : Code} (E' : Env) (h1 : CX P N wb c E (Exit.then (Cut N wb E') Q)) (h2 : CX P N wb c' E' Q) : CX P N wb (.seq c c') E Q := by
  refine CX_seq ?_
  unfold CX at *
  intro a w s
  refine Code.wp_mono ?_ (h1 a w s)
  intro e a' w' h
  cases e with
  | normal => exact h2 a' w' h
  | exit id => exact h
  | goto l => exact h
  | ret => exact h
  | panic ch => exact h
  | outgrown => exact h
theorem PX_cut {E' : Env} (hs : Sub wb E E') : PX N wb (Exit.then (Cut N wb E') Q) .normal E := by
  unfold PX
  intro a w s
  exact hs.st s
/-- The address of a part of a structure that lies somewhere: what is behind it. -/
theorem LA_fieldC {cs : List Value} {f o : Nat} (hg : gdec l E g = some true) (hx : opE E x = .pred (ptrC cs)) (hr : ∀ (a : Addr) w, (Instr.fieldAt t (.pointer (some a)) f).run P w = .ok (.pointer (some (a.add o))) w)
    (h : LA P l wb K rest ((d, .pred (ptrC (cs.drop o))) :: E)) : LA P l wb K (⟨some d, .fieldAddr t x f, ty, pos, after, g⟩ :: rest) E :=
  LA_of _ hg (fun ac w he hh => by
    have e1 := hh x (by simp [Op.operands])
    rw [hx] at e1
    obtain ⟨p, hv, hc⟩ := e1
    simp only [execOp, Sem.run_bind, hv, hr, Result.andThen_ok, Sem.run_pure]
    refine ⟨Ext.refl _, p.add o, rfl, fun j c hj => ?_⟩
    rw [List.getElem?_drop] at hj
    have := hc _ _ hj
    have ea : (p.add o).add j = p.add (o + j) := by
      unfold Addr.add
      by_cases h1 : o = 0
      · subst h1; simp
      · by_cases h2 : j = 0
        · subst h2; simp [h1]
        · rw [if_neg h1, if_neg h2, if_neg (by omega), Nat.add_assoc]
    rw [ea]; exact this) h
/-- The first cell behind an address. -/
theorem LA_loadH {cs : List Value} {c : Value} (hg : gdec l E g = some true) (ht : ∀ w, (isAgg t).run P w = .ok false w) (hx : opE E x = .pred (ptrC cs)) (hc : cs[0]? = some c) (h : LA P l wb K rest ((d, .val c) :: E)) :
    LA P l wb K (⟨some d, .load t x, ty, pos, after, g⟩ :: rest) E :=
  LA_of _ hg (OB_val fun a w he hh => by
    have h1 := hh x (by simp [Op.operands])
    rw [hx] at h1
    obtain ⟨p, hv, hcs⟩ := h1
    have hc := hcs 0 c hc
    have e0 : p.add 0 = p := Addr.add_zero' p
    rw [e0] at hc
    simp only [execOp, hv, Instr.loadAt, Instr.sureAddr, loadVar, Sem.run_bind, Sem.run_pure, Result.andThen_ok, ht, Bool.false_eq_true, if_false, run_load, hc]) h
/-- A comparison that is told by a Bool. -/
theorem LA_cmpV {op : BinOp} {a b : Int} {v : Bool} (hg : gdec l E g = some true) (hx : opE E x = .val (.int k a)) (hy : opE E y = .val (.int k b)) (hc : isCmp op = true) (hv : cmpP op a b ↔ v = true)
    (h : LA P l wb K rest ((d, .val (.bool v)) :: E)) : LA P l wb K (⟨some d, .binOp op t x y t', ty, pos, after, g⟩ :: rest) E := LA_of _ hg (OB_cmp hx hy hc hv) h
/-- A row of two. -/
theorem fill_two {c0 c1 : Value} {z : Array Value} (h0 : c0.cells = #[c0]) (h1 : c1.cells = #[c1]) : Instr.fill (fun i => some (i * 1, 1)) ((Array.range (2 * 1)).map (fun j => z[j % z.size]!)) [(0, c0), (1, c1)] = some #[c0, c1] := by
  have e : Array.range (2 * 1) = #[0, 1] := rfl
  rw [e]; simp [Instr.fill, h0, h1]
theorem LA_two {c0 c1 z0 : Value} {b : Nat} {e : TypeId} (hg : gdec l E g = some true) (hel : El P t e z0 1 b) (hx : opE E x = .val c0) (hy : opE E y = .val c1) (h0 : c0.cells = #[c0]) (h1 : c1.cells = #[c1]) (h : LA P l wb K rest ((d, .pred (ownC wb.heap.size e 1 2 [c0, c1])) :: E)) :
    LA P l wb K (⟨some d, .buildSlice t 2 #[(0, x), (1, y)], ty, pos, after, g⟩ :: rest) E := by
  refine LA_of (.pred (ownC wb.heap.size e 1 2 [c0, c1])) hg (fun a w he hh => ?_) h
  have e1 := hh x (by simp [Op.operands])
  have e2 := hh y (by simp [Op.operands])
  rw [hx] at e1; rw [hy] at e2; simp only [AD.ok] at e1 e2
  have hrun : (Instr.buildSlice t 2 #[(0, c0), (1, c1)]).run P w = .ok (.slice (some ⟨w.heap.size, 0, none⟩) 2 2) (w.alloc (.cells #[c0, c1] e)) := by
    simp only [Instr.buildSlice, Sem.run_bind, run_underlying hel.ht, Result.andThen_ok, hel.sizeOf, Nat.reduceMul, Nat.reducePow, gt_iff_lt, Nat.reduceLT, if_false, Sem.run_pure, Nat.reduceEqDiff, hel.zero, fill_two h0 h1]
    rfl
  simp only [execOp, List.map_toArray, List.map_cons, List.map_nil, e1, e2, Sem.run_bind, hrun, Result.andThen_ok, Sem.run_pure]
  exact ⟨Ext.alloc _ _, by simp, .inr ⟨w.heap.size, 2, #[c0, c1], rfl, he.size, heap_alloc_new w _, Nat.le_refl _, by decide, by simp, by simp⟩⟩
theorem LX_stop {rest' : List Oper} (h : LX P N wb l Q rest' E) : LX P N wb l Q rest' E := h
/-- A variable of the call's own, laid and filled. -/
theorem LX_var {e : TypeId} {z0 c : Value} (hg : g = none) (hg' : g' = none) (hd : d < N) (hz : ∀ w, (zeroValue e).run P w = .ok z0 w) (hy : ∀ v, opE ((d, .val v) :: E) y = .val c)
    (hs : ∀ w, (sizeOf t).run P w = .ok c.cells.size w) (hfit : c.cells.size = z0.cells.size) (h1 : ∀ u ∈ c.cells.toList, u.oneCell' = true)
    (h : ∀ b w', Ext wb w' → wb.heap.size ≤ b → w'.heap[b]? = some (.cells c.cells e (0, 0)) → LX P N w' l Q rest ((d, .val (.pointer (some ⟨b, 0, none⟩))) :: E)) :
    LX P N wb l Q (⟨some d, .alloc e, ty, pos, after, g⟩ :: ⟨none, .store t (.tmp d) y, ty', pos', after', g'⟩ :: rest) E := by
  unfold LX
  intro a w st
  have ra : (Instr.alloc e true (.tuple #[])).run P w = .ok (.pointer (some ⟨w.heap.size, 0, none⟩)) (w.alloc (.cells z0.cells e)) := by
    simp only [Instr.alloc, Sem.run_bind, hz, Result.andThen_ok]
    rfl
  refine wpList_plain hg fun Kc hK => ?_
  unfold Oper.wp
  simp only [execOp, Sem.run_bind, ra, Result.andThen_ok, Sem.run_pure, Oper.upon]
  refine hK _ _ ?_
  have st1 : St N wb ((d, .val (.pointer (some ⟨w.heap.size, 0, none⟩))) :: E) (a.put (some d) (.pointer (some ⟨w.heap.size, 0, none⟩))) (w.alloc (.cells z0.cells e)) :=
    st.push (Ext.alloc _ _) (dst := some d) (r := .val _) (fun d' hd' => by cases hd'; exact hd) (.inr rfl)
  have e1 := st1.opd (.tmp d)
  have e2 := st1.opd y; rw [hy] at e2; simp only [AD.ok] at e2
  have e1' : (a.put (some d) (.pointer (some ⟨w.heap.size, 0, none⟩))).eval (.tmp d) = .pointer (some ⟨w.heap.size, 0, none⟩) := by
    simp only [opE, lkE, beq_self_eq_true, cond_true, AD.ok] at e1; exact e1
  have hb : (w.alloc (.cells z0.cells e)).heap[w.heap.size]? = some (.cells z0.cells e (0, 0)) := heap_alloc_new w _
  have hrun : (Instr.storeAt t (.pointer (some ⟨w.heap.size, 0, none⟩)) c).run P (w.alloc (.cells z0.cells e)) = .ok () ((w.alloc (.cells z0.cells e)).setRow w.heap.size c.cells) := by
    have hst := run_storeCells_at P w.heap.size 0 e c.cells.toList 0 z0.cells _ hb (by simp [hfit]) h1
    have e3 : (z0.cells.toList.take (0 + 0) ++ c.cells.toList ++ z0.cells.toList.drop (0 + 0 + c.cells.toList.length)).toArray = c.cells := by
      rw [List.drop_eq_nil_of_le (by simp [hfit])]; simp
    rw [e3] at hst
    simp only [Instr.storeAt, Instr.sureAddr, storeVar, Sem.run_bind, Sem.run_pure, Result.andThen_ok, hs, ne_eq, not_true_eq_false, if_false, hst]
  refine wpList_plain hg' fun Kc hK => ?_
  unfold Oper.wp
  simp only [execOp, Sem.run_bind, e1', e2, hrun, Result.andThen_ok, Sem.run_pure, Oper.upon]
  refine hK _ _ ?_
  have x2 : Ext w ((w.alloc (.cells z0.cells e)).setRow w.heap.size c.cells) := (Ext.alloc _ _).setRow (Nat.le_refl _) _
  have h2 := h w.heap.size _ (st.ext.trans x2) st.ext.size (setRow_heap _ w.heap.size _ _ _ (0, 0) hb)
  unfold LX at h2
  refine h2 _ _ ?_
  have st2 := st.push (dst := some d) (r := .val (.pointer (some ⟨w.heap.size, 0, none⟩))) (v := .pointer (some ⟨w.heap.size, 0, none⟩)) x2 (fun d' hd' => by cases hd'; exact hd) (.inr rfl)
  exact st2.rebase
/-- A structure that lies in a block, put into a slot. -/
theorem LA_loadS {b : Nat} {cs : Array Value} {e : TypeId} (hg : gdec l E g = some true) (ht : ∀ w, (isAgg t).run P w = .ok true w) (hs : ∀ w, (sizeOf t).run P w = .ok cs.size w) (hx : opE E x = .val (.pointer (some ⟨b, 0, none⟩))) (hb : wb.heap[b]? = some (.cells cs e (0, 0)))
    (h : LA P l wb K rest ((d, .val (.agg cs)) :: E)) : LA P l wb K (⟨some d, .load t x, ty, pos, after, g⟩ :: rest) E := LA_loadBN hg ht hs hx hb h
end

/-! ### Rows of runs -/
def runV (f m : Int) : Value := .agg #[.int .u16 f, .int .u16 m]
theorem runV_cells (f m : Int) : (runV f m).cells = #[.int .u16 f, .int .u16 m] := rfl
def cellsR : List Rn → List Value
  | [] => []
  | x :: r => .int .u16 x.1 :: .int .u16 x.2 :: cellsR r
theorem cellsR_app : ∀ a b, cellsR (a ++ b) = cellsR a ++ cellsR b
  | [], b => rfl
  | x :: a, b => by simp only [List.cons_append, cellsR, cellsR_app a b]
theorem cellsR_len : ∀ a, (cellsR a).length = a.length * 2
  | [] => rfl
  | x :: a => by simp only [cellsR, List.length_cons, cellsR_len a]; omega
theorem cellsR_one : ∀ a, ∀ u ∈ cellsR a, u.oneCell' = true
  | [], u, h => by cases h
  | x :: a, u, h => by
    simp only [cellsR, List.mem_cons] at h
    rcases h with rfl | rfl | h
    · rfl
    · rfl
    · exact cellsR_one a u h
theorem cellsR_at : ∀ (a : List Rn) (j : Nat), j < a.length → ((cellsR a).drop (j * 2)).take 2 = [.int .u16 (fst a j), .int .u16 (mor a j)]
  | [], j, h => by simp at h
  | x :: a, 0, _ => rfl
  | x :: a, j + 1, h => by
    have ih := cellsR_at a j (by simpa using h)
    rw [show (j + 1) * 2 = j * 2 + 2 by omega]
    simp only [cellsR, List.drop_succ_cons]
    rw [ih]
    rfl
theorem cellsR_take : ∀ (a : List Rn) (j : Nat), cellsR (a.take j) = (cellsR a).take (j * 2)
  | [], j => by simp [cellsR]
  | x :: a, 0 => by simp [cellsR]
  | x :: a, j + 1 => by
    rw [show (j + 1) * 2 = j * 2 + 1 + 1 by omega]
    simp only [List.take_succ_cons, cellsR, cellsR_take a j]
def SlR (w : World) (v : Value) (rs : List Rn) : Prop := SlC w v rs.length 2 (cellsR rs)
theorem SlR.ext {w w' : World} {v : Value} {rs : List Rn} (h : SlR w v rs) (e : Ext w w') : SlR w' v rs := SlC.ext h e
theorem SlR.len {w : World} {v : Value} {rs : List Rn} (h : SlR w v rs) : rs.length ≤ 9223372036854775807 := SlC.len h
theorem SlR.isSlice {w : World} {v : Value} {rs : List Rn} (h : SlR w v rs) : ∃ a c, v = .slice a rs.length c := SlC.isSlice h
def OwnR (base e : Nat) (w : World) (v : Value) (rs : List Rn) : Prop := Own base e 2 w v rs.length (cellsR rs)
theorem OwnR.ext {base e : Nat} {w w' : World} {v : Value} {rs : List Rn} (h : OwnR base e w v rs) (x : Ext w w') : OwnR base e w' v rs := Own.ext h x
theorem OwnR.slR {base e : Nat} {w : World} {v : Value} {rs : List Rn} (h : OwnR base e w v rs) : SlR w v rs := Own.slC h
theorem OwnR.nil {base e : Nat} {w : World} : OwnR base e w (.slice none 0 0) [] := Own.nil
def ownR (base e : Nat) (rs : List Rn) : AV := ⟨fun v w => OwnR base e w v rs, fun _ _ _ x h => h.ext x⟩
theorem ret_baseR {w : World} {base base' e : Nat} {rs rs' : List Rn} (hb : base' ≤ base) (hr : rs = rs') (en : Ending) (w' : World) (h : Ret w (.pred (ownR base e rs)) en w') : Ret w (.pred (ownR base' e rs')) en w' := by
  obtain ⟨v, h1, h2, h3⟩ := h
  subst hr
  exact ⟨v, h1, h2, Own.base h3 hb⟩
def HasR (wb : World) (r : AD) (rs : List Rn) : Prop := HasC wb r rs.length 2 (cellsR rs)
theorem HasR.val {wb : World} {u : Value} {rs : List Rn} (h : SlR wb u rs) : HasR wb (.val u) rs := HasC.val h
theorem HasR.ownV {wb : World} {base e : Nat} {u : Value} {rs : List Rn} (h : OwnR base e wb u rs) : HasR wb (.val u) rs := HasC.val h.slR
theorem HasR.own {wb : World} {base e : Nat} {rs : List Rn} : HasR wb (.pred (ownR base e rs)) rs := fun _ _ _ hv => OwnR.slR hv
section
variable {P : Program} {l : List Oper} {N : Nat} {wb : World} {K : List Oper → Env → Prop} {rest : List Oper} {E : Env} {Q : Exit → Act → World → Prop}
variable {d : Tmp} {ty t t' : TypeId} {pos : String} {after : Array Edge} {g : Option (Nat × Bool)} {x y z : Operand} {k k' : IntKind}
theorem LA_lenR {rs : List Rn} (hg : gdec l E g = some true) (e : TypeId) (ht : P.underlying t = some (.slice e)) {r : AD} (hr : opE E x = r) (hx : HasR wb r rs)
    (h : LA P l wb K rest ((d, .val (.int .i64 (rs.length : Int))) :: E)) : LA P l wb K (⟨some d, .call ⟨.builtin .len, #[x], #[t]⟩, ty, pos, after, g⟩ :: rest) E := LA_len hg e ht hr hx h
theorem LA_indexR {rs : List Rn} {j : Nat} (hg : gdec l E g = some true) (e : TypeId) (ht : P.underlying t = some (.slice e)) (hs : ∀ w, (sizeOf e).run P w = .ok 2 w)
    {r : AD} (hr : opE E x = r) (hx : HasR wb r rs) (hi : opE E y = .val (.int k ((j : Nat) : Int))) (hn : j < rs.length)
    (h : LA P l wb K rest ((d, .pred (ptrC [.int .u16 (fst rs j), .int .u16 (mor rs j)])) :: E)) : LA P l wb K (⟨some d, .indexAddr t x y, ty, pos, after, g⟩ :: rest) E :=
  LA_indexC hg e ht hs hr hx hi j rfl hn (by rw [cellsR_at rs j hn]; exact h)
/-- append of one run onto a row of the call's own. -/
theorem LX_appendR {w0 : World} {e b r0 : Nat} {v z : Value} {f m : Int} {cs : List Rn} (hg : g = none) (hd : d < N) (hel : El P t e z 2 b) (hx : opE E x = .val v) (hown : OwnR w0.heap.size e wb v cs) (hy : opE E y = .pred (ownC r0 e 2 1 (runV f m).cells.toList))
    (h63 : cs.length + 1 ≤ 9223372036854775807) (hbytes : (cs.length + 1) * b ≤ 140737488355328) (hbase : Ext w0 wb)
    (h : ∀ v' w', Ext w0 w' → OwnR w0.heap.size e w' v' (cs ++ [(f, m)]) → LX P N w' l Q rest ((d, .val v') :: vals E)) :
    LX P N wb l Q (⟨some d, .call ⟨.builtin .append, #[x, y], #[t, t]⟩, ty, pos, after, g⟩ :: rest) E :=
  LX_append hg hd hel hx hown hy HasC.own (by simp [runV, Value.cells, Value.oneCell']) (by unfold maxLen; omega) hbytes hbase.size (fun v' w w' he ho hgr => by
    refine h v' w' ((hbase.trans he).grown hgr (fun k hk => (Own.lt hown k hk).1)) ?_
    unfold OwnR
    rw [cellsR_app, List.length_append]
    exact ho)
end
section
variable {P : Program} {l : List Oper} {N : Nat} {wb : World} {K : List Oper → Env → Prop} {rest : List Oper} {E : Env} {Q : Exit → Act → World → Prop}
variable {d : Tmp} {ty t t' : TypeId} {pos : String} {after : Array Edge} {g : Option (Nat × Bool)} {x y z : Operand} {k k' : IntKind}
/-- An element of an array that is a value. -/
theorem LA_indexA {n s : Nat} {cs : Array Value} {e : TypeId} {i : Int} {c : Value} (j : Nat) (hg : gdec l E g = some true) (ht : P.underlying t = some (.array n e)) (hs : ∀ w, (sizeOf e).run P w = .ok s w) (hx : opE E x = .val (.agg cs)) (hy : opE E y = .val (.int k i)) (hj : i = j) (hn : j < n)
    (hp : ∀ w, (part e cs (j * s)).run P w = .ok c w) (h : LA P l wb K rest ((d, .val c) :: E)) : LA P l wb K (⟨some d, .index t x y, ty, pos, after, g⟩ :: rest) E :=
  LA_of _ hg (OB_val fun a w he hh => by
    have e1 := hh x (by simp [Op.operands]); have e2 := hh y (by simp [Op.operands])
    rw [hx] at e1; rw [hy] at e2; simp only [AD.ok] at e1 e2
    subst hj
    have hrun : (Instr.index t (.agg cs) (.int k (j : Int))).run P w = .ok c w := by
      simp [Instr.index, run_underlying ht, asIntOf, hs, hn, hp]
    simp only [execOp, e1, e2, Sem.run_bind, hrun, Result.andThen_ok, Sem.run_pure]) h
/-- A row of two runs. -/
theorem LA_twoR {f m f' m' : Int} {z0 : Value} {b : Nat} {e : TypeId} (hg : gdec l E g = some true) (hel : El P t e z0 2 b) (hx : opE E x = .val (runV f m)) (hy : opE E y = .val (runV f' m')) (h : LA P l wb K rest ((d, .pred (ownC wb.heap.size e 2 2 (cellsR [(f, m), (f', m')]))) :: E)) :
    LA P l wb K (⟨some d, .buildSlice t 2 #[(0, x), (1, y)], ty, pos, after, g⟩ :: rest) E := by
  refine LA_of (.pred (ownC wb.heap.size e 2 2 (cellsR [(f, m), (f', m')]))) hg (fun a w he hh => ?_) h
  have e1 := hh x (by simp [Op.operands])
  have e2 := hh y (by simp [Op.operands])
  rw [hx] at e1; rw [hy] at e2; simp only [AD.ok] at e1 e2
  have hf : Instr.fill (fun i => some (i * 2, 2)) ((Array.range (2 * 2)).map (fun j => z0.cells[j % z0.cells.size]!)) [(0, runV f m), (1, runV f' m')] = some #[.int .u16 f, .int .u16 m, .int .u16 f', .int .u16 m'] := by
    have er : Array.range (2 * 2) = #[0, 1, 2, 3] := rfl
    rw [er]; simp [Instr.fill, runV, Value.cells]
  have hrun : (Instr.buildSlice t 2 #[(0, runV f m), (1, runV f' m')]).run P w = .ok (.slice (some ⟨w.heap.size, 0, none⟩) 2 2) (w.alloc (.cells #[.int .u16 f, .int .u16 m, .int .u16 f', .int .u16 m'] e)) := by
    simp only [Instr.buildSlice, Sem.run_bind, run_underlying hel.ht, Result.andThen_ok, hel.sizeOf, Nat.reduceMul, Nat.reducePow, gt_iff_lt, Nat.reduceLT, if_false, Sem.run_pure, Nat.reduceEqDiff, hel.zero]
    simp only [Nat.reduceMul] at hf
    rw [hf]
    rfl
  simp only [execOp, List.map_toArray, List.map_cons, List.map_nil, e1, e2, Sem.run_bind, hrun, Result.andThen_ok, Sem.run_pure]
  exact ⟨Ext.alloc _ _, by simp [cellsR], .inr ⟨w.heap.size, 2, #[.int .u16 f, .int .u16 m, .int .u16 f', .int .u16 m'], rfl, he.size, heap_alloc_new w _, Nat.le_refl _, by decide, by simp, by simp [cellsR]⟩⟩
end
theorem OwnR.row {base e : Nat} {w : World} {v : Value} {rs : List Rn} (h : OwnR base e w v rs) (hp : 0 < rs.length) :
    ∃ b cap cur, v = .slice (some ⟨b, 0, none⟩) rs.length cap ∧ base ≤ b ∧ w.heap[b]? = some (.cells cur e (0, 0)) ∧ rs.length ≤ cap ∧ cap ≤ maxLen ∧ cur.size = cap * 2 ∧ cur.toList.take (rs.length * 2) = cellsR rs := by
  rcases h.2 with ⟨_, h0⟩ | ⟨gb, cap, cur, h1, hb, hg, hnc, hm, hsz, htake⟩
  · omega
  · exact ⟨gb, cap, cur, h1, hb, hg, hnc, hm, hsz, htake⟩
end Go.LA
