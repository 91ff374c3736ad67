/- Function values with what they hold; structures that came in by value; a row that is cleared from some place on. -/
import Derived.Test.YtjiacignpmabcaaDoorOpR
import Derived.Test.YtjiacignpmabcaaDoorWk
set_option linter.unusedSimpArgs false
set_option linter.unusedVariables false
namespace Go.LA
open Go.RowKit
/-- Calling a value. -/
def Clb (P : Program) (fv : Value) (args : List Value) (w : World) (R : Ending → World → Prop) : Prop :=
  ∃ f first captured, fv = .func (.func f) first captured ∧ Fc P f (first ++ args.toArray ++ captured) w R
theorem Clb.of {P : Program} {f : FuncId} {args : List Value} {w : World} {R : Ending → World → Prop} (h : Fc P f args.toArray w R) : Clb P (.func (.func f) #[] #[]) args w R :=
  ⟨f, #[], #[], rfl, by simpa using h⟩
theorem Clb.of1 {P : Program} {f : FuncId} {x c : Value} {w : World} {R : Ending → World → Prop} (h : Fc P f #[x, c] w R) : Clb P (.func (.func f) #[] #[c]) [x] w R :=
  ⟨f, #[], #[c], rfl, h⟩
theorem Clb.bound1 {P : Program} {f : FuncId} {x c : Value} {w : World} {R : Ending → World → Prop} (h : Fc P f #[c, x] w R) : Clb P (.func (.func f) #[c] #[]) [x] w R :=
  ⟨f, #[c], #[], rfl, h⟩
section
variable {P : Program} {l : List Oper} {N : Nat} {wb : World} {K : List Oper → Env → Prop} {rest : List Oper} {E : Env} {Q : Exit → Act → World → Prop}
variable {d : Tmp} {ty t t' : TypeId} {pos : String} {after : Array Edge} {g : Option (Nat × Bool)} {x y z : Operand} {k k' : IntKind}
theorem run_call_opV {f : FuncId} {first cap : Array Value} {args : Array Operand} {ats : Array TypeId} {w : World} {ρ : Operand → Value} {fv : Operand} (hfv : ρ fv = .func (.func f) first cap) (hf : (callFunc f (first ++ args.map ρ ++ cap)).run P w = .ok (.enter f (first ++ args.map ρ ++ cap)) w) :
    (execOp ρ ⟨some d, .call ⟨.value fv, args, ats⟩, ty, pos, after, g⟩).run P w = .ok (.enter f (first ++ args.map ρ ++ cap)) w := by
  simp only [execOp, resolve, Deferred.ofValue, hfv, Sem.run_bind, Sem.run_pure, Result.andThen_ok, invoke]
  simpa using hf
theorem LA_callV1 {ats : Array TypeId} {fv : Operand} {rf r1 : AD} (hg : gdec l E g = some true) (hfv : opE E fv = rf) (hu1 : opE E x = r1) (r : AD)
    (hc : ∀ vf u1 w, Ext wb w → rf.ok vf w → r1.ok u1 w → Clb P vf [u1] w (Ret w r))
    (h : LA P l wb K rest ((d, r) :: E)) : LA P l wb K (⟨some d, .call ⟨.value fv, #[x], ats⟩, ty, pos, after, g⟩ :: rest) E :=
  LA_of r hg (fun a w he hh => by
    have h1 := hh fv (by simp [Op.operands, Call.operands])
    rw [hfv] at h1
    have eu1 := hh x (by simp [Op.operands, Call.operands])
    rw [hu1] at eu1
    obtain ⟨f, first, cap, hf, hcall⟩ := hc _ _ w he h1 eu1
    rw [run_call_opV hf (hcall.run _ _)]
    refine ⟨rfl, ?_⟩; simp only [List.map_toArray, List.map_cons, List.map_nil]; exact hcall.calls) h
theorem LA_callV2 {ats : Array TypeId} {fv : Operand} {rf r1 r2 : AD} (hg : gdec l E g = some true) (hfv : opE E fv = rf) (hu1 : opE E x = r1) (hu2 : opE E y = r2) (r : AD)
    (hc : ∀ vf u1 u2 w, Ext wb w → rf.ok vf w → r1.ok u1 w → r2.ok u2 w → Clb P vf [u1, u2] w (Ret w r))
    (h : LA P l wb K rest ((d, r) :: E)) : LA P l wb K (⟨some d, .call ⟨.value fv, #[x, y], ats⟩, ty, pos, after, g⟩ :: rest) E :=
  LA_of r hg (fun a w he hh => by
    have h1 := hh fv (by simp [Op.operands, Call.operands])
    rw [hfv] at h1
    have eu1 := hh x (by simp [Op.operands, Call.operands])
    rw [hu1] at eu1
    have eu2 := hh y (by simp [Op.operands, Call.operands])
    rw [hu2] at eu2
    obtain ⟨f, first, cap, hf, hcall⟩ := hc _ _ _ w he h1 eu1 eu2
    rw [run_call_opV hf (hcall.run _ _)]
    refine ⟨rfl, ?_⟩; simp only [List.map_toArray, List.map_cons, List.map_nil]; exact hcall.calls) h
/-- A function value with one value that it holds. -/
def holds (f : FuncId) (r : AD) : AV := ⟨fun v w => ∃ c, v = .func (.func f) #[] #[c] ∧ r.ok c w, fun _ _ _ e ⟨c, h1, h2⟩ => ⟨c, h1, r.mono e h2⟩⟩
theorem LA_holds {f : FuncId} {r : AD} (hg : gdec l E g = some true) (hx : opE E x = r) (h : LA P l wb K rest ((d, .pred (holds f r)) :: E)) : LA P l wb K (⟨some d, .makeFunc (.func f) #[] #[x], ty, pos, after, g⟩ :: rest) E :=
  LA_of _ hg (fun a w he hh => by
    have h1 := hh x (by simp [Op.operands])
    rw [hx] at h1
    simp only [execOp, Instr.makeFunc, List.map_toArray, List.map_cons, List.map_nil, Sem.run_bind, Sem.run_pure, Result.andThen_ok]
    exact ⟨Ext.refl _, _, rfl, h1⟩) h
/-- A method value: the function with its first argument. -/
theorem LA_bound {f : FuncId} {c : Value} (hg : gdec l E g = some true) (hx : opE E x = .val c) (h : LA P l wb K rest ((d, .val (.func (.func f) #[c] #[])) :: E)) : LA P l wb K (⟨some d, .makeFunc (.func f) #[x] #[], ty, pos, after, g⟩ :: rest) E :=
  LA_of _ hg (OB_val fun a w he hh => by
    have h1 := hh x (by simp [Op.operands])
    rw [hx] at h1; simp only [AD.ok] at h1
    simp only [execOp, Instr.makeFunc, List.map_toArray, List.map_cons, List.map_nil, Sem.run_bind, Sem.run_pure, Result.andThen_ok, h1]) h
/-- A value that came in, laid into a block: its cells are known. -/
theorem LA_boxC {e : TypeId} {c : Value} (hg : gdec l E g = some true) (hx : opE E x = .val c) (h : LA P l wb K rest ((d, .pred (ptrC c.cells.toList)) :: E)) :
    LA P l wb K (⟨some d, .box e x, ty, pos, after, g⟩ :: rest) E :=
  LA_of _ hg (fun a w he hh => by
    have h0 := hh x (by simp [Op.operands])
    rw [hx] at h0; simp only [AD.ok] at h0
    have hrun : (Instr.box e c).run P w = .ok (.pointer (some ⟨w.heap.size, 0, none⟩)) (w.alloc (.cells c.cells e)) := rfl
    simp only [execOp, h0, Sem.run_bind, hrun, Result.andThen_ok, Sem.run_pure]
    refine ⟨Ext.alloc _ _, _, rfl, fun j u hu => ?_⟩
    rw [Addr.add_lit, cell_of_row _ w.heap.size _ c.cells e (0, 0) (heap_alloc_new w _)]
    simpa using hu) h
/-- A structure of four parts. -/
theorem LA_box4 {e : TypeId} {c0 c1 c2 c3 : Value} (hg : gdec l E g = some true) (hx : opE E x = .val (.agg #[c0, c1, c2, c3])) (h : LA P l wb K rest ((d, .pred (ptrC [c0, c1, c2, c3])) :: E)) :
    LA P l wb K (⟨some d, .box e x, ty, pos, after, g⟩ :: rest) E := LA_boxC hg hx h
theorem LA_box3 {e : TypeId} {c0 c1 c2 : Value} (hg : gdec l E g = some true) (hx : opE E x = .val (.agg #[c0, c1, c2])) (h : LA P l wb K rest ((d, .pred (ptrC [c0, c1, c2])) :: E)) :
    LA P l wb K (⟨some d, .box e x, ty, pos, after, g⟩ :: rest) E := LA_boxC hg hx h
theorem LA_load4 {c0 c1 c2 c3 : Value} (hg : gdec l E g = some true) (ht : ∀ w, (isAgg t).run P w = .ok true w) (hs : ∀ w, (sizeOf t).run P w = .ok 4 w) (hx : opE E x = .pred (ptrC [c0, c1, c2, c3])) (h : LA P l wb K rest ((d, .val (.agg #[c0, c1, c2, c3])) :: E)) :
    LA P l wb K (⟨some d, .load t x, ty, pos, after, g⟩ :: rest) E := LA_loadC (cs := [c0, c1, c2, c3]) hg ht hs hx h
theorem LA_field4 {c0 c1 c2 c3 : Value} (f : Nat) (hg : gdec l E g = some true) (hx : opE E x = .pred (ptrC [c0, c1, c2, c3])) (hr : ∀ (a : Addr) w, (Instr.fieldAt t (.pointer (some a)) f).run P w = .ok (.pointer (some (a.add f))) w)
    (h : LA P l wb K rest ((d, .pred (ptrC [([c0, c1, c2, c3] : List Value).getD f undef])) :: E)) (hf : f < 4) : LA P l wb K (⟨some d, .fieldAddr t x f, ty, pos, after, g⟩ :: rest) E :=
  LA_of _ hg (fun ac w he hh => by
    have e1 := hh x (by simp [Op.operands])
    rw [hx] at e1
    obtain ⟨p, hv, hc⟩ := e1
    simp only [execOp, Sem.run_bind, hv, hr, Result.andThen_ok, Sem.run_pure]
    refine ⟨Ext.refl _, _, rfl, fun j c hj => ?_⟩
    have h0 : j = 0 := by
      rcases j with _ | j
      · rfl
      · simp at hj
    subst h0
    have e0 : (p.add f).add 0 = p.add f := Addr.add_zero' _
    rw [e0]
    refine hc f c ?_
    simp only [List.getElem?_cons_zero, Option.some.injEq] at hj
    rw [← hj, List.getD_eq_getElem?_getD, List.getElem?_eq_getElem (by simpa using hf)]
    rfl) h
theorem oBx {e : TypeId} (h : LA P l wb K (⟨some d, .box e x, ty, pos, after, g⟩ :: rest) E) : LA P l wb K (⟨some d, .box e x, ty, pos, after, g⟩ :: rest) E := h
theorem oFa {f : Nat} (h : LA P l wb K (⟨some d, .fieldAddr t x f, ty, pos, after, g⟩ :: rest) E) : LA P l wb K (⟨some d, .fieldAddr t x f, ty, pos, after, g⟩ :: rest) E := h
theorem oLd (h : LA P l wb K (⟨some d, .load t x, ty, pos, after, g⟩ :: rest) E) : LA P l wb K (⟨some d, .load t x, ty, pos, after, g⟩ :: rest) E := h
/-- What a method does with its receiver: it is laid into a block, and its parts are read there. -/
theorem wRcv {G' G : Prop} (g : G') (h : G' → G := by
  intro h
  first
  | (refine oBx ?_; first | exact LA_box4 rfl rfl h | exact LA_box3 rfl rfl h)
  | (refine oFa ?_; first | exact LA_field4 0 rfl rfl (fun _ _ => rfl) h (by decide) | exact LA_field4 1 rfl rfl (fun _ _ => rfl) h (by decide) | exact LA_field4 2 rfl rfl (fun _ _ => rfl) h (by decide) | exact LA_field4 3 rfl rfl (fun _ _ => rfl) h (by decide))
  | (refine oLd ?_; exact LA_load4 rfl (fun _ => rfl) (fun _ => rfl) rfl h)) : G := h g
/-- A structure of which one field is known by a predicate. -/
def mapA (c : Value → Value) (φ : AV) : AV := ⟨fun v w => ∃ u, v = c u ∧ φ.p u w, fun _ _ _ e ⟨u, h1, h2⟩ => ⟨u, h1, φ.mono _ _ _ e h2⟩⟩
theorem LA_build2P {x0 x1 : Operand} {v0 : Value} {φ : AV} {j0 j1 : Nat} {c : Value → Value} (hg : gdec l E g = some true) (h0 : opE E x0 = .val v0) (h1 : opE E x1 = .pred φ) (hr : ∀ v1 w, φ.p v1 w → (Instr.build t #[(j0, v0), (j1, v1)]).run P w = .ok (c v1) w)
    (h : LA P l wb K rest ((d, .pred (mapA c φ)) :: E)) : LA P l wb K (⟨some d, .build t #[(j0, x0), (j1, x1)], ty, pos, after, g⟩ :: rest) E :=
  LA_of _ hg (fun a w he hh => by
    have e0 := hh x0 (by simp [Op.operands]); have e1 := hh x1 (by simp [Op.operands])
    rw [h0] at e0; rw [h1] at e1; simp only [AD.ok] at e0 e1
    simp only [execOp, List.map_toArray, List.map_cons, List.map_nil, e0, Sem.run_bind, hr _ _ e1, Result.andThen_ok, Sem.run_pure]
    exact ⟨Ext.refl _, _, rfl, e1⟩) h
end
/-! ### A result that lies in a variable of its own -/
def cellA (n : Nat) (e : TypeId) (φ : AV) : AV := ⟨fun v w => ∃ b cs, v = .pointer (some ⟨b, 0, none⟩) ∧ w.heap[b]? = some (.cells cs e (0, 0)) ∧ cs.size = n ∧ φ.p (.agg cs) w,
  fun _ _ _ x ⟨b, cs, h1, h2, h3, h4⟩ => ⟨b, cs, h1, x.block h2, h3, φ.mono _ _ _ x h4⟩⟩
/-- What may be laid into a block of the type e, and stays as it is when one is written. -/
structure Lays (φ : AV) (n : Nat) (e : TypeId) : Prop where
  shape : ∀ v w, φ.p v w → ∃ cs, v = .agg cs ∧ cs.size = n ∧ ∀ u ∈ cs.toList, u.oneCell' = true
  stays : ∀ v w b cur j cs, φ.p v w → w.heap[b]? = some (.cells cur e j) → φ.p v (w.setRow b cs)
section
variable {P : Program} {l : List Oper} {N : Nat} {wb : World} {K : List Oper → Env → Prop} {rest : List Oper} {E : Env} {Q : Exit → Act → World → Prop}
variable {d : Tmp} {ty t t' : TypeId} {pos : String} {after : Array Edge} {g : Option (Nat × Bool)} {x y z : Operand} {k k' : IntKind}
theorem LX_put {φ : AV} {r : AD} {q : Tmp} {w0 : World} {cs0 : Array Value} {e : TypeId} {n : Nat} (hg : g = none) (hx : opE E (.tmp q) = .pred (ptrB w0.heap.size cs0 e)) (hy : opE E y = r) (hl : Lays φ n e) (hr : ∀ v w, Ext wb w → r.ok v w → φ.p v w) (hn : cs0.size = n)
    (hs : ∀ w, (sizeOf t).run P w = .ok n w) (he : Ext w0 wb) (h : ∀ w', Ext w0 w' → LX P N w' l Q rest ((q, .pred (cellA n e φ)) :: vals E)) : LX P N wb l Q (⟨none, .store t (.tmp q) y, ty, pos, after, g⟩ :: rest) E := by
  unfold LX
  intro a w st
  have e1 := st.opd (.tmp q); rw [hx] at e1
  have e2 := st.opd y; rw [hy] at e2
  obtain ⟨b, hb0, hv, hb⟩ := e1
  have hp := hr _ _ st.ext e2
  obtain ⟨cs, hc, hcn, h1⟩ := hl.shape _ _ hp
  rw [hc] at hp
  have hfit : cs.size = cs0.size := by rw [hcn, hn]
  have hrun : (Instr.storeAt t (.pointer (some ⟨b, 0, none⟩)) (.agg cs)).run P w = .ok () (w.setRow b cs) := by
    have hst := run_storeCells_at P b 0 e cs.toList 0 cs0 w hb (by simp [hfit]) h1
    have e3 : (cs0.toList.take (0 + 0) ++ cs.toList ++ cs0.toList.drop (0 + 0 + cs.toList.length)).toArray = cs := by
      rw [List.drop_eq_nil_of_le (by simp [hfit])]; simp
    rw [e3] at hst
    have hs' : ∀ w, (sizeOf t).run P w = .ok cs.size w := fun w => by rw [hcn]; exact hs w
    simp only [Instr.storeAt, Instr.sureAddr, storeVar, Sem.run_bind, Sem.run_pure, Result.andThen_ok, Value.cells, hs', ne_eq, not_true_eq_false, if_false, hst]
  refine wpList_plain hg fun Kc hK => ?_
  unfold Oper.wp
  simp only [execOp, Sem.run_bind, hv, hc, hrun, Result.andThen_ok, Sem.run_pure, Oper.upon]
  refine hK _ _ ?_
  have x2 : Ext w0 (w.setRow b cs) := (he.trans st.ext).setRow hb0 _
  have h2 := h _ x2
  unfold LX at h2
  refine h2 _ _ ?_
  have sv := st.vals (w' := w.setRow b cs)
  refine ⟨sv.sz, sv.df, Ext.refl _, fun u => ?_⟩
  rw [look_push]
  split
  · rename_i hu
    subst hu
    exact ⟨b, cs, hv, setRow_heap w b _ _ _ (0, 0) hb, hcn, hl.stays _ _ b _ _ cs hp hb⟩
  · exact sv.sat u
/-- A row is cleared from some place on. -/
theorem LX_clear {b o m c : Nat} {cur : Array Value} {e e' : TypeId} {z : Value} (hg : g = none) (ht : P.underlying t = some (.slice e')) (hz : ∀ w, (zeroValue e').run P w = .ok z w) (hz1 : z.cells = #[z]) (hz2 : z.oneCell' = true) (hx : opE E x = .val (.slice (some ⟨b, o, none⟩) m c))
    (hb : wb.heap[b]? = some (.cells cur e (0, 0))) (hle : o + m ≤ cur.size) (h : ∀ w cur', Ext wb w → cur'.size = cur.size → cur'.toList.take o = cur.toList.take o → LX P N (w.setRow b cur') l Q rest (vals E)) :
    LX P N wb l Q (⟨none, .call ⟨.builtin .clear, #[x], #[t]⟩, ty, pos, after, g⟩ :: rest) E := by
  unfold LX
  intro a w st
  have e1 := st.opd x; rw [hx] at e1; simp only [AD.ok] at e1
  have hbw := st.ext.block hb
  refine wpList_plain hg fun Kc hK => ?_
  unfold Oper.wp
  by_cases hm : m = 0
  · subst hm
    have hrun : (Builtin.clear_ #[t] ty #[.slice (some ⟨b, o, none⟩) 0 c]).run P w = .ok (.tuple #[]) w := by
      simp [Builtin.clear_, run_underlying ht]
    simp only [execOp, resolve, invoke, builtin, Sem.run_bind, Sem.run_pure, Result.andThen_ok, List.map_toArray, List.map_cons, List.map_nil, e1, hrun, Oper.upon]
    refine hK _ _ ?_
    have h2 := h w cur st.ext rfl rfl
    rw [setRow_self w b cur e (0, 0) hbw] at h2
    unfold LX at h2
    exact h2 _ _ (st.vals (w' := w))
  · have hzl : ∀ u ∈ (Builtin.zeroCells z.cells m).toList, u.oneCell' = true := fun u hu => by
      rw [hz1] at hu
      simp only [Builtin.zeroCells, Array.toList_map, List.mem_map] at hu
      obtain ⟨i, _, rfl⟩ := hu
      simp [Nat.mod_one, hz2]
    have hzn : (Builtin.zeroCells z.cells m).toList.length = m := by rw [hz1]; simp [Builtin.zeroCells]
    have hst := run_storeCells_at P b o e (Builtin.zeroCells z.cells m).toList 0 cur w hbw (by rw [hzn]; omega) hzl
    have hrun : (Builtin.clear_ #[t] ty #[.slice (some ⟨b, o, none⟩) m c]).run P w = .ok (.tuple #[]) (w.setRow b (cur.toList.take (o + 0) ++ (Builtin.zeroCells z.cells m).toList ++ cur.toList.drop (o + 0 + (Builtin.zeroCells z.cells m).toList.length)).toArray) := by
      obtain ⟨m', rfl⟩ : ∃ m', m = m' + 1 := ⟨m - 1, by omega⟩
      simp [Builtin.clear_, run_underlying ht, hz, hst]
    simp only [execOp, resolve, invoke, builtin, Sem.run_bind, Sem.run_pure, Result.andThen_ok, List.map_toArray, List.map_cons, List.map_nil, e1, hrun, Oper.upon]
    refine hK _ _ ?_
    have hlen : o ≤ cur.toList.length := by simp; omega
    have h2 := h w (cur.toList.take (o + 0) ++ (Builtin.zeroCells z.cells m).toList ++ cur.toList.drop (o + 0 + (Builtin.zeroCells z.cells m).toList.length)).toArray st.ext
      (by rw [hzn]; simp only [List.size_toArray, List.length_append, List.length_take, List.length_drop, hzn, Array.length_toList]; simp at hlen; omega)
      (by simp only [Nat.add_zero, List.append_assoc]; rw [List.take_append_of_le_length (by simp; simp at hlen; omega), List.take_take, Nat.min_self])
    unfold LX at h2
    exact h2 _ _ (st.vals (w' := _))
/-- A result of the call's own, at a place that is known. -/
theorem LX_putV {φ : AV} {r : AD} {q : Tmp} {w0 : World} {cs0 : Array Value} {b e : Nat} {n : Nat} (hg : g = none) (hx : opE E (.tmp q) = .val (.pointer (some ⟨b, 0, none⟩))) (hb0 : w0.heap.size ≤ b) (hb : wb.heap[b]? = some (.cells cs0 e (0, 0))) (hy : opE E y = r) (hl : Lays φ n e) (hr : ∀ v w, Ext wb w → r.ok v w → φ.p v w) (hn : cs0.size = n)
    (hs : ∀ w, (sizeOf t).run P w = .ok n w) (he : Ext w0 wb) (h : ∀ w', Ext w0 w' → LX P N w' l Q rest ((q, .pred (cellA n e φ)) :: vals E)) : LX P N wb l Q (⟨none, .store t (.tmp q) y, ty, pos, after, g⟩ :: rest) E := by
  unfold LX
  intro a w st
  have e1 := st.opd (.tmp q); rw [hx] at e1; simp only [AD.ok] at e1
  have e2 := st.opd y; rw [hy] at e2
  have hp := hr _ _ st.ext e2
  have hbw := st.ext.block hb
  obtain ⟨cs, hc, hcn, h1⟩ := hl.shape _ _ hp
  rw [hc] at hp
  have hfit : cs.size = cs0.size := by rw [hcn, hn]
  have hrun : (Instr.storeAt t (.pointer (some ⟨b, 0, none⟩)) (.agg cs)).run P w = .ok () (w.setRow b cs) := by
    have hst := run_storeCells_at P b 0 e cs.toList 0 cs0 w hbw (by simp [hfit]) h1
    have e3 : (cs0.toList.take (0 + 0) ++ cs.toList ++ cs0.toList.drop (0 + 0 + cs.toList.length)).toArray = cs := by
      rw [List.drop_eq_nil_of_le (by simp [hfit])]; simp
    rw [e3] at hst
    have hs' : ∀ w, (sizeOf t).run P w = .ok cs.size w := fun w => by rw [hcn]; exact hs w
    simp only [Instr.storeAt, Instr.sureAddr, storeVar, Sem.run_bind, Sem.run_pure, Result.andThen_ok, Value.cells, hs', ne_eq, not_true_eq_false, if_false, hst]
  refine wpList_plain hg fun Kc hK => ?_
  unfold Oper.wp
  simp only [execOp, Sem.run_bind, e1, hc, hrun, Result.andThen_ok, Sem.run_pure, Oper.upon]
  refine hK _ _ ?_
  have h2 := h (w.setRow b cs) ((he.trans st.ext).setRow hb0 _)
  unfold LX at h2
  refine h2 _ _ ?_
  have sv := st.vals (w' := w.setRow b cs)
  refine ⟨sv.sz, sv.df, Ext.refl _, fun u => ?_⟩
  rw [look_push]
  split
  · rename_i hu
    subst hu
    exact ⟨b, cs, e1, setRow_heap w b _ _ _ (0, 0) hbw, hcn, hl.stays _ _ b _ _ cs hp hbw⟩
  · exact sv.sat u
theorem PX_retC {fn : Func} {w0 : World} {φ : AV} {p n : Nat} {e : TypeId} {dsc : TypeDesc} (hr : fn.results = #[.cell p t]) (hl : lkE E p = .pred (cellA n e φ))
    (hu : P.underlying t = some dsc) (hd : (match dsc with | .struct _ | .array _ _ => true | _ => false) = true) (hi : (P.info? t).map (·.size) = some n) (he : Ext w0 wb) :
    PX N wb (bodyPost P fn (Ret w0 (.pred φ))) .ret E := by
  unfold PX
  intro a w st
  have h1 := st.sat p
  rw [hl] at h1
  obtain ⟨b, cs, hv, hb, hn, hp⟩ := h1
  exact ⟨st.df, _, results_cell_row hr _ _ b e cs (0, 0) dsc hv hb hu hd (by rw [hn]; exact hi), _, rfl, he.trans st.ext, hp⟩
theorem PX_retC2 {fn : Func} {w0 : World} {φ : AV} {r : AD} {p u n : Nat} {e : TypeId} {dsc : TypeDesc} (hr : fn.results = #[.cell p t, .tmp u]) (hl : lkE E p = .pred (cellA n e φ)) (hl' : lkE E u = r)
    (hu : P.underlying t = some dsc) (hd : (match dsc with | .struct _ | .array _ _ => true | _ => false) = true) (hi : (P.info? t).map (·.size) = some n) (he : Ext w0 wb) :
    PX N wb (bodyPost P fn (Ret w0 (.tup2 (.pred φ) r))) .ret E := by
  unfold PX
  intro a w st
  have h1 := st.sat p
  have h2 := st.sat u
  rw [hl] at h1; rw [hl'] at h2
  obtain ⟨b, cs, hv, hb, hn, hp⟩ := h1
  have hrun : (results fn a.tmps).run P w = .ok (.tuple #[.agg cs, a.tmps.getD u undef]) w := by
    rw [results_cell_tmp hr, hv]
    simp only [asAddr, Sem.run_pure, Result.andThen_ok, run_loadVar_row w b e t cs (0, 0) dsc hb hu hd (by rw [hn]; exact hi)]
  exact ⟨st.df, _, hrun, _, rfl, he.trans st.ext, _, _, rfl, hp, h2⟩
theorem PX_retC3 {fn : Func} {w0 : World} {φ : AV} {r r' : AD} {p u u' n : Nat} {e : TypeId} {dsc : TypeDesc} (hr : fn.results = #[.cell p t, .tmp u, .tmp u']) (hl : lkE E p = .pred (cellA n e φ)) (hl' : lkE E u = r) (hl'' : lkE E u' = r')
    (hu : P.underlying t = some dsc) (hd : (match dsc with | .struct _ | .array _ _ => true | _ => false) = true) (hi : (P.info? t).map (·.size) = some n) (he : Ext w0 wb) :
    PX N wb (bodyPost P fn (Ret w0 (.tup3 (.pred φ) r r'))) .ret E := by
  unfold PX
  intro a w st
  have h1 := st.sat p
  have h2 := st.sat u
  have h3 := st.sat u'
  rw [hl] at h1; rw [hl'] at h2; rw [hl''] at h3
  obtain ⟨b, cs, hv, hb, hn, hp⟩ := h1
  have hv' : a.tmps[p]?.getD undef = .pointer (some ⟨b, 0, none⟩) := by simpa using hv
  have hrun : (results fn a.tmps).run P w = .ok (.tuple #[.agg cs, a.tmps.getD u undef, a.tmps.getD u' undef]) w := by
    simp [results, hr, hv', asAddr, run_loadVar_row w b e t cs (0, 0) dsc hb hu hd (by rw [hn]; exact hi)]
  exact ⟨st.df, _, hrun, _, rfl, he.trans st.ext, _, _, _, rfl, hp, h2, h3⟩
end
/-- Rows of one type do not lie in a block of another one. -/
theorem Own.apart {base e e' s n b : Nat} {w : World} {v : Value} {cs : List Value} {cur : Array Value} {j : Nat × Nat} (h : Own base e s w v n cs) (hb : w.heap[b]? = some (.cells cur e' j)) (hne : e ≠ e') : v.ownBlock ≠ some b := by
  rcases h.2 with ⟨h0, _⟩ | ⟨gb, cap, cur', rfl, _, hg, _⟩
  · rw [h0]; intro h; cases h
  · intro hq
    have : gb = b := by simpa [Value.ownBlock] using hq
    subst this
    rw [hg] at hb
    simp only [Option.some.injEq, Obj.cells.injEq] at hb
    exact hne hb.2.1
end Go.LA
