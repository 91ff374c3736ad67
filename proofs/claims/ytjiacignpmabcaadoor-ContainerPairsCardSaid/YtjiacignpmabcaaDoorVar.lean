/- Variables of the call's own that hold a structure. -/
import Derived.Test.YtjiacignpmabcaaDoorCls
set_option linter.unusedVariables false
namespace Go.LA
open Go.RowKit
section
variable {P : Program} {l : List Oper} {N : Nat} {wb : World} {K : List Oper → Env → Prop} {rest : List Oper} {E : Env} {Q : Exit → Act → World → Prop}
variable {d : Tmp} {ty ty' t t' : TypeId} {pos pos' : String} {after after' : Array Edge} {g g' : Option (Nat × Bool)} {x y z : Operand} {k k' : IntKind}
theorem oAl {e : TypeId} (h : LA P l wb K (⟨some d, .alloc e, ty, pos, after, g⟩ :: rest) E) : LA P l wb K (⟨some d, .alloc e, ty, pos, after, g⟩ :: rest) E := h
theorem oAs {e : TypeId} {o : Oper} (h : LA P l wb K (⟨some d, .alloc e, ty, pos, after, g⟩ :: ⟨none, .store t x y, ty', pos', after', g'⟩ :: rest) E) : LA P l wb K (⟨some d, .alloc e, ty, pos, after, g⟩ :: ⟨none, .store t x y, ty', pos', after', g'⟩ :: rest) E := h
theorem oSt (h : LA P l wb K (⟨none, .store t x y, ty, pos, after, g⟩ :: rest) E) : LA P l wb K (⟨none, .store t x y, ty, pos, after, g⟩ :: rest) E := h
/-- A variable of the call's own, laid and filled with a structure that is known by a predicate. -/
theorem LX_varK {e : TypeId} {z0 : Value} {φ : AV} {q : Tmp} {n : Nat} (hg : g = none) (hg' : g' = none) (hd : d < N) (hq : lkE E q = .pred φ) (hne : (q == d) = false) (hl : Lays φ n e) (hz : ∀ w, (zeroValue e).run P w = .ok z0 w) (hz0 : z0.cells.size = n)
    (hs : ∀ w, (sizeOf t).run P w = .ok n w)
    (h : ∀ b cs w', Ext wb w' → wb.heap.size ≤ b → w'.heap[b]? = some (.cells cs e (0, 0)) → cs.size = n → φ.p (.agg cs) w' → LX P N w' l Q rest ((d, .val (.pointer (some ⟨b, 0, none⟩))) :: (q, .val (.agg cs)) :: E)) :
    LX P N wb l Q (⟨some d, .alloc e, ty, pos, after, g⟩ :: ⟨none, .store t (.tmp d) (.tmp q), ty', pos', after', g'⟩ :: rest) E := by
  refine LX_pick q hq (fun v w1 e1 h1 => ?_)
  obtain ⟨cs, rfl, hcn, hone⟩ := hl.shape _ _ h1
  refine LX_var (c := .agg cs) hg hg' hd hz (fun v => ?_) (fun w => by show _ = Result.ok cs.size w; rw [hcn]; exact hs w) (by show cs.size = _; rw [hcn, hz0]) hone (fun b w' e hb hh => h b cs w' (e1.trans e) (Nat.le_trans e1.size hb) hh hcn (φ.mono _ _ _ e h1))
  simp only [opE, lkE, hne, cond_false, beq_self_eq_true, cond_true]
/-- Such a variable is filled anew. -/
theorem LX_storeK {e : TypeId} {φ : AV} {q : Tmp} {b n : Nat} {cur : Array Value} (hg : g = none) (hx : opE ((q, .any) :: E) x = .val (.pointer (some ⟨b, 0, none⟩))) (hq : lkE E q = .pred φ) (hb : wb.heap[b]? = some (.cells cur e (0, 0))) (hcur : cur.size = n) (hl : Lays φ n e)
    (hs : ∀ w, (sizeOf t).run P w = .ok n w)
    (h : ∀ cs w', Ext wb w' → cs.size = n → φ.p (.agg cs) w' → w'.heap[b]? = some (.cells cur e (0, 0)) → LX P N (w'.setRow b cs) l Q rest ((q, .val (.agg cs)) :: vals E)) :
    LX P N wb l Q (⟨none, .store t x (.tmp q), ty, pos, after, g⟩ :: rest) E := by
  refine LX_pick q hq (fun v w1 e1 h1 => ?_)
  obtain ⟨cs, rfl, hcn, hone⟩ := hl.shape _ _ h1
  refine LX_storeAll (c := .agg cs) hg ?_ (by simp only [opE, lkE, beq_self_eq_true, cond_true]) (e1.block hb) (fun w => by show _ = Result.ok cs.size w; rw [hcn]; exact hs w) (by show cs.size = _; rw [hcn, hcur]) hone (fun w' e' => h cs w' (e1.trans e') hcn (φ.mono _ _ _ e' h1) (e'.block (e1.block hb)))
  cases x with
  | tmp u =>
    simp only [opE, lkE] at hx ⊢
    cases hu : (u == q)
    · rw [hu] at hx; exact hx
    · rw [hu] at hx; cases hx
  | _ => exact hx
/-- The structure in such a variable. -/
theorem LA_loadK {b n : Nat} {cs : Array Value} {e : TypeId} (hg : gdec l E g = some true) (hb : wb.heap[b]? = some (.cells cs e (0, 0))) (hn : cs.size = n) (hx : opE E x = .val (.pointer (some ⟨b, 0, none⟩))) (ht : ∀ w, (isAgg t).run P w = .ok true w) (hs : ∀ w, (sizeOf t).run P w = .ok n w)
    (h : LA P l wb K rest ((d, .val (.agg cs)) :: E)) : LA P l wb K (⟨some d, .load t x, ty, pos, after, g⟩ :: rest) E :=
  LA_loadBN hg ht (fun w => by rw [hn]; exact hs w) hx hb h
/-- A row of three. -/
theorem fill_three {c0 c1 c2 : Value} {z : Array Value} (h0 : c0.cells = #[c0]) (h1 : c1.cells = #[c1]) (h2 : c2.cells = #[c2]) : Instr.fill (fun i => some (i * 1, 1)) ((Array.range (3 * 1)).map (fun j => z[j % z.size]!)) [(0, c0), (1, c1), (2, c2)] = some #[c0, c1, c2] := by
  have e : Array.range (3 * 1) = #[0, 1, 2] := rfl
  rw [e]; simp [Instr.fill, h0, h1, h2]
theorem LA_three {c0 c1 c2 z0 : Value} {b : Nat} {e : TypeId} (hg : gdec l E g = some true) (hel : El P t e z0 1 b) (hx : opE E x = .val c0) (hy : opE E y = .val c1) (hz : opE E z = .val c2) (h0 : c0.cells = #[c0]) (h1 : c1.cells = #[c1]) (h2 : c2.cells = #[c2]) (h : LA P l wb K rest ((d, .pred (ownC wb.heap.size e 1 3 [c0, c1, c2])) :: E)) :
    LA P l wb K (⟨some d, .buildSlice t 3 #[(0, x), (1, y), (2, z)], ty, pos, after, g⟩ :: rest) E := by
  refine LA_of (.pred (ownC wb.heap.size e 1 3 [c0, c1, c2])) hg (fun a w he hh => ?_) h
  have e1 := hh x (by simp [Op.operands])
  have e2 := hh y (by simp [Op.operands])
  have e3 := hh z (by simp [Op.operands])
  rw [hx] at e1; rw [hy] at e2; rw [hz] at e3; simp only [AD.ok] at e1 e2 e3
  have hrun : (Instr.buildSlice t 3 #[(0, c0), (1, c1), (2, c2)]).run P w = .ok (.slice (some ⟨w.heap.size, 0, none⟩) 3 3) (w.alloc (.cells #[c0, c1, c2] e)) := by
    simp only [Instr.buildSlice, Sem.run_bind, run_underlying hel.ht, Result.andThen_ok, hel.sizeOf, Nat.reduceMul, Nat.reducePow, gt_iff_lt, Nat.reduceLT, if_false, Sem.run_pure, Nat.reduceEqDiff, hel.zero, fill_three h0 h1 h2]
    rfl
  simp only [execOp, List.map_toArray, List.map_cons, List.map_nil, e1, e2, e3, Sem.run_bind, hrun, Result.andThen_ok, Sem.run_pure]
  exact ⟨Ext.alloc _ _, by simp, .inr ⟨w.heap.size, 3, #[c0, c1, c2], rfl, he.size, heap_alloc_new w _, Nat.le_refl _, by decide, by simp, by simp⟩⟩
theorem setRow_keep {w : World} {b b' : Nat} {o : Obj} (cs : Array Value) (h : w.heap[b']? = some o) (hne : b' ≠ b) : (w.setRow b cs).heap[b']? = some o := by
  rw [setRow_other w b b' cs hne]; exact h
/-- Results of which the first lies in a variable whose place is known. -/
theorem PX_retV3 {fn : Func} {w0 : World} {r1 r2 r3 : AD} {p u u' n b : Nat} {cs : Array Value} {e : TypeId} {dsc : TypeDesc} (hr : fn.results = #[.cell p t, .tmp u, .tmp u']) (hl : lkE E p = .val (.pointer (some ⟨b, 0, none⟩))) (hb : wb.heap[b]? = some (.cells cs e (0, 0))) (hn : cs.size = n)
    (hu : P.underlying t = some dsc) (hd : (match dsc with | .struct _ | .array _ _ => true | _ => false) = true) (hi : (P.info? t).map (·.size) = some n) (he : Ext w0 wb)
    (hc : ∀ w, Ext wb w → ∀ u2 u3, (lkE E u).ok u2 w → (lkE E u').ok u3 w → r1.ok (.agg cs) w ∧ r2.ok u2 w ∧ r3.ok u3 w) :
    PX N wb (bodyPost P fn (Ret w0 (.tup3 r1 r2 r3))) .ret E := by
  unfold PX
  intro a w st
  have h1 := st.sat p
  have h2 := st.sat u
  have h3 := st.sat u'
  rw [hl] at h1; simp only [AD.ok] at h1
  have hv' : a.tmps[p]?.getD undef = .pointer (some ⟨b, 0, none⟩) := by simpa using h1
  have hrun : (results fn a.tmps).run P w = .ok (.tuple #[.agg cs, a.tmps.getD u undef, a.tmps.getD u' undef]) w := by
    simp [results, hr, hv', asAddr, run_loadVar_row w b e t cs (0, 0) dsc (st.ext.block hb) hu hd (by rw [hn]; exact hi)]
  obtain ⟨g1, g2, g3⟩ := hc w st.ext _ _ h2 h3
  exact ⟨st.df, _, hrun, _, rfl, he.trans st.ext, _, _, _, rfl, g1, g2, g3⟩
end
theorem MkI.setRow {base e : Nat} {w : World} {v : Value} {p : Nat → Bool} (h : MkI base e w v p) {b : Nat} {cur : Array Value} {e' : TypeId} {j : Nat × Nat} (hb : w.heap[b]? = some (.cells cur e' j)) (hne : e ≠ e') (cs : Array Value) : MkI base e (w.setRow b cs) v p := by
  obtain ⟨bm, rfl, h1, h2⟩ := h
  refine ⟨bm, rfl, h1, ?_⟩
  rw [setRow_other w b bm cs (fun he => ?_)]
  · exact h2
  · subst he
    rw [h2] at hb
    simp only [Option.some.injEq, Obj.cells.injEq] at hb
    exact hne hb.2.1
end Go.LA
