import Derived.Maps.AppendAt
import Derived.ChangeSame
import Derived.ChangeSlices
import Derived.Test.YtfcioiobhpcngaaGreatDoorM6
import Derived.Test.YtfcioiobhpcngaaGreatDoorM7
import Derived.Test.YtfcioiobhpcngaaGreatDoorM14
section
set_option linter.unusedSimpArgs false
set_option linter.unusedVariables false
namespace Go.LA
open Go.RowKit
theorem Fr.grown {w w' : World} {row : Option Nat} (h : w.grownBy w' row) : Fr (fun k => row = some k) w w' :=
by
  obtain ⟨h1, h2, h3, h4, h5⟩ := h
  exact ⟨by assumption, by assumption, by assumption, by assumption, fun k hk hn => h5 k hk (fun e => hn e.symm)⟩
theorem Fr.grownBy {w w' : World} {row : Option Nat} (h : Fr (fun k => row = some k) w w') : w.grownBy w' row := by
  have h1 := h.os
  have h2 := h.tape
  have h3 := h.output
  have h4 := h.size
  exact ⟨by assumption, by assumption, by assumption, by assumption, fun k hk hn => h.block k hk (fun e => hn e.symm)⟩
theorem Own.rebase {base base' e s n : Nat} {w : World} {v : Value} {cs : List Value} (h : Own base e s w v n cs) (hb : ∀ k, v.ownBlock = some k → base' ≤ k) : Own base' e s w v n cs := by
  refine ⟨h.1, ?_⟩
  rcases h.2 with h0 | ⟨g, cap, cur, rfl, hb', r⟩
  · exact .inl h0
  · exact .inr ⟨g, cap, cur, rfl, hb g rfl, r⟩
def LocR (w : World) (v v' : Value) : Prop := v'.ownBlock = v.ownBlock ∨ ∀ k, v'.ownBlock = some k → w.heap.size ≤ k
theorem LocR.refl {w : World} {v : Value} : LocR w v v := .inl rfl
theorem LocR.le {w w0 : World} {v v' : Value} (h : LocR w v v') (hs : w0.heap.size ≤ w.heap.size) : LocR w0 v v' := h.imp id (fun h k hk => Nat.le_trans hs (h k hk))
theorem LocR.ge {w : World} {base : Nat} {v v' : Value} (h : LocR w v v') (hv : ∀ k, v.ownBlock = some k → base ≤ k) (hs : base ≤ w.heap.size) (k : Nat) (hk : v'.ownBlock = some k) : base ≤ k := by
  rcases h with h | h
  · exact hv k (h ▸ hk)
  · exact Nat.le_trans hs (h k hk)
theorem LocR.trans {w w' : World} {v v' v'' : Value} (h : LocR w v v') (h' : LocR w' v' v'') (hs : w.heap.size ≤ w'.heap.size) : LocR w v v'' := by
  rcases h' with h' | h'
  · rcases h with h | h
    · exact .inl (h'.trans h)
    · exact .inr fun k hk => h k (h' ▸ hk)
  · exact .inr fun k hk => Nat.le_trans hs (h' k hk)
section
variable {P : Program} {l : List Oper} {M : List Nat} {N : Nn} {ws wb : World} {K : List Oper → Env → Prop} {rest : List Oper} {E : Env} {Q : Exit → Act → World → Prop} {m : Nat} {C : World → Env → Prop}
variable {d : Tmp} {ty t t' : TypeId} {pos : String} {after : Array Edge} {g : Option (Nat × Bool)} {x y z : Operand} {k kd : IntKind}
theorem run_append_loc {w : World} {base e s b n m : Nat} {v vy z : Value} {cs news : List Value} (hel : El P t e z s b) (hown : Own base e s w v n cs) (hy : SlC w vy m s news) (h1 : ∀ u ∈ news, u.oneCell' = true)
    (h63 : n + m ≤ maxLen) (hbytes : (n + m) * b ≤ 140737488355328) :
    ∃ v' w', (Builtin.append_ #[t, t] ty #[v, vy]).run P w = .ok v' w' ∧ Own 0 e s w' v' (n + m) (cs ++ news) ∧ Fr (fun k => v.ownBlock = some k) w w' ∧ LocR w v v' := by
  obtain ⟨i, hi1, hi2, hi3, hi4⟩ := hel.parts
  obtain ⟨h0, a, cap, rfl, hc, hm, hn, hcs⟩ := hy
  have hown0 : Own 0 e s w v n cs := hown.base (Nat.zero_le _)
  cases a with
  | none =>
    obtain rfl := hn rfl
    obtain rfl : m = 0 := by omega
    have hnews : news = [] := List.eq_nil_of_length_eq_zero (by simpa using h0)
    subst hnews
    exact ⟨v, w, run_append_owned_none (P := P) w 0 t ty e i s hel.ht hi1 v n cs hown0, by simpa using hown0, Fr.of (Ext.refl _), LocR.refl⟩
  | some a =>
    have hcells : ∀ (j : Nat) (u : Value), news[j]? = some u → w.cell? (a.add j) = some u := fun j u hj => by
      rcases hcs with rfl | ⟨b', off, ha, hc'⟩
      · have : news = [] := List.eq_nil_of_length_eq_zero (by simpa using h0)
        subst this; cases hj
      · obtain rfl := Option.some.inj ha
        rw [Addr.add_lit]; exact hc' j u hj
    obtain ⟨v', w', g1, g2, g3, g4, g5⟩ := run_append_own_at (P := P) w 0 t ty e i z s b hel.ht hi1 hi2 hi3 hi4 hel.zs hel.pos v n cs hown0 a m cap news h0 hcells h1 h63 hbytes (Nat.zero_le _)
    exact ⟨v', w', g1, g2, Fr.grown g3, g5.imp id (fun h k hk => by rw [h] at hk; cases hk; exact Nat.le_refl _)⟩
theorem LX_appendL {base e s b n m : Nat} {v z : Value} {cs news : List Value} {r : AD} (hg : g = none) (hd : d < N.n) (hel : El P t e z s b) (hx : opE E x = .val v) (hown : Own base e s wb v n cs) (hr : opE E y = r) (hy : HasC wb r m s news)
    (h1 : ∀ u ∈ news, u.oneCell' = true) (h63 : n + m ≤ maxLen) (hbytes : (n + m) * b ≤ 140737488355328)
    (h : ∀ v' w w', Ext wb w → Own 0 e s w' v' (n + m) (cs ++ news) → Fr (fun k => v.ownBlock = some k) w w' → LocR w v v' → LX P N w' l Q rest ((d, .val v') :: vals E)) :
    LX P N wb l Q (⟨some d, .call ⟨.builtin .append, #[x, y], #[t, t]⟩, ty, pos, after, g⟩ :: rest) E := by
  unfold LX
  intro a w st
  have e1 := st.opd x; rw [hx] at e1; simp only [AD.ok] at e1
  have e2 := st.opd y; rw [hr] at e2
  obtain ⟨v', w', g1, g2, g3, g4⟩ := run_append_loc (t := t) (ty := ty) hel (hown.ext st.ext) (hy _ _ st.ext e2) h1 h63 hbytes
  refine wpList_plain hg fun Kc hK => ?_
  unfold Oper.wp
  simp only [execOp, resolve, invoke, builtin, Sem.run_bind, Sem.run_pure, Result.andThen_ok, List.map_toArray, List.map_cons, List.map_nil, e1, g1, Oper.upon]
  refine hK _ _ ?_
  have h2 := h v' w w' st.ext g2 g3 g4
  unfold LX at h2
  exact h2 _ _ ((st.vals (w' := w')).push (Ext.refl _) (dst := some d) (r := .val v') (fun d' hd' => by cases hd'; exact hd) (.inr rfl))
theorem MX_appendL {base e s b n kn : Nat} {v z : Value} {cs news : List Value} {r : AD} (hm : l[m]? = some ⟨some d, .call ⟨.builtin .append, #[x, y], #[t, t]⟩, ty, pos, after, none⟩) (hel : El P t e z s b) (hx : opE E x = .val v) (hown : Own base e s ws v n cs) (hr : opE E y = r) (hy : HasC ws r kn s news)
    (h1 : ∀ u ∈ news, u.oneCell' = true) (h63 : n + kn ≤ maxLen) (hbytes : (n + kn) * b ≤ 140737488355328)
    (h : ∀ v' w w', Ext ws w → Own 0 e s w' v' (n + kn) (cs ++ news) → Fr (fun k => v.ownBlock = some k) w w' → LocR w v v' → ∃ E', (∀ t u, d ≠ t → (lkE E t).ok u w → (lkE E' t).ok u w') ∧ C w' ((d, .val v') :: E')) : MX P N l Q m ws E C := by
  intro o ho a w hsz hdf hext hop K hK
  rw [hm] at ho; obtain rfl := Option.some.inj ho
  have e1 := op_ok (x := x) hop (by simp [Op.operands, Call.operands]); rw [hx] at e1; simp only [AD.ok] at e1
  have e2 := op_ok (x := y) hop (by simp [Op.operands, Call.operands]); rw [hr] at e2
  obtain ⟨v', w', g1, g2, g3, g4⟩ := run_append_loc (t := t) (ty := ty) hel (hown.ext hext) (hy _ _ hext e2) h1 h63 hbytes
  obtain ⟨E', hE, hC⟩ := h v' w w' hext g2 g3 g4
  unfold Oper.wp
  simp only [execOp, resolve, invoke, builtin, Sem.run_bind, Sem.run_pure, Result.andThen_ok, List.map_toArray, List.map_cons, List.map_nil, e1, g1, Oper.upon]
  refine hK v' w' w' _ (Ext.refl _) (fun t ht hu => ?_) (fun d' hd' => ?_) hC
  · rw [look_push]
    by_cases e : t = d
    · subst e; exact absurd rfl ht
    · rw [if_neg e]; exact hE t _ (fun h => e h.symm) hu
  · cases hd'; rw [look_push, if_pos rfl]; rfl
theorem PX_rndB {ι : Type} {J : ι → Env} {C : ι → Prop} {μ : ι → Nat} {q : Nat} {wx : World} (he : Ext wb wx) (i : ι) (h0 : C i) (hm : μ i < q) (hs : Sub wx E (J i)) : PX N wx (Exit.then (Rnd N wb J C μ q) Q) .normal E := by
  unfold PX
  intro a w s
  have s' := hs.st s
  exact ⟨i, ⟨h0, ⟨s'.sz, s'.df, he.trans s'.ext, s'.sat⟩⟩, hm⟩
theorem LX_storeN {b o : Nat} {cur : Array Value} {e : TypeId} {c : Value} {news : List Value} (hg : g = none) (hx : opE E x = .val (.pointer (some ⟨b, o, none⟩))) (hy : opE E y = .val c) (hb : wb.heap[b]? = some (.cells cur e (0, 0))) (hc : c.cells = news.toArray)
    (hs : ∀ w, (sizeOf t).run P w = .ok news.length w) (ho : o + news.length ≤ cur.size) (h1 : ∀ u ∈ news, u.oneCell' = true)
    (h : ∀ w, Ext wb w → LX P N (w.setRow b (cur.toList.take o ++ news ++ cur.toList.drop (o + news.length)).toArray) l Q rest (vals E)) :
    LX P N wb l Q (⟨none, .store t x y, ty, pos, after, g⟩ :: rest) E := by
  unfold LX
  intro a w st
  have e1 := st.opd x; rw [hx] at e1; simp only [AD.ok] at e1
  have e2 := st.opd y; rw [hy] at e2; simp only [AD.ok] at e2
  have hrun : (Instr.storeAt t (.pointer (some ⟨b, o, none⟩)) c).run P w = .ok () (w.setRow b (cur.toList.take o ++ news ++ cur.toList.drop (o + news.length)).toArray) := by
    have hst := run_storeCells_at P b o e news 0 cur w (st.ext.block hb) (by omega) h1
    rw [Nat.add_zero] at hst
    simp only [Instr.storeAt, Instr.sureAddr, storeVar, Sem.run_bind, Sem.run_pure, Result.andThen_ok, hs, hc, ne_eq, if_false, List.size_toArray, not_true_eq_false, hst]
  refine wpList_plain hg fun Kc hK => ?_
  unfold Oper.wp
  simp only [execOp, Sem.run_bind, e1, e2, hrun, Result.andThen_ok, Sem.run_pure, Oper.upon]
  refine hK _ _ ?_
  have h2 := h w st.ext
  unfold LX at h2
  exact h2 _ _ (st.vals (w' := w.setRow b _))
theorem LX_varA {e : TypeId} {z0 c c2 : Value} {d2 : Tmp} {x2 : Operand} {ty' ty'' : TypeId} {pos' pos'' : String} {after' after'' : Array Edge} {g' g'' : Option (Nat × Bool)} (hg : g = none) (hg' : g' = none) (hg'' : g'' = none) (hd : d < N.n) (hd2 : d2 < N.n) (hz : ∀ w, (zeroValue e).run P w = .ok z0 w) (hx2 : ∀ v, opE ((d, .val v) :: E) x2 = .val c2) (hne : (d == d2) = false)
    (hy : ∀ v, opE ((d2, .val c2) :: (d, .val v) :: E) y = .val c)
    (hs : ∀ w, (sizeOf t).run P w = .ok c.cells.size w) (hfit : c.cells.size = z0.cells.size) (h1 : ∀ u ∈ c.cells.toList, u.oneCell' = true)
    (h : ∀ b w', Ext wb w' → wb.heap.size ≤ b → w'.heap[b]? = some (.cells c.cells e (0, 0)) → LX P N w' l Q rest ((d2, .val c2) :: (d, .val (.pointer (some ⟨b, 0, none⟩))) :: E)) :
    LX P N wb l Q (⟨some d, .alloc e, ty, pos, after, g⟩ :: ⟨some d2, .assign x2, ty'', pos'', after'', g''⟩ :: ⟨none, .store t (.tmp d) y, ty', pos', after', g'⟩ :: rest) E := by
  unfold LX
  intro a w st
  have ra : (Instr.alloc e true (.tuple #[])).run P w = .ok (.pointer (some ⟨w.heap.size, 0, none⟩)) (w.alloc (.cells z0.cells e)) := by
    simp only [Instr.alloc, Sem.run_bind, hz, Result.andThen_ok]
    rfl
  refine wpList_plain hg fun Kc hK => ?_
  unfold Oper.wp
  simp only [execOp, Sem.run_bind, ra, Result.andThen_ok, Sem.run_pure, Oper.upon]
  refine hK _ _ ?_
  have st1 : St N wb ((d, .val (.pointer (some ⟨w.heap.size, 0, none⟩))) :: E) (a.put (some d) (.pointer (some ⟨w.heap.size, 0, none⟩))) (w.alloc (.cells z0.cells e)) :=
    st.push (Ext.alloc _ _) (dst := some d) (r := .val _) (fun d' hd' => by cases hd'; exact hd) (.inr rfl)
  have e0 := st1.opd x2; rw [hx2] at e0; simp only [AD.ok] at e0
  refine wpList_plain hg'' fun Kc hK => ?_
  unfold Oper.wp
  simp only [execOp, Sem.run_bind, e0, Result.andThen_ok, Sem.run_pure, Oper.upon]
  refine hK _ _ ?_
  have st2 := st1.push (Ext.refl _) (dst := some d2) (r := .val c2) (v := c2) (fun d' hd' => by cases hd'; exact hd2) (.inr rfl)
  have e1 := st2.opd (.tmp d)
  have e2 := st2.opd y
  have e2' : opE (puE (some d2) (.val c2) ((d, .val (.pointer (some ⟨w.heap.size, 0, none⟩))) :: E)) y = .val c := hy _
  rw [e2'] at e2; simp only [AD.ok] at e2
  have e1' : ((a.put (some d) (.pointer (some ⟨w.heap.size, 0, none⟩))).put (some d2) c2).eval (.tmp d) = .pointer (some ⟨w.heap.size, 0, none⟩) := by
    simp only [opE, puE, lkE, hne, beq_self_eq_true, cond_true, cond_false, AD.ok] at e1; exact e1
  have hb : (w.alloc (.cells z0.cells e)).heap[w.heap.size]? = some (.cells z0.cells e (0, 0)) := heap_alloc_new w _
  have hrun : (Instr.storeAt t (.pointer (some ⟨w.heap.size, 0, none⟩)) c).run P (w.alloc (.cells z0.cells e)) = .ok () ((w.alloc (.cells z0.cells e)).setRow w.heap.size c.cells) := by
    have hst := run_storeCells_at P w.heap.size 0 e c.cells.toList 0 z0.cells _ hb (by simp [hfit]) h1
    have e3 : (z0.cells.toList.take (0 + 0) ++ c.cells.toList ++ z0.cells.toList.drop (0 + 0 + c.cells.toList.length)).toArray = c.cells := by
      rw [List.drop_eq_nil_of_le (by simp [hfit])]; simp
    rw [e3] at hst
    simp only [Instr.storeAt, Instr.sureAddr, storeVar, Sem.run_bind, Sem.run_pure, Result.andThen_ok, hs, ne_eq, not_true_eq_false, if_false, hst]
  refine wpList_plain hg' fun Kc hK => ?_
  unfold Oper.wp
  simp only [execOp, Sem.run_bind, e1', e2, hrun, Result.andThen_ok, Sem.run_pure, Oper.upon]
  refine hK _ _ ?_
  have x2 : Ext w ((w.alloc (.cells z0.cells e)).setRow w.heap.size c.cells) := (Ext.alloc _ _).setRow (Nat.le_refl _) _
  have h2 := h w.heap.size _ (st.ext.trans x2) st.ext.size (setRow_heap _ w.heap.size _ _ _ (0, 0) hb)
  unfold LX at h2
  have st3 := st.push (dst := some d) (r := .val (.pointer (some ⟨w.heap.size, 0, none⟩))) (v := .pointer (some ⟨w.heap.size, 0, none⟩)) x2 (fun d' hd' => by cases hd'; exact hd) (.inr rfl)
  have st4 := st3.push (Ext.refl _) (dst := some d2) (r := .val c2) (v := c2) (fun d' hd' => by cases hd'; exact hd2) (.inr rfl)
  exact h2 _ _ st4.rebase
theorem LA_oneSQ {c z : Value} {s b base : Nat} {e : TypeId} (hbase : base ≤ wb.heap.size) (hg : gdec l E g = some true) (hel : El P t e z s b) (hx : opE E x = .val c) (hc : c.cells.size = s) (hs1 : s ≤ 1000) (h : LA P l wb K rest ((d, .pred (ownC base e s 1 c.cells.toList)) :: E)) :
    LA P l wb K (⟨some d, .buildSlice t 1 #[(0, x)], ty, pos, after, g⟩ :: rest) E := by
  refine LA_of (.pred (ownC base e s 1 c.cells.toList)) hg (fun a w he hh => ?_) h
  have h1 := hh x (by simp [Op.operands])
  rw [hx] at h1; simp only [AD.ok] at h1
  have hne : ¬ s = 0 := by have := hel.pos; omega
  have hrun : (Instr.buildSlice t 1 #[(0, c)]).run P w = .ok (.slice (some ⟨w.heap.size, 0, none⟩) 1 1) (w.alloc (.cells c.cells e)) := by
    have hf := fill_oneS (c := c) (z := z.cells) (s := s) hc
    simp only [Instr.buildSlice, Sem.run_bind, run_underlying hel.ht, Result.andThen_ok, hel.sizeOf, Nat.one_mul, gt_iff_lt, show ¬ (2 ^ 24 < s) by omega, if_false, hne, Sem.run_pure, hel.zero]
    simp only [Nat.one_mul] at hf
    rw [hf]
    rfl
  simp only [execOp, List.map_toArray, List.map_cons, List.map_nil, h1, Sem.run_bind, hrun, Result.andThen_ok, Sem.run_pure]
  refine ⟨Ext.alloc _ _, ?_⟩
  refine ⟨by simp [hc], .inr ⟨w.heap.size, 1, c.cells, rfl, Nat.le_trans hbase he.size, heap_alloc_new w _, Nat.le_refl _, by decide, by simp [hc], ?_⟩⟩
  rw [Nat.one_mul, ← hc]
  exact List.take_of_length_le (by simp)
end
theorem Own.setN {e s b cap n i : Nat} {w : World} {cur : Array Value} {cs news : List Value} (hl : cs.length = n * s) (hg : w.heap[b]? = some (.cells cur e (0, 0))) (hnc : n ≤ cap) (hm : cap ≤ maxLen) (hsz : cur.size = cap * s) (ht : cur.toList.take (n * s) = cs) (hi : i < n) (hn : news.length = s) :
    Own 0 e s (w.setRow b (cur.toList.take (i * s) ++ news ++ cur.toList.drop (i * s + news.length)).toArray) (.slice (some ⟨b, 0, none⟩) n cap) n (cs.take (i * s) ++ news ++ cs.drop (i * s + s)) := by
  have hcur : cur.toList.length = cap * s := by rw [Array.length_toList]; exact hsz
  have h1 : (i + 1) * s ≤ n * s := Nat.mul_le_mul_right _ hi
  have h2 : n * s ≤ cap * s := Nat.mul_le_mul_right _ hnc
  have h3 : (i + 1) * s = i * s + s := by rw [Nat.add_mul, Nat.one_mul]
  refine ⟨?_, .inr ⟨b, cap, _, rfl, Nat.zero_le _, setRow_heap w b cur _ e _ hg, hnc, hm, ?_, ?_⟩⟩
  · simp only [List.length_append, List.length_take, List.length_drop]; omega
  · simp only [List.size_toArray, List.length_append, List.length_take, List.length_drop]; omega
  · subst ht
    rw [List.take_take, Nat.min_eq_left (by omega)]
    simp only [List.toList_toArray]
    rw [List.append_assoc, List.take_append, List.take_of_length_le (by rw [List.length_take]; omega), List.take_append, List.take_of_length_le (l := news) (by rw [List.length_take]; omega), List.append_assoc]
    congr 2
    rw [List.length_take, hn, List.drop_take]
    congr 1
    omega
end Go.LA
end
section
set_option linter.unusedSimpArgs false
set_option linter.unusedVariables false
namespace Go.LA
open Go.RowKit
def spV (k : IntKind) (x : Sp) : Value := .agg #[.int k x.1, .int k x.2]
def cellsP (k : IntKind) : List Sp → List Value
  | [] => []
  | x :: r => .int k x.1 :: .int k x.2 :: cellsP k r
variable {k : IntKind}
theorem cellsP_app : ∀ a b, cellsP k (a ++ b) = cellsP k a ++ cellsP k b
  | [], b => rfl
  | x :: a, b => by simp only [List.cons_append, cellsP, cellsP_app a b]
theorem cellsP_len : ∀ a, (cellsP k a).length = a.length * 2
  | [] => rfl
  | x :: a => by simp only [cellsP, List.length_cons, cellsP_len a]; omega
theorem cellsP_at : ∀ (a : List Sp) (j : Nat), j < a.length → ((cellsP k a).drop (j * 2)).take 2 = [.int k (a.getD j (0, 0)).1, .int k (a.getD j (0, 0)).2]
  | [], j, h => by simp at h
  | x :: a, 0, _ => rfl
  | x :: a, j + 1, h => by
    have ih := cellsP_at a j (by simpa using h)
    rw [show (j + 1) * 2 = j * 2 + 1 + 1 by omega]
    exact ih
theorem cellsP_set2 : ∀ (a : List Sp) (j : Nat) (c : Int), (cellsP k a).set (j * 2 + 1) (.int k c) = cellsP k (a.set j ((a.getD j (0, 0)).1, c))
  | [], j, c => by simp [cellsP]
  | x :: a, 0, c => rfl
  | x :: a, j + 1, c => by
    rw [show (j + 1) * 2 + 1 = j * 2 + 1 + 1 + 1 by omega]
    simp only [cellsP, List.set_cons_succ, cellsP_set2 a j c, List.getD_cons_succ]
def SlP (k : IntKind) (w : World) (v : Value) (rs : List Sp) : Prop := SlC w v rs.length 2 (cellsP k rs)
theorem SlP.ext {w w' : World} {v : Value} {rs : List Sp} (h : SlP k w v rs) (e : Ext w w') : SlP k w' v rs := SlC.ext h e
theorem SlP.len {w : World} {v : Value} {rs : List Sp} (h : SlP k w v rs) : rs.length ≤ 9223372036854775807 := SlC.len h
theorem SlP.isSlice {w : World} {v : Value} {rs : List Sp} (h : SlP k w v rs) : ∃ a c, v = .slice a rs.length c := SlC.isSlice h
def OwnP (base e : Nat) (k : IntKind) (w : World) (v : Value) (rs : List Sp) : Prop := Own base e 2 w v rs.length (cellsP k rs)
theorem OwnP.ext {base e : Nat} {w w' : World} {v : Value} {rs : List Sp} (h : OwnP base e k w v rs) (x : Ext w w') : OwnP base e k w' v rs := Own.ext h x
theorem OwnP.slP {base e : Nat} {w : World} {v : Value} {rs : List Sp} (h : OwnP base e k w v rs) : SlP k w v rs := Own.slC h
theorem OwnP.nil {base e : Nat} {w : World} : OwnP base e k w (.slice none 0 0) [] := Own.nil
def ownP (base e : Nat) (k : IntKind) (rs : List Sp) : AV := ⟨fun v w => OwnP base e k w v rs, fun _ _ _ x h => h.ext x⟩
theorem ret_baseP {w : World} {base base' e : Nat} {rs rs' : List Sp} (hb : base' ≤ base) (hr : rs = rs') (en : Ending) (w' : World) (h : Ret w (.pred (ownP base e k rs)) en w') : Ret w (.pred (ownP base' e k rs')) en w' := by
  obtain ⟨v, h1, h2, h3⟩ := h
  exact ⟨v, h1, h2, hr ▸ Own.base h3 hb⟩
def HasP (wb : World) (r : AD) (k : IntKind) (rs : List Sp) : Prop := HasC wb r rs.length 2 (cellsP k rs)
theorem HasP.val {wb : World} {u : Value} {rs : List Sp} (h : SlP k wb u rs) : HasP wb (.val u) k rs := HasC.val h
theorem HasP.ownV {wb : World} {base e : Nat} {u : Value} {rs : List Sp} (h : OwnP base e k wb u rs) : HasP wb (.val u) k rs := HasC.ownV h
theorem HasP.own {wb : World} {base e : Nat} {rs : List Sp} : HasP wb (.pred (ownP base e k rs)) k rs := HasC.own
section
variable {P : Program} {l : List Oper} {N : Nn} {wb : World} {K : List Oper → Env → Prop} {rest : List Oper} {E : Env} {Q : Exit → Act → World → Prop}
variable {d : Tmp} {ty t t' : TypeId} {pos : String} {after : Array Edge} {g : Option (Nat × Bool)} {x y z : Operand} {k' : IntKind}
theorem LA_lenP {rs : List Sp} (hg : gdec l E g = some true) (e : TypeId) (ht : P.underlying t = some (.slice e)) {r : AD} (hr : opE E x = r) (hx : HasP wb r k rs)
    (h : LA P l wb K rest ((d, .val (.int .i64 (rs.length : Int))) :: E)) : LA P l wb K (⟨some d, .call ⟨.builtin .len, #[x], #[t]⟩, ty, pos, after, g⟩ :: rest) E := LA_len hg e ht hr hx h
theorem LA_indexP {rs : List Sp} {j : Nat} (hg : gdec l E g = some true) (e : TypeId) (ht : P.underlying t = some (.slice e)) (hs : ∀ w, (sizeOf e).run P w = .ok 2 w)
    {r : AD} (hr : opE E x = r) (hx : HasP wb r k rs) (hi : opE E y = .val (.int k' ((j : Nat) : Int))) (hn : j < rs.length)
    (h : LA P l wb K rest ((d, .pred (ptrC [.int k (rs.getD j (0, 0)).1, .int k (rs.getD j (0, 0)).2])) :: E)) : LA P l wb K (⟨some d, .indexAddr t x y, ty, pos, after, g⟩ :: rest) E :=
  LA_indexC hg e ht hs hr hx hi j rfl hn (by rw [cellsP_at rs j hn]; exact h)
theorem LA_twoP {f m f' m' : Int} {z0 : Value} {b : Nat} {e : TypeId} (hg : gdec l E g = some true) (hel : El P t e z0 2 b) (hx : opE E x = .val (spV k (f, m))) (hy : opE E y = .val (spV k (f', m'))) (h : LA P l wb K rest ((d, .pred (ownC wb.heap.size e 2 2 (cellsP k [(f, m), (f', m')]))) :: E)) :
    LA P l wb K (⟨some d, .buildSlice t 2 #[(0, x), (1, y)], ty, pos, after, g⟩ :: rest) E := by
  refine LA_of (.pred (ownC wb.heap.size e 2 2 (cellsP k [(f, m), (f', m')]))) hg (fun a w he hh => ?_) h
  have e1 := hh x (by simp [Op.operands])
  have e2 := hh y (by simp [Op.operands])
  rw [hx] at e1; rw [hy] at e2; simp only [AD.ok] at e1 e2
  have hf : Instr.fill (fun i => some (i * 2, 2)) ((Array.range (2 * 2)).map (fun j => z0.cells[j % z0.cells.size]!)) [(0, spV k (f, m)), (1, spV k (f', m'))] = some #[.int k f, .int k m, .int k f', .int k m'] := by
    have er : Array.range (2 * 2) = #[0, 1, 2, 3] := rfl
    rw [er]; simp [Instr.fill, spV, Value.cells]
  have hrun : (Instr.buildSlice t 2 #[(0, spV k (f, m)), (1, spV k (f', m'))]).run P w = .ok (.slice (some ⟨w.heap.size, 0, none⟩) 2 2) (w.alloc (.cells #[.int k f, .int k m, .int k f', .int k m'] e)) := by
    simp only [Instr.buildSlice, Sem.run_bind, run_underlying hel.ht, Result.andThen_ok, hel.sizeOf, Nat.reduceMul, Nat.reducePow, gt_iff_lt, Nat.reduceLT, if_false, Sem.run_pure, Nat.reduceEqDiff, hel.zero]
    simp only [Nat.reduceMul] at hf
    rw [hf]
    rfl
  simp only [execOp, List.map_toArray, List.map_cons, List.map_nil, e1, e2, Sem.run_bind, hrun, Result.andThen_ok, Sem.run_pure]
  exact ⟨Ext.alloc _ _, by simp [cellsP], .inr ⟨w.heap.size, 2, #[.int k f, .int k m, .int k f', .int k m'], rfl, he.size, heap_alloc_new w _, Nat.le_refl _, by decide, by simp, by simp [cellsP]⟩⟩
end
theorem OwnP.row {base e : Nat} {w : World} {v : Value} {rs : List Sp} (h : OwnP base e k w v rs) (hp : 0 < rs.length) :
    ∃ b cap cur, v = .slice (some ⟨b, 0, none⟩) rs.length cap ∧ base ≤ b ∧ w.heap[b]? = some (.cells cur e (0, 0)) ∧ rs.length ≤ cap ∧ cap ≤ maxLen ∧ cur.size = cap * 2 ∧ cur.toList.take (rs.length * 2) = cellsP k rs := by
  rcases h.2 with ⟨_, h0⟩ | ⟨b, cap, cur, rfl, h1, h2, h3, h4, h5, h6⟩
  · omega
  · exact ⟨b, cap, cur, rfl, h1, h2, h3, h4, h5, h6⟩
theorem OwnP.set2 {base e b cap : Nat} {w : World} {cur : Array Value} {rs : List Sp} (hb : base ≤ b) (hg : w.heap[b]? = some (.cells cur e (0, 0))) (hnc : rs.length ≤ cap) (hm : cap ≤ maxLen) (hsz : cur.size = cap * 2) (ht : cur.toList.take (rs.length * 2) = cellsP k rs) (i : Nat) (c : Int) :
    OwnP base e k (w.setRow b (cur.setIfInBounds (i * 2 + 1) (.int k c))) (.slice (some ⟨b, 0, none⟩) rs.length cap) (rs.set i ((rs.getD i (0, 0)).1, c)) := by
  refine ⟨by rw [cellsP_len], .inr ⟨b, cap, cur.setIfInBounds (i * 2 + 1) (.int k c), by rw [List.length_set], hb, setRow_heap w b cur _ e _ hg, by rw [List.length_set]; exact hnc, hm, by simpa using hsz, ?_⟩⟩
  rw [Array.toList_setIfInBounds, List.length_set, List.take_set, ht, cellsP_set2]
end Go.LA
end
section
set_option linter.unusedSimpArgs false
set_option linter.unusedVariables false
namespace Go.LA
open Go.RowKit Go.ArrP
def itv (lo hi y : Nat) : Bool := decide (lo ≤ y) && decide (y < hi)
theorem itv_on {lo hi y : Nat} (h1 : lo ≤ y) (h2 : y < hi) : itv lo hi y = true := by unfold itv; rw [decide_eq_true h1, decide_eq_true h2]; rfl
theorem itv_off {lo hi y : Nat} (h : y < lo ∨ hi ≤ y) : itv lo hi y = false := by
  unfold itv
  rcases h with h | h
  · rw [decide_eq_false (Nat.not_le.2 h), Bool.false_and]
  · rw [decide_eq_false (Nat.not_lt.2 h), Bool.and_false]
theorem itv_iff {lo hi y : Nat} : itv lo hi y = true ↔ lo ≤ y ∧ y < hi := by
  unfold itv; rw [Bool.and_eq_true, decide_eq_true_iff, decide_eq_true_iff]
theorem cnt_itv (lo hi : Nat) : ∀ T, cnt (itv lo hi) T = min hi T - min lo T
  | 0 => by simp [cnt]
  | T + 1 => by
    have ih := cnt_itv lo hi T
    by_cases h1 : lo ≤ T ∧ T < hi
    · have := itv_on h1.1 h1.2
      simp only [cnt, ih, this, if_true]; omega
    · have := itv_off (lo := lo) (hi := hi) (y := T) (by omega)
      simp only [cnt, ih, this, Bool.false_eq_true, if_false]; omega
theorem listS_is {e : Nat → Bool} {n : Nat} {l : List Int} (hi : Inc l) (hm : ∀ z, z ∈ l ↔ ∃ i : Nat, i < n ∧ e i = true ∧ z = i) : listS e n = l :=
  inc_ext (listS_inc _ _) hi (fun z => by rw [listS_mem, hm])
theorem spL_off {p : Nat → Bool} {a : Nat} (h : ∀ x, x < a → p x = false) : spL p a = [] := by
  rw [sp_flat (p := p) (Nat.zero_le a) (fun x _ hx => h x hx), sp_none]
theorem bel_off {p : Nat → Bool} {a : Nat} (h : ∀ x, x < a → a ≤ x + 1 → p x = false) : bel p a = false := by
  cases a with
  | zero => rfl
  | succ a => exact h a (Nat.lt_succ_self a) (Nat.le_refl _)
theorem spL_add {p : Nat → Bool} {a lo hi b : Nat} {l : List Sp} (h : spL p a = l) (h1 : a < lo ∨ (a = lo ∧ a = 0)) (h2 : lo < hi) (h3 : hi ≤ b) (g1 : ∀ x, a ≤ x → x < lo → p x = false) (g2 : ∀ x, lo ≤ x → x < hi → p x = true) (g3 : ∀ x, hi ≤ x → x < b → p x = false) :
    spL p b = l ++ [((lo : Int), (hi : Int))] := by
  have hb : bel p lo = false := bel_off (fun x hx1 hx2 => g1 x (by omega) hx1)
  rw [sp_flat h3 g3, sp_new h2 g2 hb, sp_flat (a := a) (by omega) g1, h]
end Go.LA
end
section
set_option linter.unusedVariables false
set_option linter.unusedSimpArgs false
namespace Go.LA
open Go.RowKit Go.ArrP Go.ChangeShapes
def IsRowP (w : World) (a : Option Addr) (len cap : Nat) (rs : List Sp) : Prop := SlP .u64 w (.slice a len cap) rs ∧ (∀ x ∈ rs, 0 ≤ x.1 ∧ x.1 < 18446744073709551616 ∧ 0 ≤ x.2 ∧ x.2 < 18446744073709551616) ∧ rs.length = len
section
variable {H : Type} {enc : TypeId × Value → H} {P : Program} {w : World} {base : Nat} {spare : Nat → Bool} {held : Bool}
theorem open_spans {t e u : TypeId} {f0 f1 : Field} {fuel : Nat} {a : Option Addr} {len cap : Nat} {x : DataW H × List MemPlace} (ht : P.underlying t = some (.slice e)) (he : P.underlying e = some (.struct #[f0, f1])) (hc : P.cellsOf e = 2)
    (h0 : f0.type = u) (h1 : f1.type = u) (o0 : f0.offset = 0) (o1 : f1.offset = 1) (hu : P.underlying u = some (.int .u64)) (hcu : P.cellsOf u = 1)
    (h : DataW.trod enc P w base spare held fuel t [.slice a len cap] = some x) : ∃ rs, IsRowP w a len cap rs := by
  rcases DataW.trod_slice ht h with ⟨h2, -⟩ | ⟨ad, len', cap', elems, rest, n, -, h2, -, hb, hl, hm, hlen, hel, -, -⟩
  · simp only [List.cons.injEq, Value.slice.injEq, and_true] at h2
    obtain ⟨rfl, rfl, rfl⟩ := h2
    exact ⟨[], ⟨rfl, none, 0, rfl, Nat.le_refl _, Nat.zero_le _, fun _ => rfl, .inl rfl⟩, fun x hx => (by cases hx), rfl⟩
  simp only [List.cons.injEq, Value.slice.injEq, and_true] at h2
  obtain ⟨rfl, rfl, rfl⟩ := h2
  have each : ∀ i, i < len → ∃ f m : Int, (0 ≤ f ∧ f < 18446744073709551616 ∧ 0 ≤ m ∧ m < 18446744073709551616) ∧ w.cell? (ad.add (i * 2)) = some (.int .u64 f) ∧ w.cell? (ad.add (i * 2 + 1)) = some (.int .u64 m) := fun i hi => by
    have h3 := hel i hi
    rw [List.getElem?_eq_getElem (by omega), hc, Option.bind_eq_some_iff] at h3
    obtain ⟨cs, hcs, hy⟩ := h3
    obtain ⟨y0, y1, n', -, hcl, e0, e1⟩ := trod_struct2 he hy
    rw [h0, o0, hcu] at e0; rw [h1, o1, hcu] at e1
    obtain ⟨f, hf, -, wf0⟩ := DataW.trod_int hu e0
    obtain ⟨m, hm', -, wf1⟩ := DataW.trod_int hu e1
    have b0 := wf_u64 wf0
    have b1 := wf_u64 wf1
    have g0 : cs[0]? = some (.int .u64 f) := by
      have := congrArg (fun l => l[0]?) hf
      simpa [List.getElem?_take, List.getElem?_drop] using this
    have g1 : cs[1]? = some (.int .u64 m) := by
      have := congrArg (fun l => l[0]?) hm'
      simpa [List.getElem?_take, List.getElem?_drop] using this
    have hcell := (World.cells?_some hcs).2.2
    refine ⟨f, m, ⟨b0.1, b0.2, b1.1, b1.2⟩, ?_, ?_⟩
    · rw [← g0, ← hcell 0 (by decide), Addr.add_add, Nat.add_zero]
    · rw [← g1, ← hcell 1 (by decide), Addr.add_add]
  obtain ⟨q, hq⟩ : ∃ q : Nat → Sp, ∀ i, i < len → (0 ≤ (q i).1 ∧ (q i).1 < 18446744073709551616 ∧ 0 ≤ (q i).2 ∧ (q i).2 < 18446744073709551616) ∧ w.cell? (ad.add (i * 2)) = some (.int .u64 (q i).1) ∧ w.cell? (ad.add (i * 2 + 1)) = some (.int .u64 (q i).2) :=
    ⟨fun i => if hi : i < len then (Classical.choose (each i hi), Classical.choose (Classical.choose_spec (each i hi))) else (0, 0), fun i hi => by
      have h5 := Classical.choose_spec (Classical.choose_spec (each i hi))
      simp only [hi, dif_pos]
      exact h5⟩
  obtain ⟨rs, hrs⟩ : ∃ rs, rs = (List.range len).map q := ⟨_, rfl⟩
  have hl2 : rs.length = len := by rw [hrs]; simp
  have hget : ∀ i, i < len → rs.getD i (0, 0) = q i := fun i hi => by rw [hrs]; simp [List.getD, List.getElem?_range hi]
  refine ⟨rs, ⟨by rw [cellsP_len], some ad, cap, by rw [hl2], by omega, hm, (fun h => by cases h), ?_⟩, fun x hx => ?_, hl2⟩
  · by_cases hz : len = 0
    · left; omega
    · right
      have hx := (hq 0 (by omega)).2.1
      obtain ⟨b, off, spot⟩ := ad
      have hs : spot = none := by
        cases spot with
        | none => rfl
        | some s =>
          exfalso
          rw [Nat.zero_mul, Addr.add_zero'] at hx
          simp only [World.cell?] at hx
          split at hx <;> simp at hx
      subst hs
      refine ⟨b, off, rfl, fun j c hj => ?_⟩
      have hjl : j < len * 2 := by
        have := (List.getElem?_eq_some_iff.1 hj).1
        rwa [cellsP_len, hl2] at this
      have hi : j / 2 < len := by omega
      have hat := cellsP_at (k := .u64) rs (j / 2) (by omega)
      rw [hget _ hi] at hat
      obtain ⟨-, c0, c1⟩ := hq (j / 2) hi
      rw [Addr.add_lit] at c0 c1
      have h2 : j % 2 = 0 ∨ j % 2 = 1 := by omega
      rcases h2 with h2 | h2
      · have e := congrArg (fun l => l[0]?) hat
        simp only [List.getElem?_take, List.getElem?_drop, List.getElem?_cons_zero] at e
        rw [if_pos (by decide), show j / 2 * 2 + 0 = j by omega, hj] at e
        rw [show j / 2 * 2 = j by omega] at c0
        rw [c0, Option.some.inj e]
      · have e := congrArg (fun l => l[1]?) hat
        simp only [List.getElem?_take, List.getElem?_drop, List.getElem?_cons_succ, List.getElem?_cons_zero] at e
        rw [if_pos (by decide), show j / 2 * 2 + 1 = j by omega, hj] at e
        rw [show j / 2 * 2 + 1 = j by omega] at c1
        rw [c1, Option.some.inj e]
  · rw [hrs, List.mem_map] at hx
    obtain ⟨i, hi, rfl⟩ := hx
    exact (hq i (List.mem_range.1 hi)).1
theorem size_spans {t e : TypeId} {fuel : Nat} {a : Option Addr} {len cap : Nat} {d : DataW H} {ps : List MemPlace} {ts : List TypeId} {ds : List (DataW H)} (ht : P.underlying t = some (.slice e)) (hb : P.bytesOf e = 16)
    (h : DataW.trod enc P w base spare held fuel t [.slice a len cap] = some (d, ps)) (hw : (DataW.weights P t d).all (· ≤ reachBytes) = true) : (1 + len) * 16 ≤ 140737488355328 := by
  rcases DataW.trod_slice ht h with ⟨h2, -⟩ | ⟨ad, len', cap', elems, rest, n, -, h2, hd, -, hl, -, hlen, -, -, -⟩
  · simp only [List.cons.injEq, Value.slice.injEq, and_true] at h2
    obtain ⟨rfl, rfl, rfl⟩ := h2
    decide
  · simp only [List.cons.injEq, Value.slice.injEq, and_true] at h2
    obtain ⟨rfl, rfl, rfl⟩ := h2
    obtain ⟨rfl, -⟩ := Prod.mk.inj hd
    unfold DataW.weights at hw
    rw [ht] at hw
    simp only [List.all_cons, Bool.and_eq_true, decide_eq_true_eq, List.length_map, hb] at hw
    have h3 := hw.1
    unfold reachBytes at h3
    rw [hlen] at h3
    have h4 : len * 16 ≤ (len + rest.length) * 16 := Nat.mul_le_mul_right _ (by omega)
    omega
theorem sized_at {gs : List (DataW H)} {vs : List TypeId} : ∀ {ts : List TypeId} {ds : List (DataW H)} {j : Nat} {t : TypeId} {d : DataW H}, (DataW.weightsEach P (ts ++ vs) (ds ++ gs)).all (· ≤ reachBytes) = true → ts[j]? = some t → ds[j]? = some d → (DataW.weights P t d).all (· ≤ reachBytes) = true
  | [], _, _, _, _, _, h, _ => by cases h
  | _ :: _, [], _, _, _, _, _, h => by cases h
  | t :: ts, d :: ds, 0, _, _, hw, h1, h2 => by
    simp only [List.getElem?_cons_zero, Option.some.injEq] at h1 h2
    subst h1; subst h2
    simp only [List.cons_append, DataW.weightsEach, List.all_append, Bool.and_eq_true] at hw
    exact hw.1
  | t :: ts, d :: ds, j + 1, _, _, hw, h1, h2 => by
    simp only [List.cons_append, DataW.weightsEach, List.all_append, Bool.and_eq_true] at hw
    exact sized_at hw.2 h1 h2
end
end Go.LA
end
