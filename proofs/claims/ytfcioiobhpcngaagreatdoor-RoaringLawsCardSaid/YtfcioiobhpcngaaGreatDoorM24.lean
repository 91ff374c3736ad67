import Derived.RangeFuncNested
import Derived.RangeFuncLeaves
import Derived.OrdersIn
import Derived.TacticsIn
import Derived.Test.YtfcioiobhpcngaaGreatDoorM14
import Derived.Test.YtfcioiobhpcngaaGreatDoorM15
section
set_option linter.unusedSimpArgs false
set_option linter.unusedVariables false
namespace Go.LA
open Go.RowKit
def FW (ro : Option Nat) : Fence := { Fence.wide with round := ro }
section
variable {P : Program} {a : Act} {w : World} {Q : Exit → Act → World → Prop} {next : Act → World → Prop} {ro : Option Nat} {n : Nat} {ops : Array Oper}
theorem callsFW {f : FuncId} {args : Array Value} {R : Ending → World → Prop} (h : Calls P f args w R) : CallsIn (FW ro) n P f args w R := (callsIn_wide (n := n)).2 h
theorem rowsFW {row : String} {args : Array Value} {R : Value → World → Prop} (h : Rows P row args w R) : RowsIn (FW ro) n P row args w R := fun c cs _ =>
  let ⟨v, w', r, s⟩ := h c cs; ⟨v, w', r, (stepsIn_wide (P := P)).2 s⟩
theorem upIn {o : Oper} (hnd : ∀ c, o.op ≠ .defer c) (h : o.wp P a w next Q) : o.wpIn (FW ro) n P a w next Q := by
  refine ⟨fun _ _ => trivial, ?_⟩
  rw [Oper.semAt_eq _ _ _ hnd]
  unfold Oper.wp at h
  generalize (execOp a.eval o).run P w = res at h ⊢
  cases res with
  | ok nx w' =>
    cases nx <;> simp only [Oper.upon, Oper.uponIn] at h ⊢
    case value => exact h
    case skip => exact h
    case enter f args => exact ⟨fun h0 => absurd h0 Bool.false_ne_true, callsFW h⟩
    case row row args => exact ⟨fun h0 => absurd h0 Bool.false_ne_true, rowsFW h⟩
    case defer d => exact h
  | halt x w' => cases x <;> simp only [Oper.upon, Oper.uponIn] at h ⊢; exact h
def noDef : List Oper → Bool
  | [] => true
  | o :: r => (match o.op with | .defer _ => false | _ => true) && noDef r
theorem noDef_cons {o : Oper} {r : List Oper} (h : noDef (o :: r) = true) : (∀ c, o.op ≠ .defer c) ∧ noDef r = true := by
  simp only [noDef, Bool.and_eq_true] at h
  refine ⟨fun c hc => ?_, h.2⟩
  rw [hc] at h; exact absurd h.1 (by simp)
end
section
variable {P : Program} {l : List Oper} {N : Nn} {wb : World} {K : List Oper → Env → Prop} {rest : List Oper} {E : Env} {Q : Exit → Act → World → Prop} {ro : Option Nat} {n : Nat}
variable {d : Tmp} {ty t t' : TypeId} {pos : String} {after : Array Edge} {g : Option (Nat × Bool)} {x y z : Operand} {k k' : IntKind} {c c' : Code} {id : Nat}
def CY (P : Program) (N : Nn) (ro : Option Nat) (n : Nat) (wb : World) (c : Code) (E : Env) (Q : Exit → Act → World → Prop) : Prop := ∀ a w, St N wb E a w → c.wpIn (FW ro) n P Q a w
theorem CX_ofY (n : Nat) (h : CY P N none n wb c E Q) : CX P N wb c E Q := by
  unfold CX; exact fun a w s => (wpIn_wide (n := n)).1 (h a w s)
theorem CY_skip (h : PX N wb Q .normal E) : CY P N ro n wb .skip E Q := by unfold PX at h; exact fun a w s => wpIn_skip (h a w s)
def LY (P : Program) (N : Nn) (n : Nat) (wb : World) (l : List Oper) (Q : Exit → Act → World → Prop) (rest : List Oper) (E : Env) : Prop := ∀ a w, St N wb E a w → wpListIn (FW none) n P l.toArray Q rest a w
theorem CX_regionY (n : Nat) (h : LY P N n wb l Q l E) : CX P N wb (.region id l.toArray false) E Q :=
  CX_ofY n fun a w s => wpIn_region_list (by simpa using h a w s)
theorem LY_of_LA (hQ : ¬ LetsOut Q) {m : List Oper} (hd : okD m N.n = true) (hnd : noDef m = true) : ∀ {E : Env}, LA P l wb (fun rest E => LY P N n wb l Q rest E) m E → LY P N n wb l Q m E := by
  induction m with
  | nil => intro E h; rw [LA_nil_iff] at h; exact h
  | cons o rest ih =>
    intro E h
    obtain ⟨h1, h2⟩ := noDef_cons hnd
    simp only [okD, List.all_cons, Bool.and_eq_true] at hd
    rw [LA_cons_iff] at h
    rcases h with ⟨r, hs, h⟩ | h
    · intro a w hst
      have key := stp_wp (l := l) (Q := Q) (K := wpListIn (FW none) n P l.toArray Q rest) hs hst.ext (fun t _ => hst.sat t) (fun v w' he hv => by
        refine ih hd.2 h2 h _ _ (hst.push he (fun d hd' => ?_) (.inr hv))
        have := hd.1; rw [hd'] at this; simpa using this)
      simp only [wpListIn]
      split at key
      · rename_i hw
        rw [if_pos hw]
        rcases key with key | key
        · exact upIn h1 key
        · exact absurd key.2 hQ
      · rename_i hw
        rw [if_neg hw]
        exact ⟨fun _ _ => trivial, key⟩
    · exact h
theorem LY_la (hQ : ¬ LetsOut Q) {m : List Oper} {E : Env} (hd : okD m N.n = true) (hnd : noDef m = true) (h : ∀ K : List Oper → Env → Prop, (∀ rest E, LY P N n wb l Q rest E → K rest E) → LA P l wb K m E) : LY P N n wb l Q m E :=
  LY_of_LA hQ hd hnd (h _ (fun _ _ h => h))
theorem LY_nil (h : PX N wb Q .normal E) : LY P N n wb l Q [] E := by unfold PX at h; exact h
theorem LY_yield {lp : Nat} {ats : Array TypeId} {v : Value} (hd : d < N.n) (hx : opE E x = .val (.func (.yield lp) #[] #[])) (hy : opE E y = .val v) (R : Bool → World → Prop)
    (hY : ∀ w, Ext wb w → YieldAt Fence.wide (n - 1) P lp #[v] w fun e w' => ∃ b, e = .returned (.bool b) ∧ R b w') (h : ∀ b w', R b w' → LY P N n w' l Q rest ((d, .val (.bool b)) :: vals E)) :
    LY P N n wb l Q (⟨some d, .call ⟨.value x, #[y], ats⟩, ty, pos, after, none⟩ :: rest) E := by
  intro a w s
  have e1 := s.opd x; rw [hx] at e1; simp only [AD.ok] at e1
  have e2 := s.opd y; rw [hy] at e2; simp only [AD.ok] at e2
  obtain ⟨fn, tmps, assign, body, hy, hR⟩ := hY w s.ext
  refine wpListIn_plain rfl fun Kc hK => ⟨fun _ _ => trivial, ?_⟩
  have hrun : (execOp a.eval ⟨some d, .call ⟨.value x, #[y], ats⟩, ty, pos, after, none⟩).run P w = .ok (.round lp fn tmps assign body) w := by
    simp only [execOp, resolve, Deferred.ofValue, e1, e2, List.map_toArray, List.map_cons, List.map_nil, Sem.run_bind, Sem.run_pure, Result.andThen_ok, invoke]
    simpa using hy
  rw [show (FW none).round = none from rfl, Oper.semAt_none, hrun]
  simp only [Oper.uponIn]
  refine ⟨fun h0 => absurd h0 Bool.false_ne_true, RoundIn.mono hR ?_⟩
  rintro e w' ⟨b, rfl, hb⟩
  exact hK _ _ (h b w' hb _ _ ((s.vals (w' := w')).push (Ext.refl _) (dst := some d) (r := .val (.bool b)) (fun d' hd' => by cases hd'; exact hd) (.inr rfl)))
def DsOK (B : Nat) : List Deferred → World → Prop
  | [], _ => True
  | d :: ds, w => (∃ D, B ≤ D ∧ d = { target := .collected D, args := #[] } ∧ w.heap[D]? = some (.deferred (some [])) ∧ ∀ D', { target := .collected D', args := #[] } ∈ ds → D' ≠ D) ∧ DsOK B ds w
theorem DsOK.kept {B : Nat} : ∀ {ds : List Deferred} {w w' : World}, DsOK B ds w → KeepsFrom B w w' → DsOK B ds w'
  | [], _, _, _, _ => trivial
  | _ :: _, _, _, ⟨⟨D, h1, h2, h3, h4⟩, h⟩, k => ⟨⟨D, h1, h2, k.same _ _ h1 h3 rfl, h4⟩, h.kept k⟩
theorem DsOK.block {B : Nat} : ∀ {ds : List Deferred} {w : World}, DsOK B ds w → ∀ D', ({ target := .collected D', args := #[] } : Deferred) ∈ ds → w.heap[D']? = some (.deferred (some []))
  | [], _, _, _, hm => by cases hm
  | _ :: _, _, ⟨⟨D, h1, h2, h3, h4⟩, h⟩, D', hm => by
    rcases List.mem_cons.1 hm with hm | hm
    · rw [← hm] at h2
      have : D' = D := by injection h2 with e _; injection e
      rw [this]; exact h3
    · exact h.block D' hm
theorem DsOK.push {B D : Nat} {ds : List Deferred} {w' : World} (h : DsOK B ds w') (hB : B ≤ D) (hD : w'.heap[D]? = some (.deferred (some []))) (hlt : ∀ D', ({ target := .collected D', args := #[] } : Deferred) ∈ ds → D' ≠ D) :
    DsOK B ({ target := .collected D, args := #[] } :: ds) w' := ⟨⟨D, hB, rfl, hD, hlt⟩, h⟩
structure Dfd (B : Nat) (w w' : World) : Prop where
  os : w'.os = w.os
  tape : w'.tape = w.tape
  output : w'.output = w.output
  size : w'.heap.size = w.heap.size
  block : ∀ k o, (k < B ∨ o.isCells = true) → w.heap[k]? = some o → w'.heap[k]? = some o
theorem Dfd.refl (B : Nat) (w : World) : Dfd B w w := ⟨rfl, rfl, rfl, rfl, fun _ _ _ h => h⟩
theorem Dfd.put {B D : Nat} {w w' : World} (h : Dfd B w w') (hB : B ≤ D) (hD : ∃ x, w'.heap[D]? = some (.deferred x)) (x : Option (List Deferred)) : Dfd B w (w'.putObj D (.deferred x)) :=
  ⟨h.os, h.tape, h.output, by rw [World.putObj_size]; exact h.size, fun k o hk ho => by
    have h1 := h.block k o hk ho
    by_cases e : k = D
    · subst e
      obtain ⟨y, hy⟩ := hD
      rw [hy] at h1; cases h1
      rcases hk with hk | hk
      · omega
      · cases hk
    · rw [World.putObj_heap_other e]; exact h1⟩
theorem Dfd.below {B : Nat} {w w' : World} (h : Dfd B w w') (hB : B ≤ w.heap.size) : Below B w w' := ⟨h.os, h.tape, h.output, Nat.le_of_eq h.size.symm, fun k hk => by
  have hlt : k < w.heap.size := by omega
  rw [Array.getElem?_eq_getElem hlt, h.block k w.heap[k] (.inl hk) (Array.getElem?_eq_getElem hlt)]⟩
theorem leavesM {B : Nat} {fn : Func} {tmps : Array Value} {R : Ending → World → Prop} : ∀ (ds : List Deferred) (w w1 : World), Dfd B w1 w → DsOK B ds w →
    (∀ w', Dfd B w1 w' → ∃ v, (results fn tmps).run P w' = .ok v w' ∧ R (.returned v) w') → LeavesInM (FW none) n P fn tmps R ds .returning w
  | [], w, w1, hf, _, h => by
    obtain ⟨v, h1, h2⟩ := h w hf
    exact ⟨v, h1, h2⟩
  | d :: ds, w, w1, hf, ⟨⟨D, h1, h2, h3, h4⟩, hd⟩, h => by
    subst h2
    refine ⟨by simp, .inl ⟨D, _, rfl, run_takeDeferred h3, leavesM ds _ w1 (hf.put h1 ⟨_, h3⟩ none) ?_ h⟩⟩
    have key : ∀ (es : List Deferred), (∀ D', ({ target := .collected D', args := #[] } : Deferred) ∈ es → D' ≠ D) → DsOK B es w → DsOK B es (w.putObj D (.deferred none)) := by
      intro es
      induction es with
      | nil => intros; trivial
      | cons d' es ih =>
        rintro hne ⟨⟨D', g1, g2, g3, g4⟩, g5⟩
        refine ⟨⟨D', g1, g2, ?_, g4⟩, ih (fun D'' hm => hne D'' (List.mem_cons_of_mem _ hm)) g5⟩
        rw [World.putObj_heap_other (hne D' (by rw [g2]; exact List.mem_cons_self))]; exact g3
    exact key ds h4 hd
theorem Fc.ofM {f : FuncId} {fn : Func} {c : Code} {args : List Value} {w : World} {R : Ending → World → Prop} {kN : Nat} (hf : P.funcs[f]? = some fn) (hb : fn.body = some c) (hname : (fn.name == "runtime.NumGoroutine") = false) (hn : fn.ntmps = kN) (hle : args.length ≤ kN)
    (h : CX P ⟨kN, []⟩ w c (argEnv args 0) (bodyPostM (FW none) 3 P fn R)) : Fc P f args.toArray w R := by
  unfold Fc
  refine ⟨run_call_func hf hb hname, (callsIn_wide (n := 3)).1 (callsIn_of_wp_marks (F := Fence.wide) hf hb trivial ((wpIn_wide (n := 3)).2 ?_))⟩
  unfold CX at h
  refine h _ _ ⟨?_, rfl, Ext.refl _, ?_⟩
  · simp [hn]; omega
  · refine sat_of_all _ (fun d r hm => argEnv_ok _ args 0 (fun k v hk => ?_) d r hm w)
    have hlt := (List.getElem?_eq_some_iff.1 hk).1
    have hv := (List.getElem?_eq_some_iff.1 hk).2
    simp only [Nat.zero_add, Array.getD_eq_getD_getElem?]
    rw [Array.getElem?_append_left (by simpa using hlt)]
    simp [hlt, hv]
theorem results_cell1 {fn : Func} {p : Tmp} {b : Nat} {e : TypeId} {cs : Array Value} {j : Nat × Nat} {c : Value} {tmps : Array Value} {w : World} (hr : fn.results = #[.cell p t]) (hp : tmps.getD p undef = .pointer (some ⟨b, 0, none⟩)) (hb : w.heap[b]? = some (.cells cs e j)) (hl : (loadVar t ⟨b, 0, none⟩).run P w = .ok c w) :
    (results fn tmps).run P w = .ok c w := by
  have hp' : tmps[p]?.getD undef = .pointer (some ⟨b, 0, none⟩) := by simpa using hp
  simp [results, hr, hp', asAddr, hl]
theorem PX_retM {fn : Func} {w0 : World} {p b : Nat} {e : TypeId} {dsc : TypeDesc} {v : Value} (hr : fn.results = #[.cell p t]) (hl : lkE E p = .val (.pointer (some ⟨b, 0, none⟩))) (hb : wb.heap[b]? = some (.cells #[v] e (0, 0)))
    (hload : ∀ w, w.heap[b]? = some (.cells #[v] e (0, 0)) → (loadVar t ⟨b, 0, none⟩).run P w = .ok v w) (he : Ext w0 wb) (hD : DsOK w0.heap.size N.ds wb) {ex : Exit} (hx : ex = .normal ∨ ex = .ret) :
    PX N wb (bodyPostM (FW none) n P fn (Ret w0 (.val v))) ex E := by
  have key : ∀ a w, St N wb E a w → LeavesInM (FW none) n P fn a.tmps (Ret w0 (.val v)) a.defers .returning w := fun a w s => by
    rw [s.df]
    refine leavesM (B := w0.heap.size) N.ds w w (Dfd.refl _ _) (hD.kept ⟨s.ext.size, fun k o _ ho _ => s.ext.block ho⟩) (fun w' hw' => ?_)
    have hp := s.sat p
    rw [hl] at hp
    have hb' : w'.heap[b]? = some (.cells #[v] e (0, 0)) := hw'.block b _ (.inr rfl) (s.ext.block hb)
    exact ⟨v, results_cell1 hr hp hb' (hload w' hb'), v, rfl, Below.trans (he.trans s.ext) (hw'.below (he.trans s.ext).size), rfl⟩
  unfold PX
  rcases hx with rfl | rfl <;> exact key
theorem Ext.grownBy {w w' : World} (h : Ext w w') : w.grownBy w' none := ⟨h.os, h.tape, h.output, h.size, fun k hk _ => Below.block h k hk⟩
theorem Ext.keeps {w w' : World} (h : Ext w w') (B : Nat) : KeepsFrom B w w' := ⟨h.size, fun _ _ _ ho _ => h.block ho⟩
theorem St.anyw {a : Act} {w w' : World} (s : St N w (LA.vals E) a w) : St N w' (LA.vals E) a w' := ⟨s.sz, s.df, Ext.refl _, fun t => by
  have h := s.sat t
  rw [vals_ok] at h ⊢
  revert h
  cases lkE E t <;> exact id⟩
def Asg (N : Nn) (W : World) (E₁ : Env) : Exit → Act → World → Prop := Exit.then (fun a' W' => Ext W W' ∧ St N W' (vals E₁) a' W') (fun _ _ _ => False)
theorem PX_asg {W : World} {E₁ : Env} (he : Ext W wb) (hs : Sub wb E (vals E₁)) : PX N wb (Asg N W E₁) .normal E := by
  unfold PX
  exact fun a w s => ⟨he.trans s.ext, (hs.st s).rebase⟩
theorem CX_range {α : Type} {p : Tmp} {assign body : Code} {gf : Nat} {lb : Array Value} {enc : α → Value} {Kp : World → World → Prop} {S Sp : List α → Prop} {M : Nat} (hp : p < N.n)
    (hg : opE E x = .val (.func (.func gf) #[] lb)) (eg : ∀ args w, (callFunc gf args).run P w = .ok (.enter gf args) w)
    (hseq : ∀ w, Ext wb w → SeqStopsK Fence.wide 2 P gf lb (fun x => #[enc x]) Kp S Sp M w) (hKt : ∀ {A B C : World}, Kp A B → Kp B C → Kp A C) (hKe : ∀ {A B : World}, Ext A B → Kp A B)
    (hKb : ∀ (W : World) (l : Nat) (o o' : Obj), wb.heap.size ≤ l → W.heap[l]? = some o → o.isCells = false → o.isWalk = false → Kp W (W.putObj l o'))
    (I : List α → World → Prop) (Ix : Code → List α → World → Prop) (hI : OwnFrom wb.heap.size I) (hIx : ∀ c, OwnFrom wb.heap.size (Ix c)) (h0 : ∀ w, Ext wb w → I [] w) (E₁ : α → Env)
    (hassign : ∀ (l : Nat) (u : α) (W : World), CY P ⟨N.n, []⟩ (some l) 1 W assign ((p, .val (enc u)) :: vals E) (Asg ⟨N.n, []⟩ W (E₁ u)))
    (hbody : ∀ (B l : Nat) (pre : List α) (u : α) (W : World), wb.heap.size ≤ B → I pre W → pre.length < M → CY P ⟨N.n, []⟩ (some l) 1 W body (vals (E₁ u)) (ownPostG B Kp I Ix (pre ++ [u]) W))
    (hdone : ∀ (D : Nat) (us : List α) (W : World), wb.heap.size ≤ D → S us → I us W → W.heap[D]? = some (.deferred (some [])) → PX ⟨N.n, { target := .collected D, args := #[] } :: N.ds⟩ W Q .normal (vals E))
    (hstop : ∀ (D : Nat) (c : Code) (pre : List α) (W : World), wb.heap.size ≤ D → Sp pre → Ix c pre W → W.heap[D]? = some (.deferred (some [])) → CX P ⟨N.n, { target := .collected D, args := #[] } :: N.ds⟩ W c (vals E) Q) :
    CX P N wb (.rangeFunc x #[p] assign body) E Q := by
  unfold CX
  intro a w s
  have e1 := s.opd x; rw [hg] at e1; simp only [AD.ok] at e1
  have hle := s.ext.size
  have hI' : ∀ {β : Type} {J : β → World → Prop}, OwnFrom wb.heap.size J → OwnFrom w.heap.size J := fun h s' W W' row hs hg hr => h s' W W' row hs hg (fun r e => ⟨Nat.le_trans hle (hr r e).1, (hr r e).2⟩)
  have sv : ∀ (W : World) (u : Value), St ⟨N.n, []⟩ W ((p, .val u) :: vals E) { tmps := a.tmps.setIfInBounds p u, defers := [] } W := fun W u => by
    have s0 := s.vals (w' := W)
    have s1 : St ⟨N.n, []⟩ W (vals E) { tmps := a.tmps, defers := [] } W := ⟨s0.sz, rfl, s0.ext, s0.sat⟩
    exact s1.push (Ext.refl _) (dst := some p) (r := .val u) (fun d' hd' => by cases hd'; exact hp) (.inr rfl)
  refine (wpIn_wide (n := 3)).1 (wpIn_rangeFunc_ownH (F := Fence.wide) (n := 3) rfl (by decide) e1 trivial eg (hseq w s.ext) (fun h k => hKt h k) (fun W l o o' hl => hKb W l o o' (Nat.le_trans hle hl)) (Below.refl _ _) (fun _ => rfl)
    I Ix (hI' hI) (fun c => hI' (hIx c)) (h0 w s.ext) (fun u a' W => St ⟨N.n, []⟩ W (vals (E₁ u)) a' W) (fun u a' _ W W' row hs _ _ => hs.anyw) ?_ ?_ ?_ ?_)
  · intro l pre u W K hi hK
    have h1 := hassign l u W _ _ (sv W (enc u))
    rw [show ({ tmps := a.tmps.setIfInBounds p (enc u), defers := [] } : Act) = { tmps := (#[p].zip #[enc u]).foldl (fun t (p, v) => t.setIfInBounds p v) a.tmps, defers := [] } by simp] at h1
    refine wpIn_mono h1 ?_
    rintro e a' W' h
    cases e <;> simp only [Asg, Exit.then] at h
    case normal =>
      refine hK a' W' (h.1.keeps _) (hKe h.1) ?_ h.2
      exact hI pre W W' none hi h.1.grownBy (fun r e => by cases e)
  · intro l pre u a' W hl hr hi hax hlen
    exact hbody _ l pre u W hle hi hlen a' W hax
  · intro D us W hD hS hi hd
    have h1 := hdone D us W (Nat.le_trans hle hD) hS hi hd
    unfold PX at h1
    have s0 := s.vals (w' := W)
    exact h1 _ _ ⟨s0.sz, by show _ :: a.defers = _; rw [s.df], s0.ext, s0.sat⟩
  · intro D c pre W hD hS hi hd
    have h1 := hstop D c pre W (Nat.le_trans hle hD) hS hi hd
    unfold CX at h1
    have s0 := s.vals (w' := W)
    exact (wpIn_wide (n := 3)).2 (h1 _ _ ⟨s0.sz, by show _ :: a.defers = _; rw [s.df], s0.ext, s0.sat⟩)
def KpT (w0 : World) (bad : TypeId → Bool) (W W' : World) : Prop := (Ext w0 W → Ext w0 W') ∧ W.heap.size ≤ W'.heap.size ∧ ∀ (k : Nat) (cs : Array Value) (t : TypeId) (j : Nat × Nat), bad t = false → W.heap[k]? = some (.cells cs t j) → W'.heap[k]? = some (.cells cs t j)
theorem KpT.trans {w0 : World} {bad : TypeId → Bool} {A B C : World} (h : KpT w0 bad A B) (k : KpT w0 bad B C) : KpT w0 bad A C := ⟨fun e => k.1 (h.1 e), Nat.le_trans h.2.1 k.2.1, fun i cs t j hb hi => k.2.2 i cs t j hb (h.2.2 i cs t j hb hi)⟩
theorem KpT.ext {w0 : World} {bad : TypeId → Bool} {A B : World} (h : Ext A B) : KpT w0 bad A B := ⟨fun e => e.trans h, h.size, fun _ _ _ _ _ hi => h.block hi⟩
theorem KpT.putObj {w0 : World} {bad : TypeId → Bool} {W : World} {l : Nat} {o : Obj} (o' : Obj) (hl : w0.heap.size ≤ l) (h : W.heap[l]? = some o) (hc : o.isCells = false) : KpT w0 bad W (W.putObj l o') :=
  ⟨fun e => Below.grown e (grownBy_putObj' W l o') e.size (fun k e' => by cases e'; exact hl), by rw [World.putObj_size]; exact Nat.le_refl _, fun k cs t j _ hk => by
    rw [World.putObj_heap_other (fun e' => by subst e'; rw [h] at hk; cases hk; cases hc)]; exact hk⟩
def CutN {ι : Type} (Nf : ι → Nn) (J : ι → Env) (I : ι → World → Prop) : Act → World → Prop := fun a w => ∃ i, I i w ∧ St (Nf i) w (J i) a w
theorem PX_cutN {ι : Type} {Nf : ι → Nn} {J : ι → Env} {I : ι → World → Prop} (i : ι) (h : ∀ w, Ext wb w → I i w) (hN : Nf i = N) (hs : Sub wb E (J i)) : PX N wb (Exit.then (CutN Nf J I) Q) .normal E := by
  unfold PX
  intro a w s
  exact ⟨i, h w s.ext, by rw [hN]; exact (hs.st s).rebase⟩
theorem kp_fr {R : Nat → Prop} {w0 W W' : World} {bad : TypeId → Bool} (hf : Fr R W W') (hx : Ext w0 W → Ext w0 W') (hR : ∀ k, R k → ∃ (cur : Array Value) (e : TypeId) (j : Nat × Nat), W.heap[k]? = some (.cells cur e j) ∧ bad e = true) : KpT w0 bad W W' ∧ ∀ B, KeepsFrom B W W' := by
  refine ⟨⟨hx, hf.size, fun k cs t j hb hk => hf.at hk fun hr => ?_⟩, fun B => ⟨hf.size, fun k o _ hk ho => hf.at hk fun hr => ?_⟩⟩
  · obtain ⟨cur, e, j', h1, h2⟩ := hR k hr
    rw [hk] at h1; cases h1; rw [hb] at h2; cases h2
  · obtain ⟨cur, e, j', h1, h2⟩ := hR k hr
    rw [hk] at h1; cases h1; cases ho
theorem kept_ext {W W' w0 : World} {row : Option Nat} {B : Nat} (h : Ext w0 W) (hB : w0.heap.size ≤ B) (hg : W.grownBy W' row) (hr : ∀ r, row = some r → B ≤ r) : Ext w0 W' := Ext.grown h hg (fun k hk => Nat.le_trans hB (hr k hk))
end
attribute [irreducible] CY LY
end Go.LA
end
section
set_option linter.unusedSimpArgs false
set_option linter.unusedVariables false
namespace Go.LA
open Go.RowKit
section
variable {P : Program} {N : Nn} {wb : World} {E : Env} {Q : Exit → Act → World → Prop} {c : Code} {t : TypeId}
theorem load_one {b : Nat} {e : TypeId} {v : Value} (ht : ∀ w, (isAgg t).run P w = .ok false w) (w : World) (h : w.heap[b]? = some (.cells #[v] e (0, 0))) : (loadVar t ⟨b, 0, none⟩).run P w = .ok v w := by
  have hc : w.cell? ⟨b, 0, none⟩ = some v := by rw [cell_of_row w b 0 #[v] e (0, 0) h]; rfl
  simp only [loadVar, Sem.run_bind, ht, Result.andThen_ok, Bool.false_eq_true, if_false, run_load, hc]
theorem CX_regN {ι : Type} {id : Nat} {l : Array Oper} {m : Bool} {c' : Code} (Nf : ι → Nn) (J : ι → Env) (I : ι → World → Prop) (h1 : CX P N wb (.region id l m) E (Exit.then (CutN Nf J I) Q)) (h2 : ∀ i w, I i w → CX P (Nf i) w c' (J i) Q) : CX P N wb (.seq (.region id l m) c') E Q := by
  unfold CX at h1 h2 ⊢
  intro a w s
  refine wp_seq (wp_mono (h1 a w s) ?_)
  intro e a' w' h
  cases e <;> simp only [Exit.then] at h ⊢ <;> first | exact h | skip
  obtain ⟨i, hi, hs⟩ := h
  exact h2 i w' hi a' w' hs
theorem PX_okM {n : Nat} {fn : Func} {w w1 w4 : World} {b : Nat} {p : Tmp} {e : TypeId} {x : Bool} (hr : fn.results = #[.cell p t]) (hl : lkE E p = .val (.pointer (some ⟨b, 0, none⟩))) (ht : ∀ w, (isAgg t).run P w = .ok false w) (h1 : w1.heap[b]? = some (.cells #[.bool x] e (0, 0))) (hb : w.heap.size ≤ b) (he : Ext w w1) (e4 : Ext w1 w4) (hD : DsOK w.heap.size N.ds w1) (y : Bool) :
    PX N (w4.setRow b (#[.bool x].setIfInBounds 0 (.bool y))) (bodyPostM (FW none) n P fn (Ret w (.val (.bool y)))) .ret E := by
  have hf : Fr (fun k => k = b) w1 (w4.setRow b #[.bool y]) := Fr.setRow (R := fun k => k = b) (Fr.of e4) rfl _
  have hk := (kp_fr (w0 := w) (bad := fun _ => true) hf (fun h => Fr.ext h hf (fun k hk => by subst hk; exact hb)) (fun k hk => by subst hk; exact ⟨_, _, _, h1, rfl⟩)).2
  refine PX_retM (e := e) (dsc := .bool) hr hl (setRow_heap w4 b _ _ _ _ (e4.block h1)) (fun w h => load_one ht w h) ((he.trans e4).setRow hb _) (hD.kept (hk _)) (.inr rfl)
end
end Go.LA
end
section
set_option linter.unusedSimpArgs false
set_option linter.unusedVariables false
namespace Go.LA
open Go.RowKit Go.ArrP
theorem listS_key {p : Nat → Bool} {i j : Nat} (hi : i < nk p) (hj : j < cnt (blk p (kp p i)) 65536) : ∃ r : Nat, r < 65536 ∧ (listS (blk p (kp p i)) 65536).getD j 0 = (r : Int) ∧ cnt p (kp p i * 65536) + j < cnt p TOP ∧
    (listS p TOP).getD (cnt p (kp p i * 65536) + j) 0 = (kp p i : Int) * 65536 + r ∧ kp p i < 65536 := by
  obtain ⟨r, h1, h2, h3, h4⟩ := getD_listS (blk p (kp p i)) (n := 65536) (k := j) hj
  have hk := (kp_at hi).1
  have htop := TOP_eq
  have hp : p (kp p i * 65536 + r) = true := by rw [← blk_at (p := p) (k := kp p i) h1]; exact h2
  have hc : cnt p (kp p i * 65536 + r) = cnt p (kp p i * 65536) + j := by rw [cnt_blk p _ r (by omega), h3]
  have hlt : kp p i * 65536 + r < TOP := by omega
  have hs : cnt p (kp p i * 65536 + r + 1) = cnt p (kp p i * 65536 + r) + 1 := by simp only [cnt, hp, if_true]
  have hm := cnt_mono p (m := kp p i * 65536 + r + 1) TOP (by omega)
  refine ⟨r, h1, h4, by omega, ?_, hk⟩
  rw [← hc, listS_at p TOP _ hlt hp]
  omega
theorem take_more {l : List Int} {m : Nat} (h : m < l.length) : l.take (m + 1) = l.take m ++ [l.getD m 0] := by
  rw [List.take_succ_eq_append_getElem h, List.getD_eq_getElem?_getD, List.getElem?_eq_getElem h]; rfl
theorem OwnI.kp {base e : Nat} {k : IntKind} {w0 w w' : World} {v : Value} {xs : List Int} {bad : TypeId → Bool} (h : OwnI base e k w v xs) (hk : KpT w0 bad w w') (hb : bad e = false) : OwnI base e k w' v xs := by
  refine ⟨h.1, ?_⟩
  rcases h.2 with hn | ⟨g, cap, cur, h1, h2, h3, h4⟩
  · exact .inl hn
  · exact .inr ⟨g, cap, cur, h1, h2, hk.2.2 g cur e (0, 0) hb h3, h4⟩
abbrev U32 := { x : Int // 0 ≤ x ∧ x < 4294967296 }
abbrev vU (l : List U32) : List Int := l.map (fun x => x.1)
section
variable {P : Program} {l : List Oper} {N : Nn} {wb : World} {K : List Oper → Env → Prop} {rest : List Oper} {E : Env} {Q : Exit → Act → World → Prop}
variable {d : Tmp} {ty t t' : TypeId} {pos : String} {after : Array Edge} {g : Option (Nat × Bool)} {x y z : Operand}
theorem LA_makeFunc1 {f : Fn} {c : Value} (hg : gdec l E g = some true) (hx : opE E x = .val c) (h : LA P l wb K rest ((d, .val (.func f #[] #[c])) :: E)) :
    LA P l wb K (⟨some d, .makeFunc f #[] #[x], ty, pos, after, g⟩ :: rest) E :=
  LA_of _ hg (OB_val fun a w he hh => by
    have h1 := hh x (by simp [Op.operands])
    rw [hx] at h1; simp only [AD.ok] at h1
    have hrun : (Instr.makeFunc f #[] #[c]).run P w = .ok (.func f #[] #[c]) w := rfl
    simp only [execOp, List.map_toArray, List.map_cons, List.map_nil, h1, Sem.run_bind, hrun, Result.andThen_ok, Sem.run_pure]) h
end
theorem YieldAt.imp {F : Fence} {n : Nat} {P : Program} {l : Nat} {args : Array Value} {W : World} {R R' : Ending → World → Prop} (h : YieldAt F n P l args W R) (hr : ∀ e w, R e w → R' e w) : YieldAt F n P l args W R' := by
  obtain ⟨fn, tmps, assign, body, h1, h2⟩ := h
  exact ⟨fn, tmps, assign, body, h1, h2.mono hr⟩
end Go.LA
end
