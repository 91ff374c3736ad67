import Derived.Sort.AssemblyPlain
import Derived.Laws.Bits64
import Derived.Laws.Bits64b
import Derived.Test.YtfcioiobhpcngaaGreatDoorM5
import Derived.Test.YtfcioiobhpcngaaGreatDoorM6
import Derived.Test.YtfcioiobhpcngaaGreatDoorM7
section
set_option linter.unusedVariables false
namespace Go.LA
open Go.RowKit
section
variable {P : Program} {l : List Oper} {M : List Nat} {N : Nn} {ws wb : World} {K : List Oper → Env → Prop} {rest : List Oper} {E : Env} {Q : Exit → Act → World → Prop} {m : Nat} {C : World → Env → Prop}
variable {d : Tmp} {ty t t' : TypeId} {pos : String} {after : Array Edge} {g : Option (Nat × Bool)} {x y z : Operand} {k kd : IntKind}
theorem LA_ixD {b n cap : Nat} {e : TypeId} {i : Int} (hg : gdec l E g = some true) (ht : P.underlying t = some (.slice e)) (hs : ∀ w, (sizeOf e).run P w = .ok 1 w) (hx : opE E x = .val (.slice (some ⟨b, 0, none⟩) n cap))
    (hy : opE E y = .val (.int k i)) (j : Nat) (hj : i = (j : Int)) (hn : j < n) (h : LA P l wb K rest ((d, .val (.pointer (some ⟨b, j, none⟩))) :: E)) : LA P l wb K (⟨some d, .indexAddr t x y, ty, pos, after, g⟩ :: rest) E := by
  refine LA_indexS hg ht hs hx hy (by omega) (by omega) ?_
  rw [hj, Int.toNat_natCast, Nat.mul_one, Nat.zero_add]; exact h
theorem LA_ldD {base e b n cap j : Nat} {xs : List Int} (ho : OwnI base e kd wb (.slice (some ⟨b, 0, none⟩) n cap) xs) (hg : gdec l E g = some true) (ht : ∀ w, (isAgg t).run P w = .ok false w) (hx : opE E x = .val (.pointer (some ⟨b, j, none⟩))) (hj : j < xs.length)
    (h : LA P l wb K rest ((d, .val (.int kd (xs.getD j 0))) :: E)) : LA P l wb K (⟨some d, .load t x, ty, pos, after, g⟩ :: rest) E := by
  obtain ⟨b', cap', cur, hv, -, hb, -, -, -, hcur⟩ := ho.row (by omega)
  cases hv
  exact LA_loadB hg ht hx hb (row_at hcur hj) h
theorem MX_setI {w0 : World} {e b n cap j : Nat} {c : Int} {xs : List Int} (hm : l[m]? = some ⟨none, .store t x y, ty, pos, after, none⟩) (he : Ext w0 ws) (ho : OwnI w0.heap.size e kd ws (.slice (some ⟨b, 0, none⟩) n cap) xs)
    (hx : opE E x = .val (.pointer (some ⟨b, j, none⟩))) (hy : opE E y = .val (.int kd c)) (hj : j < xs.length) (hs : ∀ w, (sizeOf t).run P w = .ok 1 w)
    (h : ∀ w', Ext w0 w' → OwnI w0.heap.size e kd w' (.slice (some ⟨b, 0, none⟩) n cap) (xs.set j c) → C w' (vals E)) : MX P N l Q m ws E C := by
  obtain ⟨b', cap', cur, hv, hb0, hb, hnc, hcm, hsz, hcur⟩ := ho.row (by omega)
  cases hv
  have e3 : (cur.toList.take j ++ [Value.int kd c] ++ cur.toList.drop (j + [Value.int kd c].length)).toArray = cur.setIfInBounds j (.int kd c) := by
    apply Array.ext'
    rw [Array.toList_setIfInBounds, List.set_eq_take_append_cons_drop, if_pos (by simp; omega)]
    simp
  refine MX_store (news := [.int kd c]) hm hx hy hb rfl hs (by simp; omega) (by simp [Value.oneCell']) (fun w hw => ⟨_, fun t u hu => vals_keep t u hu, ?_⟩)
  rw [e3]
  exact h _ ((he.trans hw).setRow hb0 _) (OwnI.set hb0 (hw.block hb) hnc hcm hsz hcur j hj c)
variable {q s4 : Operand}
theorem LX_do3 {f : FuncId} {ats : Array TypeId} {fv : Operand} {v1 v2 v3 : Value} (R : World → Prop) (hc : ∀ w, Ext wb w → Fc P f #[v1, v2, v3] w (fun e w' => e = .returned (.tuple #[]) ∧ R w')) (hg : g = none) (hd : d < N.n) (hfv : opE E fv = .val (.func (.func f) #[] #[])) (hv1 : opE E x = .val v1) (hv2 : opE E y = .val v2) (hv3 : opE E z = .val v3)
    (h : ∀ w, R w → LX P N w l Q rest ((d, .val (.tuple #[])) :: vals E)) : LX P N wb l Q (⟨some d, .call ⟨.value fv, #[x, y, z], ats⟩, ty, pos, after, g⟩ :: rest) E :=
  LX_call3 hg hd hfv hv1 hv2 hv3 (fun v w => v = .tuple #[] ∧ R w) (fun w e => (hc w e).mono fun e' w' ⟨h1, h2⟩ => ⟨_, h1, rfl, h2⟩) (fun v w hv => by obtain ⟨rfl, hw⟩ := hv; exact h w hw)
theorem LX_do4 {f : FuncId} {ats : Array TypeId} {fv : Operand} {v1 v2 v3 v4 : Value} (R : World → Prop) (hc : ∀ w, Ext wb w → Fc P f #[v1, v2, v3, v4] w (fun e w' => e = .returned (.tuple #[]) ∧ R w')) (hg : g = none) (hd : d < N.n) (hfv : opE E fv = .val (.func (.func f) #[] #[])) (hv1 : opE E x = .val v1) (hv2 : opE E y = .val v2) (hv3 : opE E z = .val v3) (hv4 : opE E q = .val v4)
    (h : ∀ w, R w → LX P N w l Q rest ((d, .val (.tuple #[])) :: vals E)) : LX P N wb l Q (⟨some d, .call ⟨.value fv, #[x, y, z, q], ats⟩, ty, pos, after, g⟩ :: rest) E :=
  LX_call4 hg hd hfv hv1 hv2 hv3 hv4 (fun v w => v = .tuple #[] ∧ R w) (fun w e => (hc w e).mono fun e' w' ⟨h1, h2⟩ => ⟨_, h1, rfl, h2⟩) (fun v w hv => by obtain ⟨rfl, hw⟩ := hv; exact h w hw)
theorem CX_seqB {c c' : Code} (k : Nat) (E' : Env) (h1 : CX P N wb (.block k c) E (Exit.then (Cut N wb E') Q)) (h2 : CX P N wb c' E' Q) : CX P N wb (.seq (.block k c) c') E Q := CX_seqC E' h1 h2
end
open Go.Sort
theorem swp_size (D : Array Int) (i j : Nat) : (swp D i j).size = D.size := by unfold swp; simp
theorem half_int (h : Nat) (hb : h < 4611686018427387904) : IntKind.i64.wrap (((h : Int) - 1).tdiv 2) = (((h - 1) / 2 : Nat) : Int) := by
  cases h with
  | zero => decide
  | succ h =>
    rw [show (((h + 1 : Nat) : Int) - 1) = (h : Int) by omega, show h + 1 - 1 = h by omega, Int.tdiv_eq_ediv_of_nonneg (by omega), wrap_fits .i64 _ (by dsimp only [fits]; omega)]
    omega
theorem sift_go {lt : Int → Int → Bool} {hi first r c : Nat} {d : Array Int} (h : ¬ 2 * r + 1 ≥ hi) (hc : c = if (decide (2 * r + 1 + 1 < hi) && lt d[first + (2 * r + 1)]! d[first + (2 * r + 1) + 1]!) = true then 2 * r + 2 else 2 * r + 1) :
    siftDown lt hi first r d = if lt d[first + r]! d[first + c]! then siftDown lt hi first c (swp d (first + r) (first + c)) else d := by
  rw [siftDown, dif_neg h]
  by_cases hh : (decide (2 * r + 1 + 1 < hi) && lt d[first + (2 * r + 1)]! d[first + (2 * r + 1) + 1]!) = true
  · rw [if_pos hh] at hc ⊢
    subst hc
    have h2 : 2 * r + 2 < hi := by simp at hh; omega
    cases hl : lt d[first + r]! d[first + (2 * r + 2)]!
    · simp
    · simp [h2]
  · rw [if_neg hh] at hc ⊢
    subst hc
    cases hl : lt d[first + r]! d[first + (2 * r + 1)]!
    · simp
    · simp
theorem sift_size {lt : Int → Int → Bool} {hi first : Nat} : ∀ (m r : Nat) (d : Array Int), hi - r ≤ m → (siftDown lt hi first r d).size = d.size
  | 0, r, d, h => by rw [siftDown, dif_pos (by omega)]
  | m + 1, r, d, h => by
    by_cases hr : 2 * r + 1 ≥ hi
    · rw [siftDown, dif_pos hr]
    · obtain ⟨c, hc⟩ : ∃ c, c = if (decide (2 * r + 1 + 1 < hi) && lt d[first + (2 * r + 1)]! d[first + (2 * r + 1) + 1]!) = true then 2 * r + 2 else 2 * r + 1 := ⟨_, rfl⟩
      have hlt : r < c := by rw [hc]; split <;> omega
      rw [sift_go hr hc]
      cases hl : lt d[first + r]! d[first + c]!
      · rfl
      · simp only [if_true]
        rw [sift_size m c _ (by omega), swp_size]
theorem scanUp_go {p : Int → Bool} {d : Array Int} {i j : Nat} (h : i ≤ j) (hp : p d[i]! = true) : scanUp p d j i = scanUp p d j (i + 1) := by
  conv => lhs; rw [scanUp]
  rw [if_pos (by simp [h, hp])]
theorem scanUp_stop {p : Int → Bool} {d : Array Int} {i j : Nat} (h : ¬ i ≤ j ∨ p d[i]! = false) : scanUp p d j i = i := by
  rw [scanUp, if_neg (by rcases h with h | h <;> simp [h])]
theorem scanDown_go {p : Int → Bool} {d : Array Int} {i j : Nat} (h : i ≤ j + 1) (hp : p d[j + 1]! = true) : scanDown p d i (j + 1) = scanDown p d i j := by
  rw [scanDown, if_pos (by simp [h, hp])]
theorem scanDown_stop {p : Int → Bool} {d : Array Int} {i j : Nat} (h : ¬ i ≤ j ∨ p d[j]! = false) : scanDown p d i j = j := by
  cases j with
  | zero => rfl
  | succ j => rw [scanDown, if_neg (by rcases h with h | h <;> simp [h])]
theorem scanUp_bd (p : Int → Bool) (d : Array Int) (j : Nat) : ∀ (m i : Nat), j + 1 - i ≤ m → i ≤ scanUp p d j i ∧ scanUp p d j i ≤ max i (j + 1)
  | 0, i, h1 => by rw [scanUp_stop (i := i) (j := j) (.inl (by omega))]; omega
  | m + 1, i, h1 => by
    by_cases h : i ≤ j
    · cases hp : p d[i]!
      · rw [scanUp_stop (.inr hp)]; omega
      · rw [scanUp_go h hp]; have := scanUp_bd p d j m (i + 1) (by omega); omega
    · rw [scanUp_stop (.inl h)]; omega
theorem scanDown_bd (p : Int → Bool) (d : Array Int) (i : Nat) : ∀ (j : Nat), (i ≤ scanDown p d i j + 1 ∨ scanDown p d i j = j) ∧ scanDown p d i j ≤ j
  | 0 => by rw [scanDown]; omega
  | j + 1 => by
    by_cases h1 : i ≤ j + 1
    · cases hp : p d[j + 1]!
      · rw [scanDown_stop (.inr hp)]; omega
      · rw [scanDown_go h1 hp]; have := scanDown_bd p d i j; omega
    · rw [scanDown_stop (.inl h1)]; omega
theorem part_eq {lt : Int → Int → Bool} {D0 D : Array Int} {lo hi pv i2 j2 : Nat} (hD : D = swp D0 lo pv) (hi2 : i2 = scanUp (fun x => lt x D[lo]!) D (hi - 1) (lo + 1)) (hj2 : j2 = scanDown (fun x => !lt x D[lo]!) D i2 (hi - 1)) :
    partition lt D0 lo hi pv = if i2 > j2 then (j2, true, swp D j2 lo) else ((partLoop lt lo (i2 + 1) (j2 - 1) (swp D i2 j2)).1, false, swp (partLoop lt lo (i2 + 1) (j2 - 1) (swp D i2 j2)).2 (partLoop lt lo (i2 + 1) (j2 - 1) (swp D i2 j2)).1 lo) := by
  subst hj2 hi2 hD; rfl
theorem partLoop_eq {lt : Int → Int → Bool} {d : Array Int} {a i j i2 j2 : Nat} (hi2 : i2 = scanUp (fun x => lt x d[a]!) d j i) (hj2 : j2 = scanDown (fun x => !lt x d[a]!) d i2 j) (h1 : 1 ≤ i) :
    partLoop lt a i j d = if i2 > j2 then (j2, d) else partLoop lt a (i2 + 1) (j2 - 1) (swp d i2 j2) := by
  have b1 := scanUp_bd (fun x => lt x d[a]!) d j _ i (Nat.le_refl _)
  have b2 := scanDown_bd (fun x => !lt x d[a]!) d i2 j
  rw [← hi2] at b1; rw [← hj2] at b2
  rw [partLoop]
  simp only [← hi2, ← hj2]
  by_cases h : i2 > j2
  · rw [if_pos h, if_pos h]
  · rw [if_neg h, if_neg h, dif_pos (by omega)]
theorem partEqLoop_eq {lt : Int → Int → Bool} {d : Array Int} {a i j i2 j2 : Nat} (hi2 : i2 = scanUp (fun x => !lt d[a]! x) d j i) (hj2 : j2 = scanDown (fun x => lt d[a]! x) d i2 j) (h1 : 1 ≤ i) :
    partEqLoop lt a i j d = if i2 > j2 then (i2, d) else partEqLoop lt a (i2 + 1) (j2 - 1) (swp d i2 j2) := by
  have b1 := scanUp_bd (fun x => !lt d[a]! x) d j _ i (Nat.le_refl _)
  have b2 := scanDown_bd (fun x => lt d[a]! x) d i2 j
  rw [← hi2] at b1; rw [← hj2] at b2
  rw [partEqLoop]
  simp only [← hi2, ← hj2]
  by_cases h : i2 > j2
  · rw [if_pos h, if_pos h]
  · rw [if_neg h, if_neg h, dif_pos (by omega)]
theorem getA {D : Array Int} {i : Nat} : D.toList.getD i 0 = D[i]! := by
  by_cases h : i < D.size
  · simp [List.getD, h]
  · simp [List.getD, h, getElem!_neg]
theorem swp_list (D : Array Int) (i j : Nat) : (D.toList.set i D[j]!).set j D[i]! = (swp D i j).toList := by
  unfold swp; simp
theorem len_toL (D : Array Int) : D.toList.length = D.size := Array.length_toList
end Go.LA
end
section
set_option linter.unusedVariables false
namespace Go.LA
variable {P : Program} {N : Nn} {wb : World} {E : Env} {Q : Exit → Act → World → Prop}
theorem CX_seqW {id : Nat} {l : Array Oper} {m : Bool} {c1 c' : Code} {ι : Type} (J : ι → Env) (I : ι → World → Prop) (h1 : CX P N wb (.seq (.region id l m) c1) E (Exit.then (RndW N J I (fun _ => 0) 1) Q)) (h2 : ∀ i w, I i w → CX P N w c' (J i) Q) : CX P N wb (.seq (.seq (.region id l m) c1) c') E Q := by
  refine CX_seq ?_
  unfold CX at *
  intro a w s
  refine Code.wp_mono ?_ (h1 a w s)
  intro e a' w' h
  cases e with
  | normal => obtain ⟨i, ⟨h3, h4⟩, -⟩ := h; exact h2 i w' h3 a' w' h4
  | exit id => exact h
  | ret => exact h
  | goto l => exact h
  | panic v => exact h
  | outgrown => exact h
end Go.LA
namespace Go.Sort
theorem scanSorted_go {lt : Int → Int → Bool} {d : Array Int} {b i : Nat} (h : i < b) (hp : lt d[i]! d[i - 1]! = false) : scanSorted lt d b i = scanSorted lt d b (i + 1) := by
  rw [scanSorted, if_pos (by simp [h, hp])]
theorem scanSorted_stop {lt : Int → Int → Bool} {d : Array Int} {b i : Nat} (h : ¬ i < b ∨ lt d[i]! d[i - 1]! = true) : scanSorted lt d b i = i := by
  rw [scanSorted, if_neg (by rcases h with h | h <;> simp [h])]
theorem scanSorted_bd {lt : Int → Int → Bool} {d : Array Int} {b : Nat} : ∀ (m i : Nat), b - i ≤ m → i ≤ b → i ≤ scanSorted lt d b i ∧ scanSorted lt d b i ≤ b
  | m, i, hm, hi => by
    by_cases h : i < b
    · cases hp : lt d[i]! d[i - 1]!
      · rw [scanSorted_go h hp]
        cases m with
        | zero => omega
        | succ m => have := scanSorted_bd (lt := lt) (d := d) (b := b) m (i + 1) (by omega) (by omega); omega
      · rw [scanSorted_stop (.inr hp)]; exact ⟨Nat.le_refl _, hi⟩
    · rw [scanSorted_stop (.inl h)]; exact ⟨Nat.le_refl _, hi⟩
theorem shiftDown_size {lt : Int → Int → Bool} : ∀ (j : Nat) (d : Array Int), (shiftDown lt j d).size = d.size
  | 0, d => rfl
  | j + 1, d => by
    rw [shiftDown]; split
    · rfl
    · rw [shiftDown_size j, swp_size]
theorem shiftUp_go {lt : Int → Int → Bool} {d : Array Int} {b j : Nat} (h : j < b) (hp : lt d[j]! d[j - 1]! = true) : shiftUp lt b j d = shiftUp lt b (j + 1) (swp d j (j - 1)) := by
  rw [shiftUp, if_pos h, if_neg (by simp [hp])]
theorem shiftUp_stop {lt : Int → Int → Bool} {d : Array Int} {b j : Nat} (h : ¬ j < b ∨ lt d[j]! d[j - 1]! = false) : shiftUp lt b j d = d := by
  rw [shiftUp]
  rcases h with h | h
  · rw [if_neg h]
  · split
    · rw [if_pos (by simp [h])]
    · rfl
theorem shiftUp_size {lt : Int → Int → Bool} {b : Nat} : ∀ (m j : Nat) (d : Array Int), b - j ≤ m → (shiftUp lt b j d).size = d.size
  | m, j, d, hm => by
    by_cases h : j < b
    · cases hp : lt d[j]! d[j - 1]!
      · rw [shiftUp_stop (.inr hp)]
      · rw [shiftUp_go h hp]
        cases m with
        | zero => omega
        | succ m => rw [shiftUp_size m (j + 1) _ (by omega), swp_size]
    · rw [shiftUp_stop (.inl h)]
theorem pI_end {lt : Int → Int → Bool} {a b s i i3 : Nat} {d : Array Int} (hi : i3 = scanSorted lt d b i) (h : i3 = b) : partialIns lt a b (s + 1) i d = (d, true) := by
  rw [partialIns]; simp only [← hi]; rw [if_pos h]
theorem pI_short {lt : Int → Int → Bool} {a b s i i3 : Nat} {d : Array Int} (hi : i3 = scanSorted lt d b i) (h : ¬ i3 = b) (h2 : b - a < 50) : partialIns lt a b (s + 1) i d = (d, false) := by
  rw [partialIns]; simp only [← hi]; rw [if_neg h, if_pos h2]
theorem pI_go {lt : Int → Int → Bool} {a b s i i3 : Nat} {d D2 D3 D4 : Array Int} (hi : i3 = scanSorted lt d b i) (h : ¬ i3 = b) (h2 : ¬ b - a < 50) (e2 : D2 = swp d i3 (i3 - 1))
    (e3 : D3 = if i3 - a ≥ 2 then shiftDown lt (i3 - 1) D2 else D2) (e4 : D4 = if b - i3 ≥ 2 then shiftUp lt b (i3 + 1) D3 else D3) : partialIns lt a b (s + 1) i d = partialIns lt a b s i3 D4 := by
  subst e4 e3 e2
  rw [partialIns]; simp only [← hi]; rw [if_neg h, if_neg h2]
end Go.Sort
end
section
set_option linter.unusedVariables false
namespace Go.LA
open Go.RowKit
section
variable {P : Program} {l : List Oper} {M : List Nat} {N : Nn} {ws wb : World} {K : List Oper → Env → Prop} {rest : List Oper} {E : Env} {Q : Exit → Act → World → Prop} {m : Nat} {C : World → Env → Prop}
variable {d : Tmp} {ty t t' : TypeId} {pos : String} {after : Array Edge} {g : Option (Nat × Bool)} {x y z : Operand} {k kd : IntKind}
theorem OwnI.keepRow {base e e' b : Nat} {kd : IntKind} {w : World} {v : Value} {xs : List Int} {cur cs : Array Value} {j : Nat × Nat} (h : OwnI base e kd w v xs) (hb : w.heap[b]? = some (.cells cur e' j)) (hne : e ≠ e') : OwnI base e kd (w.setRow b cs) v xs := by
  refine ⟨h.1, ?_⟩
  rcases h.2 with hn | ⟨g, cap, cr, hv, hg, hx, r⟩
  · exact .inl hn
  · refine .inr ⟨g, cap, cr, hv, hg, ?_, r⟩
    rw [setRow_other w b g cs (fun he => ?_)]
    · exact hx
    · subst he
      rw [hx] at hb
      simp only [Option.some.injEq, Obj.cells.injEq] at hb
      exact hne hb.2.1
theorem MX_setJ {w0 : World} {e e2 b n cap j base2 : Nat} {c : Int} {xs ys : List Int} {kd2 : IntKind} {v2 : Value} (hm : l[m]? = some ⟨none, .store t x y, ty, pos, after, none⟩) (he : Ext w0 ws) (ho : OwnI w0.heap.size e kd ws (.slice (some ⟨b, 0, none⟩) n cap) xs)
    (ho2 : OwnI base2 e2 kd2 ws v2 ys) (hne : e2 ≠ e)
    (hx : opE E x = .val (.pointer (some ⟨b, j, none⟩))) (hy : opE E y = .val (.int kd c)) (hj : j < xs.length) (hs : ∀ w, (sizeOf t).run P w = .ok 1 w)
    (h : ∀ w', Ext w0 w' → OwnI w0.heap.size e kd w' (.slice (some ⟨b, 0, none⟩) n cap) (xs.set j c) → OwnI base2 e2 kd2 w' v2 ys → C w' (vals E)) : MX P N l Q m ws E C := by
  obtain ⟨b', cap', cur, hv, hb0, hb, hnc, hcm, hsz, hcur⟩ := ho.row (by omega)
  cases hv
  have e3 : (cur.toList.take j ++ [Value.int kd c] ++ cur.toList.drop (j + [Value.int kd c].length)).toArray = cur.setIfInBounds j (.int kd c) := by
    apply Array.ext'
    rw [Array.toList_setIfInBounds, List.set_eq_take_append_cons_drop, if_pos (by simp; omega)]
    simp
  refine MX_store (news := [.int kd c]) hm hx hy hb rfl hs (by simp; omega) (by simp [Value.oneCell']) (fun w hw => ⟨_, fun t u hu => vals_keep t u hu, ?_⟩)
  rw [e3]
  exact h _ ((he.trans hw).setRow hb0 _) (OwnI.set hb0 (hw.block hb) hnc hcm hsz hcur j hj c) ((ho2.ext hw).keepRow (hw.block hb) hne)
theorem LA_tab {s : ByteArray} {i : Int} (hg : gdec l E g = some true) (ht : P.underlying t = some .string) (hx : opE E x = .val (.string s)) (hy : opE E y = .val (.int k i)) (h0 : 0 ≤ i) (h1 : i < 256)
    (hs : ∀ j, j < 256 → s[j]? = some (UInt8.ofNat (Go.Sort.bitsLen j))) (h : ∀ v : Nat, v = Go.Sort.bitsLen i.toNat → v ≤ 8 → LA P l wb K rest ((d, .val (.int .u8 v)) :: E)) : LA P l wb K (⟨some d, .index t x y, ty, pos, after, g⟩ :: rest) E := by
  obtain ⟨j, rfl⟩ : ∃ j : Nat, i = j := ⟨i.toNat, by omega⟩
  have hb : Go.Sort.bitsLen j ≤ 8 := (Go.Sort.bitsLen_le_iff j 8).2 (by omega)
  refine LA_of _ hg (OB_val fun a w he hh => ?_) (h (Go.Sort.bitsLen j) (by simp) hb)
  have e1 := hh x (by simp [Op.operands]); have e2 := hh y (by simp [Op.operands])
  rw [hx] at e1; rw [hy] at e2; simp only [AD.ok] at e1 e2
  have hsj := hs j (by omega)
  have hu : (UInt8.ofNat (Go.Sort.bitsLen j)).toNat = Go.Sort.bitsLen j := by simp; omega
  have hrun : (Instr.index t (.string s) (.int k (j : Int))).run P w = .ok (.int .u8 (Go.Sort.bitsLen j : Nat)) w := by
    simp [Instr.index, run_underlying ht, asIntOf, hsj, hu]
  simp only [execOp, e1, e2, Sem.run_bind, hrun, Result.andThen_ok, Sem.run_pure]
theorem LA_xorN {n m : Int} (hg : gdec l E g = some true) (hx : opE E x = .val (.int .u64 n)) (hy : opE E y = .val (.int .u64 m)) (h : ∀ c : Nat, c < 18446744073709551616 → LA P l wb K rest ((d, .val (.int .u64 (c : Int))) :: E))
    (hn : 0 ≤ n ∧ n < 18446744073709551616) (hm : 0 ≤ m ∧ m < 18446744073709551616) : LA P l wb K (⟨some d, .binOp .xor t x y t', ty, pos, after, g⟩ :: rest) E := by
  obtain ⟨n, rfl⟩ : ∃ j : Nat, n = j := ⟨n.toNat, by omega⟩
  obtain ⟨m, rfl⟩ : ∃ j : Nat, m = j := ⟨m.toNat, by omega⟩
  refine LA_bits (.inr (.inr (.inl rfl))) hg hx hy ?_
  rw [bits_xor_u64_nat n m (by omega) (by omega)]
  exact h _ (Nat.xor_lt_two_pow (n := 64) (by omega) (by omega))
theorem LA_andN {n : Int} {m : Nat} (hg : gdec l E g = some true) (hx : opE E x = .val (.int .u64 n)) (hy : opE E y = .val (.int .u64 (m : Int))) (h : ∀ c : Nat, c ≤ m → LA P l wb K rest ((d, .val (.int .u64 (c : Int))) :: E))
    (hn : 0 ≤ n ∧ n < 18446744073709551616) (hm : m < 18446744073709551616) : LA P l wb K (⟨some d, .binOp .and t x y t', ty, pos, after, g⟩ :: rest) E := by
  obtain ⟨n, rfl⟩ : ∃ j : Nat, n = j := ⟨n.toNat, by omega⟩
  refine LA_bits (.inl rfl) hg hx hy ?_
  rw [bits_and_u64_nat n m (by omega) (by omega)]
  exact h _ Nat.and_le_right
end
end Go.LA
namespace Go.Sort
theorem bitsLen_div {x k : Nat} (h : 2 ^ k ≤ x) : bitsLen x = k + bitsLen (x / 2 ^ k) := by
  have hp : 0 < 2 ^ k := Nat.two_pow_pos k
  have h0 : x ≠ 0 := by omega
  have h1 : x / 2 ^ k ≠ 0 := by have := (Nat.le_div_iff_mul_le hp).2 (by omega : 1 * 2 ^ k ≤ x); omega
  apply Nat.le_antisymm
  · rw [bitsLen_le_iff, Nat.pow_add, Nat.mul_comm]
    exact (Nat.div_lt_iff_lt_mul hp).1 (lt_two_pow_bitsLen _)
  · have hk : k ≤ bitsLen x := by
      rcases Nat.lt_or_ge (bitsLen x) k with h2 | h2
      · have := lt_two_pow_bitsLen x
        have := Nat.pow_le_pow_right (n := 2) (by omega) (Nat.le_of_lt h2)
        omega
      · exact h2
    have : bitsLen (x / 2 ^ k) ≤ bitsLen x - k := by
      rw [bitsLen_le_iff, Nat.div_lt_iff_lt_mul hp, ← Nat.pow_add, Nat.sub_add_cancel hk]
      exact lt_two_pow_bitsLen x
    omega
end Go.Sort
end
section
set_option linter.unusedVariables false
namespace Go.LA
open Go.RowKit
section
variable {P : Program} {l : List Oper} {M : List Nat} {N : Nn} {ws wb : World} {K : List Oper → Env → Prop} {rest : List Oper} {E : Env} {Q : Exit → Act → World → Prop} {m : Nat} {C : World → Env → Prop}
variable {d : Tmp} {ty t t' : TypeId} {pos : String} {after : Array Edge} {g : Option (Nat × Bool)} {x y z : Operand} {k kd : IntKind}
theorem LX_setJ {w0 : World} {e e2 b n cap j base2 : Nat} {c : Int} {xs ys : List Int} {kd2 : IntKind} {v2 : Value} (hg : g = none) (he : Ext w0 wb) (ho : OwnI w0.heap.size e kd wb (.slice (some ⟨b, 0, none⟩) n cap) xs)
    (ho2 : OwnI base2 e2 kd2 wb v2 ys) (hne : e2 ≠ e)
    (hx : opE E x = .val (.pointer (some ⟨b, j, none⟩))) (hy : opE E y = .val (.int kd c)) (hj : j < xs.length) (hs : ∀ w, (sizeOf t).run P w = .ok 1 w)
    (h : ∀ w', Ext w0 w' → OwnI w0.heap.size e kd w' (.slice (some ⟨b, 0, none⟩) n cap) (xs.set j c) → OwnI base2 e2 kd2 w' v2 ys → LX P N w' l Q rest (vals E)) : LX P N wb l Q (⟨none, .store t x y, ty, pos, after, g⟩ :: rest) E := by
  obtain ⟨b', cap', cur, hv, hb0, hb, hnc, hcm, hsz, hcur⟩ := ho.row (by omega)
  cases hv
  exact LX_store1 hg hx hy hb hs (by omega) rfl rfl (fun w hw => h _ ((he.trans hw).setRow hb0 _) (OwnI.set hb0 (hw.block hb) hnc hcm hsz hcur j hj c) ((ho2.ext hw).keepRow (hw.block hb) hne))
theorem LA_extV0 {c c' : Value} (hg : gdec l E g = some true) (hx : opE E x = .val (.tuple #[c, c'])) (h : LA P l wb K rest ((d, .val c) :: E)) : LA P l wb K (⟨some d, .extract x 0, ty, pos, after, g⟩ :: rest) E :=
  LA_of _ hg (OB_val fun a w he hh => by
    have e1 := hh x (by simp [Op.operands]); rw [hx] at e1; simp only [AD.ok] at e1
    simp [execOp, e1, Instr.extract]) h
theorem LA_extV1 {c c' : Value} (hg : gdec l E g = some true) (hx : opE E x = .val (.tuple #[c, c'])) (h : LA P l wb K rest ((d, .val c') :: E)) : LA P l wb K (⟨some d, .extract x 1, ty, pos, after, g⟩ :: rest) E :=
  LA_of _ hg (OB_val fun a w he hh => by
    have e1 := hh x (by simp [Op.operands]); rw [hx] at e1; simp only [AD.ok] at e1
    simp [execOp, e1, Instr.extract]) h
theorem LX_al {e : TypeId} {z0 : Value} (hg : g = none) (hd : d < N.n) (hz : ∀ w, (zeroValue e).run P w = .ok z0 w)
    (h : ∀ b w', Ext wb w' → wb.heap.size ≤ b → w'.heap[b]? = some (.cells z0.cells e (0, 0)) → LX P N w' l Q rest ((d, .val (.pointer (some ⟨b, 0, none⟩))) :: E)) :
    LX P N wb l Q (⟨some d, .alloc e, ty, pos, after, g⟩ :: rest) E := by
  unfold LX
  intro a w st
  have ra : (Instr.alloc e true (.tuple #[])).run P w = .ok (.pointer (some ⟨w.heap.size, 0, none⟩)) (w.alloc (.cells z0.cells e)) := by
    simp only [Instr.alloc, Sem.run_bind, hz, Result.andThen_ok]
    rfl
  refine wpList_plain hg fun Kc hK => ?_
  unfold Oper.wp
  simp only [execOp, Sem.run_bind, ra, Result.andThen_ok, Sem.run_pure, Oper.upon]
  refine hK _ _ ?_
  have st1 : St N wb ((d, .val (.pointer (some ⟨w.heap.size, 0, none⟩))) :: E) (a.put (some d) (.pointer (some ⟨w.heap.size, 0, none⟩))) (w.alloc (.cells z0.cells e)) :=
    st.push (Ext.alloc _ _) (dst := some d) (r := .val _) (fun d' hd' => by cases hd'; exact hd) (.inr rfl)
  have h2 := h w.heap.size (w.alloc (.cells z0.cells e)) (st.ext.trans (Ext.alloc _ _)) st.ext.size (heap_alloc_new w _)
  unfold LX at h2
  exact h2 _ _ ⟨st1.sz, st1.df, Ext.refl _, st1.sat⟩
theorem LX_call5 {f : FuncId} {ats : Array TypeId} {fv : Operand} {q q5 : Operand} {v1 v2 v3 v4 v5 : Value} (hg : g = none) (hd : d < N.n) (hfv : opE E fv = .val (.func (.func f) #[] #[])) (hv1 : opE E x = .val v1) (hv2 : opE E y = .val v2) (hv3 : opE E z = .val v3) (hv4 : opE E q = .val v4) (hv5 : opE E q5 = .val v5) (R : Value → World → Prop)
    (hc : ∀ w, Ext wb w → Fc P f #[v1, v2, v3, v4, v5] w (fun e w' => ∃ v, e = .returned v ∧ R v w')) (h : ∀ v w, R v w → LX P N w l Q rest ((d, .val v) :: vals E)) :
    LX P N wb l Q (⟨some d, .call ⟨.value fv, #[x, y, z, q, q5], ats⟩, ty, pos, after, g⟩ :: rest) E := by
  unfold LX
  intro a w st
  have h0 := st.opd fv; rw [hfv] at h0; simp only [AD.ok] at h0
  have ev1 := st.opd x; rw [hv1] at ev1; simp only [AD.ok] at ev1
  have ev2 := st.opd y; rw [hv2] at ev2; simp only [AD.ok] at ev2
  have ev3 := st.opd z; rw [hv3] at ev3; simp only [AD.ok] at ev3
  have ev4 := st.opd q; rw [hv4] at ev4; simp only [AD.ok] at ev4
  have ev5 := st.opd q5; rw [hv5] at ev5; simp only [AD.ok] at ev5
  have hcc := hc w st.ext
  refine wpList_plain hg fun Kc hK => ?_
  unfold Oper.wp
  rw [run_call_op h0 (Fc.run hcc _ _)]
  simp only [Oper.upon, List.map_toArray, List.map_cons, List.map_nil, ev1, ev2, ev3, ev4, ev5]
  refine hcc.calls.mono ?_
  rintro e w' ⟨v, rfl, hv⟩
  refine hK _ _ ?_
  have h2 := h v w' hv
  unfold LX at h2
  exact h2 _ _ ((st.vals (w' := w')).push (Ext.refl _) (dst := some d) (r := .val v) (fun d' hd' => by cases hd'; exact hd) (.inr rfl))
end
end Go.LA
end
section
set_option linter.unusedSimpArgs false
set_option linter.unusedVariables false
namespace Go.LA
open Go.RowKit Go.ArrP
theorem getD_app1 {α : Type} {d : α} {a b : List α} {n : Nat} (h : n < a.length) : (a ++ b).getD n d = a.getD n d := by
  rw [List.getD_eq_getElem?_getD, List.getD_eq_getElem?_getD, List.getElem?_append_left h]
theorem getD_app2 {α : Type} {d : α} {a b : List α} {n : Nat} (h : a.length ≤ n) : (a ++ b).getD n d = b.getD (n - a.length) d := by
  rw [List.getD_eq_getElem?_getD, List.getD_eq_getElem?_getD, List.getElem?_append_right h]
noncomputable def TOP : Nat := Classical.choose (⟨4294967296, rfl⟩ : ∃ n : Nat, n = 4294967296)
theorem TOP_eq : TOP = 4294967296 := Classical.choose_spec (⟨4294967296, rfl⟩ : ∃ n : Nat, n = 4294967296)
def blk (p : Nat → Bool) (k i : Nat) : Bool := decide (i < 65536) && p (k * 65536 + i)
theorem and_on {b c : Bool} (h : b = true) : (b && c) = c := by rw [h]; rfl
theorem and_off {b c : Bool} (h : b = false) : (b && c) = false := by rw [h]; rfl
theorem blk_at {p : Nat → Bool} {k i : Nat} (h : i < 65536) : blk p k i = p (k * 65536 + i) := and_on (decide_eq_true h)
theorem blk_off {p : Nat → Bool} {k i : Nat} (h : ¬ i < 65536) : blk p k i = false := and_off (decide_eq_false h)
noncomputable def cdec (P : Prop) : Bool := @decide P (Classical.propDecidable P)
theorem cdec_iff {P : Prop} : cdec P = true ↔ P := @decide_eq_true_iff P (Classical.propDecidable P)
noncomputable def ne (p : Nat → Bool) (k : Nat) : Bool := cdec (∃ i, i < 65536 ∧ p (k * 65536 + i) = true)
theorem ne_iff {p : Nat → Bool} {k : Nat} : ne p k = true ↔ ∃ i, i < 65536 ∧ p (k * 65536 + i) = true := cdec_iff
theorem ne_no {p : Nat → Bool} {k : Nat} (h : ne p k = false) {i : Nat} (hi : i < 65536) : p (k * 65536 + i) = false := by
  cases hp : p (k * 65536 + i)
  · rfl
  · rw [ne_iff.2 ⟨i, hi, hp⟩] at h; cases h
theorem ne_cnt {p : Nat → Bool} {k : Nat} : ne p k = true ↔ 0 < cnt (blk p k) 65536 := by
  constructor
  · intro h
    obtain ⟨i, hi, hp⟩ := ne_iff.1 h
    have h1 : cnt (blk p k) (i + 1) = cnt (blk p k) i + 1 := by simp only [cnt, blk_at hi, hp, if_true]
    have h2 := cnt_mono (blk p k) (m := i + 1) 65536 (by omega)
    omega
  · intro h
    cases hn : ne p k
    · rw [cnt_zero 65536 (fun i hi => by rw [blk_at hi]; exact ne_no hn hi)] at h; omega
    · rfl
theorem blk_none {p : Nat → Bool} {k : Nat} (h : ne p k = false) : blk p k = fun _ => false := by
  funext i
  by_cases hi : i < 65536
  · rw [blk_at hi]; exact ne_no h hi
  · exact blk_off hi
theorem cnt_off (p : Nat → Bool) (B : Nat) : ∀ j, cnt p (B + j) = cnt p B + cnt (fun i => p (B + i)) j
  | 0 => rfl
  | j + 1 => by
    have ih := cnt_off p B j
    show cnt p (B + j) + _ = cnt p B + (cnt (fun i => p (B + i)) j + _)
    rw [ih, Nat.add_assoc]; rfl
theorem cnt_blk (p : Nat → Bool) (k : Nat) (j : Nat) (h : j ≤ 65536) : cnt p (k * 65536 + j) = cnt p (k * 65536) + cnt (blk p k) j := by
  rw [cnt_off, cnt_congr (p := blk p k) j (fun i hi => blk_at (p := p) (k := k) (by omega))]
theorem cnt_flat {p : Nat → Bool} {a : Nat} : ∀ b, a ≤ b → (∀ x, a ≤ x → x < b → p x = false) → cnt p b = cnt p a
  | 0, h, _ => by obtain rfl : a = 0 := by omega
                  rfl
  | b + 1, h, hp => by
    by_cases e : a = b + 1
    · subst e; rfl
    · simp only [cnt, cnt_flat b (by omega) (fun x h1 h2 => hp x h1 (by omega)), hp b (by omega) (by omega)]; rfl
noncomputable def nk (p : Nat → Bool) : Nat := cnt (ne p) 65536
noncomputable def keysL (p : Nat → Bool) : List Int := listS (ne p) 65536
noncomputable def kp (p : Nat → Bool) (i : Nat) : Nat := if i < nk p then ((keysL p).getD i 0).toNat else 65536
theorem nk_le (p : Nat → Bool) : nk p ≤ 65536 := cnt_le _ _
theorem keysL_len (p : Nat → Bool) : (keysL p).length = nk p := listS_len _ _
theorem keysL_inc (p : Nat → Bool) : Inc (keysL p) := listS_inc _ _
theorem keysL_low (p : Nat → Bool) : Low (keysL p) := listS_low _
theorem kp_at {p : Nat → Bool} {i : Nat} (h : i < nk p) : kp p i < 65536 ∧ ne p (kp p i) = true ∧ cnt (ne p) (kp p i) = i ∧ (keysL p).getD i 0 = ((kp p i : Nat) : Int) := by
  obtain ⟨j, h1, h2, h3, h4⟩ := getD_listS (ne p) h
  have e : kp p i = j := by unfold kp; rw [if_pos h]; unfold keysL; rw [h4]; rfl
  rw [e]; exact ⟨h1, h2, h3, h4⟩
theorem kp_end {p : Nat → Bool} {i : Nat} (h : nk p ≤ i) : kp p i = 65536 := by unfold kp; rw [if_neg (by omega)]
theorem kp_le (p : Nat → Bool) (i : Nat) : kp p i ≤ 65536 := by
  by_cases h : i < nk p
  · have := (kp_at h).1; omega
  · rw [kp_end (by omega)]; exact Nat.le_refl _
theorem kp_cnt {p : Nat → Bool} {i : Nat} (h : i ≤ nk p) : cnt (ne p) (kp p i) = i := by
  by_cases e : i < nk p
  · exact (kp_at e).2.2.1
  · obtain rfl : i = nk p := by omega
    rw [kp_end (Nat.le_refl _)]; rfl
theorem kp_gap {p : Nat → Bool} {i : Nat} (h : i < nk p) {k : Nat} (h1 : kp p i < k) (h2 : k < kp p (i + 1)) : ne p k = false := by
  cases hk : ne p k
  · rfl
  · have a1 := kp_at h
    have a2 := kp_cnt (p := p) (i := i + 1) h
    have c1 : cnt (ne p) (kp p i + 1) = i + 1 := by simp only [cnt, a1.2.1, a1.2.2.1, if_true]
    have c2 := cnt_mono (ne p) (m := kp p i + 1) k (by omega)
    have c3 : cnt (ne p) (k + 1) = cnt (ne p) k + 1 := by simp only [cnt, hk, if_true]
    have c4 := cnt_mono (ne p) (m := k + 1) (kp p (i + 1)) (by omega)
    omega
theorem kp_first {p : Nat → Bool} {k : Nat} (h : k < kp p 0) : ne p k = false := by
  cases hk : ne p k
  · rfl
  · have a2 := kp_cnt (p := p) (i := 0) (Nat.zero_le _)
    have c3 : cnt (ne p) (k + 1) = cnt (ne p) k + 1 := by simp only [cnt, hk, if_true]
    have c4 := cnt_mono (ne p) (m := k + 1) (kp p 0) (by omega)
    omega
theorem kp_next {p : Nat → Bool} {i : Nat} (h : i < nk p) : kp p i < kp p (i + 1) := by
  have a1 := kp_at h
  have a2 := kp_cnt (p := p) (i := i + 1) h
  rcases Nat.lt_or_ge (kp p i) (kp p (i + 1)) with h1 | h1
  · exact h1
  · have := cnt_mono (ne p) (m := kp p (i + 1)) (kp p i) h1
    omega
theorem kp_of {p : Nat → Bool} {k : Nat} (hk : k < 65536) (h : ne p k = true) : cnt (ne p) k < nk p ∧ kp p (cnt (ne p) k) = k := by
  have c3 : cnt (ne p) (k + 1) = cnt (ne p) k + 1 := by simp only [cnt, h, if_true]
  have c4 := cnt_mono (ne p) (m := k + 1) 65536 (by omega)
  have h1 : cnt (ne p) k < nk p := by unfold nk; omega
  refine ⟨h1, ?_⟩
  have := listS_at (ne p) 65536 k hk h
  unfold kp; rw [if_pos h1]; unfold keysL; rw [this]; rfl
theorem no_key {p : Nat → Bool} {x : Nat} (h : ne p (x / 65536) = false) : p x = false := by
  have := ne_no h (Nat.mod_lt x (by omega : 0 < 65536))
  rwa [show x / 65536 * 65536 + x % 65536 = x by omega] at this
theorem gap_no {p : Nat → Bool} {i : Nat} (h : i < nk p) {x : Nat} (h1 : (kp p i + 1) * 65536 ≤ x) (h2 : x < kp p (i + 1) * 65536) : p x = false :=
  no_key (kp_gap h (by omega) (by omega))
theorem first_no {p : Nat → Bool} {x : Nat} (h : x < kp p 0 * 65536) : p x = false := no_key (kp_first (by omega))
theorem key_cnt0 (p : Nat → Bool) : cnt p (kp p 0 * 65536) = 0 := cnt_zero _ (fun i hi => first_no hi)
theorem key_cnt {p : Nat → Bool} {i : Nat} (h : i < nk p) : cnt p (kp p (i + 1) * 65536) = cnt p (kp p i * 65536) + cnt (blk p (kp p i)) 65536 := by
  rw [cnt_flat (p := p) (a := (kp p i + 1) * 65536) (kp p (i + 1) * 65536) (Nat.mul_le_mul_right _ (kp_next h)) (fun x h1 h2 => gap_no h h1 h2)]
  have := cnt_blk p (kp p i) 65536 (Nat.le_refl _)
  rw [show (kp p i + 1) * 65536 = kp p i * 65536 + 65536 by omega]; exact this
theorem key_top (p : Nat → Bool) : kp p (nk p) * 65536 = TOP := by rw [kp_end (Nat.le_refl _), TOP_eq]
theorem mul_succ' (k : Nat) : (k + 1) * 65536 = k * 65536 + 65536 := Nat.succ_mul k 65536
theorem rank_lt {p : Nat → Bool} {i x X : Nat} (h : i < nk p) (h1 : X * 65536 ≤ x) (h2 : kp p i < X) : cnt p (min x (kp p (i + 1) * 65536)) = cnt p (min x (kp p i * 65536)) + cnt (blk p (kp p i)) 65536 := by
  have hn := kp_next h
  have hs := mul_succ' (kp p i)
  have hm1 : (kp p i + 1) * 65536 ≤ X * 65536 := Nat.mul_le_mul_right _ h2
  have hm2 : (kp p i + 1) * 65536 ≤ kp p (i + 1) * 65536 := Nat.mul_le_mul_right _ hn
  have e1 : min x (kp p i * 65536) = kp p i * 65536 := Nat.min_eq_right (Nat.le_trans (by rw [hs]; exact Nat.le_add_right _ _) (Nat.le_trans hm1 h1))
  have e2 : (kp p i + 1) * 65536 ≤ min x (kp p (i + 1) * 65536) := Nat.le_min.2 ⟨Nat.le_trans hm1 h1, hm2⟩
  rw [cnt_flat (p := p) _ e2 (fun y h3 h4 => gap_no h h3 (Nat.lt_of_lt_of_le h4 (Nat.min_le_right _ _))), e1, hs]
  exact cnt_blk _ _ _ (Nat.le_refl _)
theorem rank_eq {p : Nat → Bool} {i x R : Nat} (h : i < nk p) (h1 : x = kp p i * 65536 + R) (h2 : R < 65536) : cnt p (min x (kp p (i + 1) * 65536)) = cnt p (min x (kp p i * 65536)) + cnt (blk p (kp p i)) R := by
  have hn := kp_next h
  rw [show min x (kp p (i + 1) * 65536) = kp p i * 65536 + R by omega, show min x (kp p i * 65536) = kp p i * 65536 by omega]
  exact cnt_blk _ _ _ (by omega)
theorem rank_gt {p : Nat → Bool} {i x X : Nat} (h : i < nk p) (h1 : x < (X + 1) * 65536) (h2 : X < kp p i) : cnt p (min x (kp p (i + 1) * 65536)) = cnt p (min x (kp p i * 65536)) := by
  have hn := kp_next h
  rw [show min x (kp p (i + 1) * 65536) = x by omega, show min x (kp p i * 65536) = x by omega]
theorem rank_0 (p : Nat → Bool) (x : Nat) : cnt p (min x (kp p 0 * 65536)) = 0 := by
  have := cnt_mono p (m := min x (kp p 0 * 65536)) (kp p 0 * 65536) (Nat.min_le_right _ _)
  rw [key_cnt0] at this; exact Nat.le_zero.1 this
theorem rank_n (p : Nat → Bool) {x : Nat} (h : x ≤ TOP) : cnt p (min x (kp p (nk p) * 65536)) = cnt p x := by
  rw [key_top, Nat.min_eq_left h]
def upd (p : Nat → Bool) (k : Nat) (q : Nat → Bool) (x : Nat) : Bool := if x / 65536 = k then q (x % 65536) else p x
theorem upd_blk (p : Nat → Bool) (k : Nat) {q : Nat → Bool} (hq : ∀ i, 65536 ≤ i → q i = false) : blk (upd p k q) k = q := by
  funext i
  by_cases hi : i < 65536
  · rw [blk_at hi]; unfold upd; rw [if_pos (by omega), show (k * 65536 + i) % 65536 = i by omega]
  · rw [blk_off hi, hq i (by omega)]
theorem upd_blk' (p : Nat → Bool) {k k' : Nat} (q : Nat → Bool) (h : k' ≠ k) : blk (upd p k q) k' = blk p k' := by
  funext i
  by_cases hi : i < 65536
  · rw [blk_at hi, blk_at hi]; unfold upd; rw [if_neg (by omega)]
  · rw [blk_off hi, blk_off hi]
theorem blk_self (p : Nat → Bool) (k : Nat) : upd p k (blk p k) = p := by
  funext x; unfold upd
  split
  · rename_i h; rw [blk_at (Nat.mod_lt _ (by omega))]; congr 1; omega
  · rfl
theorem ne_blk {p q : Nat → Bool} {k k' : Nat} (h : blk p k = blk q k') : ne p k = ne q k' := by
  rw [Bool.eq_iff_iff, ne_cnt, ne_cnt, h]
theorem upd_ne (p : Nat → Bool) {k : Nat} {q : Nat → Bool} (hq : ∀ i, 65536 ≤ i → q i = false) (hn : 0 < cnt q 65536) (j : Nat) : ne (upd p k q) j = (ne p j || decide (j = k)) := by
  by_cases e : j = k
  · subst e
    rw [ne_cnt.2 (by rw [upd_blk p j hq]; exact hn)]; simp
  · rw [ne_blk (upd_blk' p q e)]; simp [e]
theorem upd_keys (p : Nat → Bool) {k : Nat} {q : Nat → Bool} (hq : ∀ i, 65536 ≤ i → q i = false) (hn : 0 < cnt q 65536) (h : ne p k = true) : keysL (upd p k q) = keysL p := by
  unfold keysL
  exact listS_congr _ (fun j _ => by
    rw [upd_ne p hq hn]
    by_cases e : j = k
    · subst e; rw [h]; rfl
    · simp [e])
theorem upd_keysN (p : Nat → Bool) {k : Nat} (hk : k < 65536) {q : Nat → Bool} (hq : ∀ i, 65536 ≤ i → q i = false) (hn : 0 < cnt q 65536) (h : ne p k = false) :
    keysL (upd p k q) = (keysL p).take (cnt (ne p) k) ++ [(k : Int)] ++ (keysL p).drop (cnt (ne p) k) := by
  have hf : foundS (keysL p) (k : Int) = false := by
    rw [found_iff _ (keysL_inc p)]
    have := memb_listS (ne p) hk
    unfold memb at this
    exact this.trans h
  have hb : bsS (keysL p) (k : Int) = cnt (ne p) k := bsS_listS (ne p) k (by omega)
  have hw := withS_eq (x := (k : Int)) (keysL_inc p) (keysL_low p) (by omega) (by omega)
  unfold withS at hw
  rw [hf] at hw
  simp only [Bool.false_eq_true, if_false, hb] at hw
  rw [hw]
  unfold keysL
  exact listS_congr _ (fun j hj => by
    rw [upd_ne p hq hn]; unfold addM
    rw [memb_listS _ hj]; simp)
theorem cnt_add1 {p q : Nat → Bool} {k : Nat} (h : ∀ j, q j = (p j || decide (j = k))) (hk : p k = false) : ∀ n, cnt q n = cnt p n + if k < n then 1 else 0
  | 0 => rfl
  | n + 1 => by
    simp only [cnt, cnt_add1 h hk n, h n]
    by_cases e : n = k
    · subst e; simp [hk]
    · simp only [e, decide_false, Bool.or_false]
      by_cases e2 : k < n
      · have e3 : k < n + 1 := by omega
        simp only [e2, e3, if_true]; omega
      · have e3 : ¬ k < n + 1 := by omega
        simp only [e2, e3, if_false]; omega
theorem upd_nk (p : Nat → Bool) {k : Nat} (hk : k < 65536) {q : Nat → Bool} (hq : ∀ i, 65536 ≤ i → q i = false) (hn : 0 < cnt q 65536) (h : ne p k = false) : nk (upd p k q) = nk p + 1 := by
  unfold nk
  rw [cnt_add1 (upd_ne p hq hn) h, if_pos hk]
theorem upd_kp (p : Nat → Bool) {k : Nat} (hk : k < 65536) {q : Nat → Bool} (hq : ∀ i, 65536 ≤ i → q i = false) (hn : 0 < cnt q 65536) (h : ne p k = false) {i : Nat} (hi : i < nk p + 1) :
    kp (upd p k q) i = if i < cnt (ne p) k then kp p i else if i = cnt (ne p) k then k else kp p (i - 1) := by
  have hc : cnt (ne p) k ≤ nk p := cnt_mono _ _ (by omega)
  have hl := keysL_len p
  have hu : kp (upd p k q) i = ((keysL (upd p k q)).getD i 0).toNat := by unfold kp; rw [if_pos (by rw [upd_nk p hk hq hn h]; exact hi)]
  rw [hu, upd_keysN p hk hq hn h]
  split
  · rename_i h1
    rw [List.append_assoc, getD_app1 (by rw [List.length_take]; omega)]
    have : ((keysL p).take (cnt (ne p) k)).getD i 0 = (keysL p).getD i 0 := by
      rw [List.getD_eq_getElem?_getD, List.getD_eq_getElem?_getD, List.getElem?_take_of_lt h1]
    rw [this]; unfold kp; rw [if_pos (by omega)]
  · rename_i h1
    have hlen : ((keysL p).take (cnt (ne p) k) ++ [(k : Int)]).length = cnt (ne p) k + 1 := by rw [List.length_append, List.length_take, List.length_singleton]; omega
    split
    · rename_i h2
      rw [getD_app1 (by omega), getD_app2 (by rw [List.length_take]; omega), List.length_take, show i - min (cnt (ne p) k) (keysL p).length = 0 by omega]; rfl
    · rename_i h2
      rw [getD_app2 (by omega), hlen, List.getD_eq_getElem?_getD, List.getElem?_drop, ← List.getD_eq_getElem?_getD, show cnt (ne p) k + (i - (cnt (ne p) k + 1)) = i - 1 by omega]
      unfold kp; rw [if_pos (by omega)]
theorem upd_kp' (p : Nat → Bool) {k : Nat} {q : Nat → Bool} (hq : ∀ i, 65536 ≤ i → q i = false) (hn : 0 < cnt q 65536) (h : ne p k = true) (i : Nat) : kp (upd p k q) i = kp p i := by
  have e := upd_keys p hq hn h
  have e2 : nk (upd p k q) = nk p := by rw [← keysL_len, ← keysL_len, e]
  unfold kp; rw [e, e2]
abbrev Sp := Int × Int
def spL (p : Nat → Bool) (T : Nat) : List Sp := (opn p T).map (fun x => (x.1, x.1 + x.2 + 1))
theorem rnC_end (p : Nat → Bool) : ∀ T, ∀ x ∈ rnC p T, x.1 + x.2 + 1 < T
  | 0, x, h => by cases h
  | T + 1, x, h => by
    simp only [rnC, List.mem_append] at h
    rcases h with h | h
    · have := rnC_end p T x h; omega
    · split at h
      · simp only [List.mem_singleton] at h; subst h; dsimp only; omega
      · cases h
theorem sp_flat {p : Nat → Bool} {a b : Nat} (hab : a ≤ b) (hp : ∀ x, a ≤ x → x < b → p x = false) : spL p b = spL p a := by
  unfold spL; rw [opn_flat b hab hp]
theorem sp_none (p : Nat → Bool) : spL p 0 = [] := rfl
theorem bel_fill {p : Nat → Bool} {a b : Nat} (hab : a < b) (hp : ∀ x, a ≤ x → x < b → p x = true) : bel p b = true := by
  cases b with
  | zero => omega
  | succ b => exact hp b (by omega) (by omega)
theorem fill_frm {p : Nat → Bool} {a : Nat} : ∀ b, a < b → (∀ x, a ≤ x → x < b → p x = true) → rnC p b = rnC p a ∧ frm p b = if bel p a then frm p a else a
  | 0, h, _ => by omega
  | b + 1, h, hp => by
    have hb := hp b (by omega) (by omega)
    by_cases e : a = b
    · subst e
      simp only [rnC, frm, hb, Bool.not_true, Bool.false_and, Bool.true_and, Bool.false_eq_true, if_false, List.append_nil]
      cases bel p a <;> simp
    · obtain ⟨i1, i2⟩ := fill_frm b (by omega) (fun x h1 h2 => hp x h1 (by omega))
      have hbb := bel_fill (show a < b by omega) (fun x h1 h2 => hp x h1 (by omega))
      simp only [rnC, frm, hb, hbb, Bool.not_true, Bool.false_and, Bool.and_false, Bool.false_eq_true, if_false, List.append_nil, i1, i2, and_self]
theorem sp_on {p : Nat → Bool} {a : Nat} (h : bel p a = true) : spL p a = (rnC p a).map (fun x => (x.1, x.1 + x.2 + 1)) ++ [((frm p a : Int), (a : Int))] := by
  unfold spL; rw [opn_at h, List.map_append, List.map_singleton]
  have : (frm p a : Int) + ((a : Int) - frm p a - 1) + 1 = a := by omega
  rw [this]
theorem sp_off {p : Nat → Bool} {a : Nat} (h : bel p a = false) : spL p a = (rnC p a).map (fun x => (x.1, x.1 + x.2 + 1)) := by
  unfold spL; rw [opn_off h]
theorem sp_new {p : Nat → Bool} {a b : Nat} (hab : a < b) (hp : ∀ x, a ≤ x → x < b → p x = true) (h : bel p a = false) : spL p b = spL p a ++ [((a : Int), (b : Int))] := by
  obtain ⟨i1, i2⟩ := fill_frm b hab hp
  rw [sp_on (bel_fill hab hp), sp_off h, i1, i2, h]; rfl
theorem sp_more {p : Nat → Bool} {a b : Nat} (hab : a < b) (hp : ∀ x, a ≤ x → x < b → p x = true) (h : bel p a = true) :
    0 < (spL p a).length ∧ spL p b = (spL p a).set ((spL p a).length - 1) (((spL p a).getD ((spL p a).length - 1) (0, 0)).1, (b : Int)) := by
  obtain ⟨i1, i2⟩ := fill_frm b hab hp
  rw [sp_on (bel_fill hab hp), sp_on h, i1, i2, h]
  refine ⟨by simp, ?_⟩
  rw [List.length_append, List.length_singleton, Nat.add_sub_cancel, getD_app2 (Nat.le_refl _), Nat.sub_self, List.set_append_right _ _ (Nat.le_refl _), Nat.sub_self]
  rfl
theorem sp_bel {p : Nat → Bool} {a : Nat} : bel p a = true ↔ 0 < (spL p a).length ∧ ((spL p a).getD ((spL p a).length - 1) (0, 0)).2 = a := by
  constructor
  · intro h
    rw [sp_on h]
    refine ⟨by simp, ?_⟩
    rw [List.length_append, List.length_singleton, Nat.add_sub_cancel, getD_app2 (Nat.le_refl _), Nat.sub_self]; rfl
  · rintro ⟨h1, h2⟩
    cases h : bel p a
    · rw [sp_off h] at h1 h2
      have hm : ((rnC p a).map (fun x => (x.1, x.1 + x.2 + 1))).getD (((rnC p a).map (fun x : Rn => (x.1, x.1 + x.2 + 1))).length - 1) (0, 0) ∈ (rnC p a).map (fun x => (x.1, x.1 + x.2 + 1)) := by
        rw [List.getD_eq_getElem?_getD, List.getElem?_eq_getElem (by omega)]; exact List.getElem_mem _
      obtain ⟨y, hy, e⟩ := List.mem_map.1 hm
      have := rnC_end p a y hy
      rw [← e] at h2; dsimp only at h2; omega
    · rfl
theorem rnC_bd (p : Nat → Bool) : ∀ T, ∀ x ∈ rnC p T, 0 ≤ x.1 ∧ 0 ≤ x.2
  | 0, x, h => by cases h
  | T + 1, x, h => by
    simp only [rnC, List.mem_append] at h
    rcases h with h | h
    · exact rnC_bd p T x h
    · split at h
      · rename_i hc
        simp only [Bool.and_eq_true] at hc
        have := frm_lt p T hc.2
        simp only [List.mem_singleton] at h; subst h; dsimp only; omega
      · cases h
theorem sp_bd (p : Nat → Bool) (T : Nat) : ∀ x ∈ spL p T, 0 ≤ x.1 ∧ x.1 < x.2 ∧ x.2 ≤ T := by
  intro x hx
  cases h : bel p T
  · rw [sp_off h] at hx
    obtain ⟨y, hy, rfl⟩ := List.mem_map.1 hx
    have h1 := rnC_end p T y hy
    have h2 := rnC_bd p T y hy
    dsimp only; omega
  · rw [sp_on h] at hx
    rcases List.mem_append.1 hx with hx | hx
    · obtain ⟨y, hy, rfl⟩ := List.mem_map.1 hx
      have h1 := rnC_end p T y hy
      have h2 := rnC_bd p T y hy
      dsimp only; omega
    · rw [List.mem_singleton] at hx; subst hx
      have := frm_lt p T h
      dsimp only; omega
theorem sp_len (p : Nat → Bool) : ∀ T, (spL p T).length ≤ cnt p T
  | 0 => Nat.le_refl _
  | T + 1 => by
    have ih := sp_len p T
    unfold spL at ih ⊢
    rw [List.length_map] at ih ⊢
    cases hp : p T
    · rw [opn_no hp]; simp only [cnt, hp]; exact ih
    · cases hb : bel p T
      · rw [opn_new hp hb]; simp only [cnt, hp, List.length_append, List.length_singleton]; simp; omega
      · have e1 := opn_at hb
        rw [e1] at ih
        rw [opn_more hp hb]; simp only [cnt, hp, List.length_append, List.length_singleton] at ih ⊢; simp; omega
def endR (rs : List Rn) : Nat → Int
  | 0 => 0
  | k + 1 => fst rs k + mor rs k + 1
theorem run_key {q : Nat → Bool} {j : Nat} (hj : j < (runsL q).length) : ∃ f m g : Nat, fst (runsL q) j = f ∧ mor (runsL q) j = m ∧ endR (runsL q) j = g ∧ g ≤ f ∧ f + m + 1 ≤ 65536 ∧
    (∀ i, f ≤ i → i ≤ f + m → q i = true) ∧ (∀ i, g ≤ i → i < f → q i = false) := by
  obtain ⟨rs, hrs⟩ : ∃ rs, rs = runsL q := ⟨_, rfl⟩
  have hr := runs_right q
  have hu := runs_u16 q
  have hin : ∀ i, i < 65536 → inR rs i = q i := fun i hi => by rw [hrs]; exact inR_runs q hi
  rw [← hrs] at hj hr hu ⊢
  clear hrs
  have hb := hu.at j
  have hrj := (hr j hj)
  have hg : 0 ≤ endR rs j ∧ endR rs j ≤ fst rs j := by
    cases j with
    | zero => exact ⟨Int.le_refl _, by show (0 : Int) ≤ _; omega⟩
    | succ j =>
      have h1 := hu.at j
      have h2 := hrj.1
      simp only [lst] at h2
      simp only [endR]; omega
  refine ⟨(fst rs j).toNat, (mor rs j).toNat, (endR rs j).toNat, by omega, by omega, by omega, by omega, by omega, fun i h1 h2 => ?_, fun i h1 h2 => ?_⟩
  · rw [← hin i (by omega), inR_iff]; exact ⟨j, hj, by omega, by omega⟩
  · rw [← hin i (by omega)]
    cases hc : inR rs i
    · rfl
    · obtain ⟨k, hk, k1, k2⟩ := (inR_iff rs i).1 hc
      rcases Nat.lt_trichotomy k j with h | h | h
      · have h3 : fst rs k + mor rs k + 1 ≤ endR rs j := by
          cases j with
          | zero => omega
          | succ j =>
            by_cases e : k = j
            · subst e; exact Int.le_refl _
            · have := right_lt hr hu k j (by omega) (by omega)
              have h4 := hu.at j
              simp only [endR]; omega
        omega
      · subst h; omega
      · have := right_lt hr hu j k h hk
        omega
theorem run_tail {q : Nat → Bool} : ∃ g : Nat, endR (runsL q) (runsL q).length = g ∧ g ≤ 65536 ∧ ∀ i, g ≤ i → i < 65536 → q i = false := by
  obtain ⟨rs, hrs⟩ : ∃ rs, rs = runsL q := ⟨_, rfl⟩
  have hr := runs_right q
  have hu := runs_u16 q
  have hin : ∀ i, i < 65536 → inR rs i = q i := fun i hi => by rw [hrs]; exact inR_runs q hi
  rw [← hrs] at hr hu ⊢
  clear hrs
  obtain ⟨n, hn⟩ : ∃ n, n = rs.length := ⟨_, rfl⟩
  have hg : 0 ≤ endR rs rs.length ∧ endR rs rs.length ≤ 65536 := by
    rw [← hn]
    cases n with
    | zero => exact ⟨Int.le_refl _, by show (0 : Int) ≤ _; omega⟩
    | succ j =>
      have h1 := hu.at j
      have h2 := (hr j (by omega)).2
      simp only [endR]; omega
  refine ⟨(endR rs rs.length).toNat, by omega, by omega, fun i h1 h2 => ?_⟩
  rw [← hin i (by omega)]
  cases hc : inR rs i
  · rfl
  · obtain ⟨k, hk, k1, k2⟩ := (inR_iff rs i).1 hc
    rw [← hn] at h1 hg hk
    have h3 : fst rs k + mor rs k + 1 ≤ endR rs n := by
      cases n with
      | zero => omega
      | succ j =>
        by_cases e : k = j
        · subst e; exact Int.le_refl _
        · have := right_lt hr hu k j (by omega) (by omega)
          have h4 := hu.at j
          simp only [endR]; omega
    omega
theorem blk_out (p : Nat → Bool) (k x K : Nat) (hK : k * 65536 = K) (h1 : K ≤ x) (h2 : x < K + 65536) : p x = blk p k (x - K) := by
  have h3 : x - K < 65536 := by omega
  rw [blk_at h3, hK]
  congr 1; omega
theorem sp_key_end {p : Nat → Bool} {i : Nat} (h : i < nk p) : ∃ gE : Nat, endR (runsL (blk p (kp p i))) (runsL (blk p (kp p i))).length = gE ∧ gE ≤ 65536 ∧ spL p (kp p (i + 1) * 65536) = spL p (kp p i * 65536 + gE) := by
  obtain ⟨gE, h1, h2, h3⟩ := run_tail (q := blk p (kp p i))
  have hnx := kp_next h
  have hks := mul_succ' (kp p i)
  have hml : (kp p i + 1) * 65536 ≤ kp p (i + 1) * 65536 := Nat.mul_le_mul_right _ hnx
  refine ⟨gE, h1, h2, ?_⟩
  rw [sp_flat hml (fun y h3 h4 => gap_no h h3 h4), hks]
  obtain ⟨K, hK⟩ : ∃ K, kp p i * 65536 = K := ⟨_, rfl⟩
  rw [hK]
  refine sp_flat (by omega) (fun x h4 h5 => ?_)
  have h6 : K ≤ x := by omega
  exact (blk_out p (kp p i) x K hK h6 h5).trans (h3 _ (by omega) (by omega))
theorem sp_run {p : Nat → Bool} {i j : Nat} (hj : j < (runsL (blk p (kp p i))).length) : ∃ f m g : Nat, fst (runsL (blk p (kp p i))) j = f ∧ mor (runsL (blk p (kp p i))) j = m ∧ endR (runsL (blk p (kp p i))) j = g ∧ endR (runsL (blk p (kp p i))) (j + 1) = ((f + m + 1 : Nat) : Int) ∧
    g ≤ f ∧ f + m + 1 ≤ 65536 ∧ spL p (kp p i * 65536 + f) = spL p (kp p i * 65536 + g) ∧ ∀ y, kp p i * 65536 + f ≤ y → y < kp p i * 65536 + (f + m + 1) → p y = true := by
  obtain ⟨f, m, g, h1, h2, h3, h4, h5, h6, h7⟩ := run_key hj
  obtain ⟨K, hK⟩ : ∃ K, kp p i * 65536 = K := ⟨_, rfl⟩
  rw [hK]
  refine ⟨f, m, g, h1, h2, h3, ?_, h4, h5, sp_flat (by omega) (fun x h8 h9 => ?_), fun y h8 h9 => ?_⟩
  · show fst _ j + mor _ j + 1 = _
    rw [h1, h2]; omega
  · have h10 : K ≤ x := by omega
    exact (blk_out p (kp p i) x K hK h10 (by omega)).trans (h7 _ (by omega) (by omega))
  · have h10 : K ≤ y := by omega
    exact (blk_out p (kp p i) y K hK h10 (by omega)).trans (h6 _ (by omega) (by omega))
theorem sp_step {p : Nat → Bool} {a b : Nat} (hab : a < b) (hp : ∀ x, a ≤ x → x < b → p x = true) :
    (0 < (spL p a).length ∧ ((spL p a).getD ((spL p a).length - 1) (0, 0)).2 = a ∧ spL p b = (spL p a).set ((spL p a).length - 1) (((spL p a).getD ((spL p a).length - 1) (0, 0)).1, (b : Int))) ∨
    (((spL p a).length = 0 ∨ ((spL p a).getD ((spL p a).length - 1) (0, 0)).2 ≠ a) ∧ spL p b = spL p a ++ [((a : Int), (b : Int))]) := by
  cases h : bel p a
  · right
    refine ⟨?_, sp_new hab hp h⟩
    by_cases h0 : (spL p a).length = 0
    · exact .inl h0
    · refine .inr fun e => ?_
      have := sp_bel.2 ⟨by omega, e⟩
      rw [h] at this; cases this
  · left
    have h1 := sp_bel.1 h
    exact ⟨h1.1, h1.2, (sp_more hab hp h).2⟩
def ddN (xs : List Int) : Nat → List Int
  | 0 => []
  | n + 1 => ddN xs n ++ (if n = 0 ∨ xs.getD n 0 ≠ xs.getD (n - 1) 0 then [xs.getD n 0] else [])
theorem ddN_new {xs : List Int} {n : Nat} (h : xs.getD n 0 ≠ xs.getD (n - 1) 0) : ddN xs (n + 1) = ddN xs n ++ [xs.getD n 0] := by
  simp only [ddN]; rw [if_pos (.inr h)]
theorem ddN_old {xs : List Int} {n : Nat} (h0 : 0 < n) (h : xs.getD n 0 = xs.getD (n - 1) 0) : ddN xs (n + 1) = ddN xs n := by
  simp only [ddN]; rw [if_neg (by rintro (h1 | h1); · omega
                                  · exact h1 h), List.append_nil]
theorem ddN_one (xs : List Int) : ddN xs 1 = [xs.getD 0 0] := rfl
theorem ddN_spec {xs : List Int} (hs : ∀ i j, i ≤ j → j < xs.length → xs.getD i 0 ≤ xs.getD j 0) : ∀ n, n ≤ xs.length →
    Inc (ddN xs n) ∧ (∀ z, z ∈ ddN xs n ↔ ∃ i, i < n ∧ xs.getD i 0 = z) ∧ (0 < n → ∀ z ∈ ddN xs n, z ≤ xs.getD (n - 1) 0)
  | 0, _ => ⟨inc_nil, fun z => ⟨fun h => (by cases h), fun ⟨i, h, _⟩ => absurd h (Nat.not_lt_zero i)⟩, fun h => absurd h (Nat.lt_irrefl 0)⟩
  | n + 1, h => by
    obtain ⟨i1, i2, i3⟩ := ddN_spec hs n (by omega)
    by_cases h0 : n = 0
    · subst h0
      rw [ddN_one]
      refine ⟨by unfold Inc; simp, fun z => ?_, fun _ z hz => ?_⟩
      · simp only [List.mem_singleton]
        exact ⟨fun h => ⟨0, Nat.zero_lt_one, h.symm⟩, fun ⟨i, h1, h2⟩ => by obtain rfl : i = 0 := by omega
                                                                            exact h2.symm⟩
      · rw [List.mem_singleton] at hz; subst hz; exact Int.le_refl _
    · by_cases he : xs.getD n 0 = xs.getD (n - 1) 0
      · rw [ddN_old (by omega) he]
        refine ⟨i1, fun z => ?_, fun _ z hz => ?_⟩
        · rw [i2]
          constructor
          · rintro ⟨i, h1, h2⟩; exact ⟨i, by omega, h2⟩
          · rintro ⟨i, h1, h2⟩
            by_cases e : i = n
            · subst e; exact ⟨i - 1, by omega, he ▸ h2⟩
            · exact ⟨i, by omega, h2⟩
        · rw [Nat.add_sub_cancel, he]; exact i3 (by omega) z hz
      · rw [ddN_new he]
        have hlt : ∀ z ∈ ddN xs n, z < xs.getD n 0 := fun z hz => by
          have h1 := i3 (by omega) z hz
          have h2 := hs (n - 1) n (by omega) (by omega)
          omega
        refine ⟨?_, fun z => ?_, fun _ z hz => ?_⟩
        · unfold Inc
          rw [List.pairwise_append]
          refine ⟨i1, by simp, fun a ha b hb => ?_⟩
          rw [List.mem_singleton] at hb; subst hb; exact hlt a ha
        · rw [List.mem_append, List.mem_singleton, i2]
          constructor
          · rintro (⟨i, h1, h2⟩ | h1)
            · exact ⟨i, by omega, h2⟩
            · exact ⟨n, by omega, h1.symm⟩
          · rintro ⟨i, h1, h2⟩
            by_cases e : i = n
            · subst e; exact .inr h2.symm
            · exact .inl ⟨i, by omega, h2⟩
        · rw [Nat.add_sub_cancel]
          rcases List.mem_append.1 hz with hz | hz
          · have := hlt z hz; omega
          · rw [List.mem_singleton] at hz; subst hz; exact Int.le_refl _
theorem dd_keys (p q : Nat → Bool) : ddN ((keysL p ++ keysL q).mergeSort (fun x y => decide (x ≤ y))) ((keysL p ++ keysL q).mergeSort (fun x y => decide (x ≤ y))).length = listS (fun k => ne p k || ne q k) 65536 := by
  obtain ⟨xs, hxs⟩ : ∃ xs, xs = (keysL p ++ keysL q).mergeSort (fun x y => decide (x ≤ y)) := ⟨_, rfl⟩
  have hm : ∀ z, z ∈ xs ↔ z ∈ keysL p ∨ z ∈ keysL q := fun z => by rw [hxs, List.mem_mergeSort, List.mem_append]
  have hp : xs.Pairwise (fun a b => decide (a ≤ b) = true) := by
    rw [hxs]
    exact List.pairwise_mergeSort (fun a b c h1 h2 => by simp at *; omega) (fun a b => by simp; omega) _
  rw [← hxs]
  have hs : ∀ i j, i ≤ j → j < xs.length → xs.getD i 0 ≤ xs.getD j 0 := fun i j hij hj => by
    rcases Nat.lt_or_ge i j with h | h
    · have := List.pairwise_iff_getElem.1 hp i j (by omega) hj h
      rw [getD_eq (show i < xs.length by omega), getD_eq hj]
      simpa using this
    · obtain rfl : i = j := by omega
      exact Int.le_refl _
  obtain ⟨i1, i2, -⟩ := ddN_spec hs xs.length (Nat.le_refl _)
  refine inc_ext i1 (listS_inc _ _) (fun z => ?_)
  rw [i2, listS_mem]
  have hz : (∃ i, i < xs.length ∧ xs.getD i 0 = z) ↔ z ∈ xs := by
    constructor
    · rintro ⟨i, h1, rfl⟩; exact mem_getD h1
    · intro h
      obtain ⟨i, h1, h2⟩ := List.getElem_of_mem h
      exact ⟨i, h1, by rw [getD_eq h1]; exact h2⟩
  rw [hz, hm]
  unfold keysL
  rw [listS_mem, listS_mem]
  constructor
  · rintro (⟨i, h1, h2, h3⟩ | ⟨i, h1, h2, h3⟩)
    · exact ⟨i, h1, by rw [h2]; rfl, h3⟩
    · exact ⟨i, h1, by rw [h2, Bool.or_true], h3⟩
  · rintro ⟨i, h1, h2, h3⟩
    rw [Bool.or_eq_true] at h2; rcases h2 with h | h
    · exact .inl ⟨i, h1, h, h3⟩
    · exact .inr ⟨i, h1, h, h3⟩
def kq (e : Nat → Bool) (i : Nat) : Nat := if i < cnt e 65536 then ((listS e 65536).getD i 0).toNat else 65536
theorem kq_at {e : Nat → Bool} {i : Nat} (h : i < cnt e 65536) : kq e i < 65536 ∧ e (kq e i) = true ∧ cnt e (kq e i) = i ∧ (listS e 65536).getD i 0 = ((kq e i : Nat) : Int) := by
  obtain ⟨j, h1, h2, h3, h4⟩ := getD_listS e h
  have e1 : kq e i = j := by unfold kq; rw [if_pos h, h4]; rfl
  rw [e1]; exact ⟨h1, h2, h3, h4⟩
theorem kq_end {e : Nat → Bool} {i : Nat} (h : cnt e 65536 ≤ i) : kq e i = 65536 := by unfold kq; rw [if_neg (Nat.not_lt.2 h)]
theorem kq_cnt {e : Nat → Bool} {i : Nat} (h : i ≤ cnt e 65536) : cnt e (kq e i) = i := by
  by_cases e1 : i < cnt e 65536
  · exact (kq_at e1).2.2.1
  · have : i = cnt e 65536 := by omega
    rw [kq_end (Nat.le_of_eq this.symm), this]
theorem kq_gap {e : Nat → Bool} {i : Nat} (h : i < cnt e 65536) {k : Nat} (h1 : kq e i < k) (h2 : k < kq e (i + 1)) : e k = false := by
  cases hk : e k
  · rfl
  · have a1 := kq_at h
    have a2 := kq_cnt (e := e) (i := i + 1) h
    have c1 : cnt e (kq e i + 1) = i + 1 := by simp only [cnt, a1.2.1, a1.2.2.1, if_true]
    have c2 := cnt_mono e (m := kq e i + 1) k (by omega)
    have c3 : cnt e (k + 1) = cnt e k + 1 := by simp only [cnt, hk, if_true]
    have c4 := cnt_mono e (m := k + 1) (kq e (i + 1)) (by omega)
    omega
theorem kq_first {e : Nat → Bool} {k : Nat} (h : k < kq e 0) : e k = false := by
  cases hk : e k
  · rfl
  · have a2 := kq_cnt (e := e) (i := 0) (Nat.zero_le _)
    have c3 : cnt e (k + 1) = cnt e k + 1 := by simp only [cnt, hk, if_true]
    have c4 := cnt_mono e (m := k + 1) (kq e 0) (by omega)
    omega
theorem kq_next {e : Nat → Bool} {i : Nat} (h : i < cnt e 65536) : kq e i < kq e (i + 1) := by
  have a1 := kq_at h
  have a2 := kq_cnt (e := e) (i := i + 1) h
  rcases Nat.lt_or_ge (kq e i) (kq e (i + 1)) with h1 | h1
  · exact h1
  · have := cnt_mono e (m := kq e (i + 1)) (kq e i) h1
    omega
def cutP (R : Nat → Bool) (k x : Nat) : Bool := decide (x / 65536 < k) && R x
theorem cut_all {R : Nat → Bool} (h : ∀ x, TOP ≤ x → R x = false) : cutP R 65536 = R := by
  funext x
  by_cases hx : x / 65536 < 65536
  · exact and_on (decide_eq_true hx)
  · refine (and_off (decide_eq_false hx)).trans (h x ?_).symm
    rw [TOP_eq]; omega
theorem cut_none {R : Nat → Bool} {k : Nat} (h : ∀ j, j < k → ne R j = false) : cutP R k = fun _ => false := by
  funext x
  by_cases hx : x / 65536 < k
  · exact (and_on (decide_eq_true hx)).trans (no_key (h _ hx))
  · exact and_off (decide_eq_false hx)
theorem cut_step {R e : Nat → Bool} (he : ∀ k, e k = false → ne R k = false) {i : Nat} (h : i < cnt e 65536) : cutP R (kq e (i + 1)) = upd (cutP R (kq e i)) (kq e i) (blk R (kq e i)) := by
  have hn := kq_next h
  funext x
  have hml := Nat.mod_lt x (show 0 < 65536 by decide)
  have hdm := Nat.div_add_mod x 65536
  unfold upd
  by_cases h1 : x / 65536 = kq e i
  · rw [if_pos h1, blk_at hml, ← h1, Nat.mul_comm, hdm]
    exact and_on (decide_eq_true (by rw [h1]; exact hn))
  · rw [if_neg h1]
    by_cases h2 : x / 65536 < kq e i
    · exact (and_on (decide_eq_true (Nat.lt_trans h2 hn))).trans (and_on (decide_eq_true h2)).symm
    · refine Eq.trans ?_ (and_off (decide_eq_false h2)).symm
      by_cases h3 : x / 65536 < kq e (i + 1)
      · exact (and_on (decide_eq_true h3)).trans (no_key (he _ (kq_gap h (by omega) h3)))
      · exact and_off (decide_eq_false h3)
theorem cut_ne (R : Nat → Bool) {k j : Nat} (h : k ≤ j) : ne (cutP R k) j = false := by
  cases hk : ne (cutP R k) j
  · rfl
  · obtain ⟨i, hi, hp⟩ := ne_iff.1 hk
    have h1 : (j * 65536 + i) / 65536 = j := by omega
    unfold cutP at hp
    rw [h1, decide_eq_false (Nat.not_lt.2 h), Bool.false_and] at hp
    cases hp
theorem cut_skip {R : Nat → Bool} {k : Nat} (h : ne R k = false) : upd (cutP R k) k (blk R k) = cutP R k := by
  have h1 : blk R k = blk (cutP R k) k := by rw [blk_none h, blk_none (cut_ne R (Nat.le_refl k))]
  rw [h1, blk_self]
theorem blk_two {F : Bool → Bool → Bool} (hF : F false false = false) (p q : Nat → Bool) (k : Nat) : blk (two F p q) k = two F (blk p k) (blk q k) := by
  funext i
  by_cases hi : i < 65536
  · rw [blk_at hi]; unfold two; rw [blk_at hi, blk_at hi]
  · rw [blk_off hi]; unfold two; rw [blk_off hi, blk_off hi, hF]
theorem two_ne {F : Bool → Bool → Bool} (hF : F false false = false) {p q : Nat → Bool} {k : Nat} (h : (ne p k || ne q k) = false) : ne (two F p q) k = false := by
  rw [Bool.or_eq_false_iff] at h
  cases hn : ne (two F p q) k
  · rfl
  · obtain ⟨i, hi, hp⟩ := ne_iff.1 hn
    unfold two at hp
    rw [ne_no h.1 hi, ne_no h.2 hi, hF] at hp
    cases hp
theorem ms_sorted (l : List Int) : ∀ i j, i ≤ j → j < (l.mergeSort (fun x y => decide (x ≤ y))).length → (l.mergeSort (fun x y => decide (x ≤ y))).getD i 0 ≤ (l.mergeSort (fun x y => decide (x ≤ y))).getD j 0 := by
  obtain ⟨xs, hxs⟩ : ∃ xs, xs = l.mergeSort (fun x y => decide (x ≤ y)) := ⟨_, rfl⟩
  have hp : xs.Pairwise (fun a b => decide (a ≤ b) = true) := by
    rw [hxs]
    exact List.pairwise_mergeSort (fun a b c h1 h2 => by simp at *; omega) (fun a b => by simp; omega) _
  rw [← hxs]
  intro i j hij hj
  rcases Nat.lt_or_ge i j with h | h
  · have := List.pairwise_iff_getElem.1 hp i j (by omega) hj h
    rw [getD_eq (show i < xs.length by omega), getD_eq hj]
    simpa using this
  · obtain rfl : i = j := by omega
    exact Int.le_refl _
theorem memb_ms (l : List Int) : memb (l.mergeSort (fun x y => decide (x ≤ y))) = memb l := by
  funext x; unfold memb; exact decide_eq_decide.2 List.mem_mergeSort
theorem memb_take {xs : List Int} {i x : Nat} : memb (xs.take i) x = true ↔ ∃ j, j < i ∧ j < xs.length ∧ xs.getD j 0 = x := by
  unfold memb
  rw [decide_eq_true_iff]
  constructor
  · intro h
    obtain ⟨j, h1, h2⟩ := List.getElem_of_mem h
    rw [List.length_take] at h1
    refine ⟨j, by omega, by omega, ?_⟩
    rw [getD_eq (show j < xs.length by omega), ← h2, List.getElem_take]
  · rintro ⟨j, h1, h2, h3⟩
    rw [← h3, getD_eq h2]
    exact List.mem_of_getElem? (i := j) (by rw [List.getElem?_take_of_lt h1, List.getElem?_eq_getElem h2])
def ofK (xs : List Int) (i : Nat) : Nat := (xs.getD (i - 1) 0).toNat / 65536
def ofA (xs : List Int) (i : Nat) : List Int := if i = 0 then [] else listS (blk (memb (xs.take i)) (ofK xs i)) 65536
def ofS (xs : List Int) (i : Nat) : Nat → Bool := if i = 0 then fun _ => false else cutP (memb (xs.take i)) (ofK xs i)
theorem memb_take_same {xs : List Int} {i : Nat} (h0 : 0 < i) (hi : i < xs.length) (h : xs.getD (i - 1) 0 = xs.getD i 0) : memb (xs.take (i + 1)) = memb (xs.take i) := by
  funext x
  rw [Bool.eq_iff_iff, memb_take, memb_take]
  constructor
  · rintro ⟨j, h1, h2, h3⟩
    by_cases e : j = i
    · exact ⟨i - 1, by omega, by omega, by rw [h, ← e]; exact h3⟩
    · exact ⟨j, by omega, h2, h3⟩
  · rintro ⟨j, h1, h2, h3⟩
    exact ⟨j, by omega, h2, h3⟩
section
variable {xs : List Int} (hs : ∀ i j, i ≤ j → j < xs.length → xs.getD i 0 ≤ xs.getD j 0) (hu : ∀ x ∈ xs, 0 ≤ x ∧ x < 4294967296)
include hs hu
omit hs in
theorem of_bd {i : Nat} (h : i < xs.length) : 0 ≤ xs.getD i 0 ∧ xs.getD i 0 < 4294967296 := hu _ (mem_getD h)
omit hs in
theorem ofK_lt {i : Nat} (h0 : 0 < i) (hi : i ≤ xs.length) : ofK xs i < 65536 := by
  have := of_bd hu (i := i - 1) (by omega)
  unfold ofK; omega
theorem of_key_le {i x : Nat} (h0 : 0 < i) (hi : i ≤ xs.length) (h : memb (xs.take i) x = true) : (x : Int) ≤ xs.getD (i - 1) 0 ∧ x / 65536 ≤ ofK xs i := by
  obtain ⟨j, h1, h2, h3⟩ := memb_take.1 h
  have h4 := hs j (i - 1) (by omega) (by omega)
  have h5 := of_bd hu (i := i - 1) (by omega)
  refine ⟨by omega, ?_⟩
  unfold ofK
  exact Nat.div_le_div_right (by omega)
theorem of_full {i : Nat} (h0 : 0 < i) (hi : i ≤ xs.length) : upd (ofS xs i) (ofK xs i) (blk (memb (xs.take i)) (ofK xs i)) = memb (xs.take i) := by
  unfold ofS; rw [if_neg (Nat.ne_of_gt h0)]
  funext x
  unfold upd
  by_cases h1 : x / 65536 = ofK xs i
  · rw [if_pos h1, blk_at (Nat.mod_lt _ (by decide)), ← h1, Nat.mul_comm, Nat.div_add_mod]
  · rw [if_neg h1]
    cases hm : memb (xs.take i) x
    · unfold cutP; rw [hm, Bool.and_false]
    · have := (of_key_le hs hu h0 hi hm).2
      unfold cutP; rw [hm, decide_eq_true (show x / 65536 < ofK xs i by omega)]; rfl
omit hs in
theorem ofA_pos {i : Nat} (h0 : 0 < i) (hi : i ≤ xs.length) : 0 < (ofA xs i).length := by
  unfold ofA
  rw [if_neg (Nat.ne_of_gt h0), listS_len]
  have h5 := of_bd hu (i := i - 1) (by omega)
  have hml : (xs.getD (i - 1) 0).toNat % 65536 < 65536 := Nat.mod_lt _ (by decide)
  have hp : blk (memb (xs.take i)) (ofK xs i) ((xs.getD (i - 1) 0).toNat % 65536) = true := by
    rw [blk_at hml]; unfold ofK; rw [Nat.mul_comm, Nat.div_add_mod]
    exact memb_take.2 ⟨i - 1, by omega, by omega, by omega⟩
  have h1 : cnt (blk (memb (xs.take i)) (ofK xs i)) ((xs.getD (i - 1) 0).toNat % 65536 + 1) = cnt (blk (memb (xs.take i)) (ofK xs i)) ((xs.getD (i - 1) 0).toNat % 65536) + 1 := by simp only [cnt, hp, if_true]
  have h2 := cnt_mono (blk (memb (xs.take i)) (ofK xs i)) (m := (xs.getD (i - 1) 0).toNat % 65536 + 1) 65536 hml
  omega
theorem of_new {i : Nat} (hi : i < xs.length) (hne : i = 0 ∨ xs.getD (i - 1) 0 ≠ xs.getD i 0) :
    ofA xs (i + 1) = (if 0 < i ∧ ofK xs i = ofK xs (i + 1) then ofA xs i else []) ++ [(((xs.getD i 0).toNat % 65536 : Nat) : Int)] ∧
    ofS xs (i + 1) = (if 0 < i ∧ ofK xs i = ofK xs (i + 1) then ofS xs i else memb (xs.take i)) := by
  have hb := of_bd hu hi
  have hK : ofK xs (i + 1) = (xs.getD i 0).toNat / 65536 := by unfold ofK; rw [Nat.add_sub_cancel]
  have hml : (xs.getD i 0).toNat % 65536 < 65536 := Nat.mod_lt _ (by decide)
  have hdm := Nat.div_add_mod (xs.getD i 0).toNat 65536
  have hlt : ∀ x, memb (xs.take i) x = true → x < (xs.getD i 0).toNat := fun x hx => by
    rcases hne with h0 | h0
    · subst h0; obtain ⟨j, h1, _⟩ := memb_take.1 hx; omega
    · by_cases h0' : i = 0
      · subst h0'; obtain ⟨j, h1, _⟩ := memb_take.1 hx; omega
      · have h1 := (of_key_le hs hu (Nat.pos_of_ne_zero h0') (Nat.le_of_lt hi) hx).1
        have h2 := hs (i - 1) i (by omega) hi
        omega
  have hmore : ∀ x, memb (xs.take (i + 1)) x = true ↔ memb (xs.take i) x = true ∨ x = (xs.getD i 0).toNat := fun x => by
    rw [memb_take, memb_take]
    constructor
    · rintro ⟨j, h1, h2, h3⟩
      by_cases e : j = i
      · subst e; right; omega
      · exact .inl ⟨j, by omega, h2, h3⟩
    · rintro (⟨j, h1, h2, h3⟩ | h)
      · exact ⟨j, by omega, h2, h3⟩
      · exact ⟨i, by omega, hi, by omega⟩
  have hA1 : ofA xs (i + 1) = listS (blk (memb (xs.take i)) (ofK xs (i + 1))) 65536 ++ [(((xs.getD i 0).toNat % 65536 : Nat) : Int)] := by
    unfold ofA
    rw [if_neg (Nat.succ_ne_zero i)]
    refine inc_ext (listS_inc _ _) ?_ (fun z => ?_)
    · unfold Inc
      rw [List.pairwise_append]
      refine ⟨listS_inc _ _, by simp, fun a ha b hb' => ?_⟩
      rw [List.mem_singleton] at hb'; subst hb'
      obtain ⟨r, h1, h2, rfl⟩ := (listS_mem _ _ _).1 ha
      rw [blk_at h1, hK] at h2
      have := hlt _ h2
      omega
    · rw [List.mem_append, List.mem_singleton, listS_mem, listS_mem]
      constructor
      · rintro ⟨r, h1, h2, h3⟩
        rw [blk_at h1] at h2
        rcases (hmore _).1 h2 with h4 | h4
        · exact .inl ⟨r, h1, by rw [blk_at h1]; exact h4, h3⟩
        · right; rw [hK] at h4; omega
      · rintro (⟨r, h1, h2, h3⟩ | h)
        · exact ⟨r, h1, by rw [blk_at h1]; exact (hmore _).2 (.inl (by rw [blk_at h1] at h2; exact h2)), h3⟩
        · exact ⟨_, hml, by rw [blk_at hml, hK]; exact (hmore _).2 (.inr (by omega)), h⟩
  have hS1 : ofS xs (i + 1) = cutP (memb (xs.take i)) (ofK xs (i + 1)) := by
    unfold ofS
    rw [if_neg (Nat.succ_ne_zero i)]
    funext x
    unfold cutP
    by_cases h1 : x / 65536 < ofK xs (i + 1)
    · rw [decide_eq_true h1, Bool.true_and, Bool.true_and, Bool.eq_iff_iff, hmore]
      exact ⟨fun h => h.resolve_right (fun e => by rw [e, hK] at h1; omega), .inl⟩
    · rw [decide_eq_false h1]; rfl
  by_cases h1 : 0 < i ∧ ofK xs i = ofK xs (i + 1)
  · rw [if_pos h1, if_pos h1, hA1, hS1]
    constructor
    · have : ofA xs i = listS (blk (memb (xs.take i)) (ofK xs (i + 1))) 65536 := by unfold ofA; rw [if_neg (Nat.ne_of_gt h1.1), h1.2]
      rw [this]
    · unfold ofS; rw [if_neg (Nat.ne_of_gt h1.1), h1.2]
  · rw [if_neg h1, if_neg h1, hA1, hS1]
    have hlow : ∀ x, memb (xs.take i) x = true → x / 65536 < ofK xs (i + 1) := fun x hx => by
      by_cases h0 : i = 0
      · subst h0; obtain ⟨j, h1, _⟩ := memb_take.1 hx; omega
      · have h2 := (of_key_le hs hu (Nat.pos_of_ne_zero h0) (Nat.le_of_lt hi) hx).2
        have h3 : ofK xs i ≠ ofK xs (i + 1) := fun e => h1 ⟨Nat.pos_of_ne_zero h0, e⟩
        have h4 : ofK xs i ≤ ofK xs (i + 1) := by
          rw [hK]; unfold ofK
          have := hs (i - 1) i (by omega) hi
          exact Nat.div_le_div_right (by omega)
        omega
    constructor
    · have : listS (blk (memb (xs.take i)) (ofK xs (i + 1))) 65536 = [] := List.eq_nil_of_length_eq_zero (by
        rw [listS_len]
        refine cnt_zero _ (fun r hr => ?_)
        rw [blk_at hr]
        cases hm : memb (xs.take i) (ofK xs (i + 1) * 65536 + r)
        · rfl
        · have := hlow _ hm; omega)
      rw [this]
    · funext x
      cases hm : memb (xs.take i) x
      · unfold cutP; rw [hm, Bool.and_false]
      · unfold cutP; rw [hm, decide_eq_true (hlow x hm)]; rfl
end
end Go.LA
end
