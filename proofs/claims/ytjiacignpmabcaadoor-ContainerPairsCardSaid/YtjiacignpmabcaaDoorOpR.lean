/- A slice of runs that comes in. -/
import Derived.Test.YtjiacignpmabcaaDoorStc
import Derived.ChangeSame
import Derived.ChangeSlices
namespace Go.LA
open Go.RowKit Go.ArrP Go.ChangeShapes
/-- What is known of a slice of runs that comes in. -/
def IsRowR (w : World) (a : Option Addr) (len cap : Nat) (rs : List Rn) : Prop := SlR w (.slice a len cap) rs ∧ U16 rs ∧ rs.length = len
section
variable {H : Type} {enc : TypeId × Value → H} {P : Program} {w : World} {base : Nat} {spare : Nat → Bool} {held : Bool}
theorem open_runs {t e u : TypeId} {f0 f1 : Field} {fuel : Nat} {a : Option Addr} {len cap : Nat} {x : DataW H × List MemPlace} (ht : P.underlying t = some (.slice e)) (he : P.underlying e = some (.struct #[f0, f1])) (hc : P.cellsOf e = 2)
    (h0 : f0.type = u) (h1 : f1.type = u) (o0 : f0.offset = 0) (o1 : f1.offset = 1) (hu : P.underlying u = some (.int .u16)) (hcu : P.cellsOf u = 1)
    (h : DataW.trod enc P w base spare held fuel t [.slice a len cap] = some x) : ∃ rs, IsRowR w a len cap rs := by
  rcases DataW.trod_slice ht h with ⟨h2, -⟩ | ⟨ad, len', cap', elems, rest, n, -, h2, -, hb, hl, hm, hlen, hel, -, -⟩
  · simp only [List.cons.injEq, Value.slice.injEq, and_true] at h2
    obtain ⟨rfl, rfl, rfl⟩ := h2
    exact ⟨[], ⟨rfl, none, 0, rfl, Nat.le_refl _, Nat.zero_le _, fun _ => rfl, .inl rfl⟩, fun x hx => (by cases hx), rfl⟩
  simp only [List.cons.injEq, Value.slice.injEq, and_true] at h2
  obtain ⟨rfl, rfl, rfl⟩ := h2
  have each : ∀ i, i < len → ∃ f m : Int, (0 ≤ f ∧ f < 65536 ∧ 0 ≤ m ∧ m < 65536) ∧ w.cell? (ad.add (i * 2)) = some (.int .u16 f) ∧ w.cell? (ad.add (i * 2 + 1)) = some (.int .u16 m) := fun i hi => by
    have h3 := hel i hi
    rw [List.getElem?_eq_getElem (by omega), hc, Option.bind_eq_some_iff] at h3
    obtain ⟨cs, hcs, hy⟩ := h3
    obtain ⟨y0, y1, n', -, hcl, e0, e1⟩ := trod_struct2 he hy
    rw [h0, o0, hcu] at e0; rw [h1, o1, hcu] at e1
    obtain ⟨f, hf, -, wf0⟩ := DataW.trod_int hu e0
    obtain ⟨m, hm', -, wf1⟩ := DataW.trod_int hu e1
    have b0 := wf_u16 wf0
    have b1 := wf_u16 wf1
    have g0 : cs[0]? = some (.int .u16 f) := by
      have := congrArg (fun l => l[0]?) hf
      simpa [List.getElem?_take, List.getElem?_drop] using this
    have g1 : cs[1]? = some (.int .u16 m) := by
      have := congrArg (fun l => l[0]?) hm'
      simpa [List.getElem?_take, List.getElem?_drop] using this
    have hcell := (World.cells?_some hcs).2.2
    refine ⟨f, m, ⟨b0.1, b0.2, b1.1, b1.2⟩, ?_, ?_⟩
    · rw [← g0, ← hcell 0 (by decide), Addr.add_add, Nat.add_zero]
    · rw [← g1, ← hcell 1 (by decide), Addr.add_add]
  obtain ⟨q, hq⟩ : ∃ q : Nat → Rn, ∀ i, i < len → (0 ≤ (q i).1 ∧ (q i).1 < 65536 ∧ 0 ≤ (q i).2 ∧ (q i).2 < 65536) ∧ w.cell? (ad.add (i * 2)) = some (.int .u16 (q i).1) ∧ w.cell? (ad.add (i * 2 + 1)) = some (.int .u16 (q i).2) :=
    ⟨fun i => if hi : i < len then (Classical.choose (each i hi), Classical.choose (Classical.choose_spec (each i hi))) else (0, 0), fun i hi => by
      have h5 := Classical.choose_spec (Classical.choose_spec (each i hi))
      simp only [hi, dif_pos]
      exact h5⟩
  obtain ⟨rs, hrs⟩ : ∃ rs, rs = (List.range len).map q := ⟨_, rfl⟩
  have hl2 : rs.length = len := by rw [hrs]; simp
  have hget : ∀ i, i < len → rs.getD i (0, 0) = q i := fun i hi => by rw [hrs]; simp [List.getD, List.getElem?_range hi]
  refine ⟨rs, ⟨by rw [cellsR_len], some ad, cap, by rw [hl2], by omega, hm, (fun h => by cases h), ?_⟩, fun x hx => ?_, hl2⟩
  · by_cases hz : len = 0
    · left; omega
    · right
      have hx := (hq 0 (by omega)).2.1
      obtain ⟨b, off, spot⟩ := ad
      have hs : spot = none := by
        cases spot with
        | none => rfl
        | some s =>
          exfalso
          rw [Nat.zero_mul, Addr.add_zero'] at hx
          simp only [World.cell?] at hx
          split at hx <;> simp at hx
      subst hs
      refine ⟨b, off, rfl, fun j c hj => ?_⟩
      have hjl : j < len * 2 := by
        have := (List.getElem?_eq_some_iff.1 hj).1
        rwa [cellsR_len, hl2] at this
      have hi : j / 2 < len := by omega
      have hat := cellsR_at rs (j / 2) (by omega)
      have hf : fst rs (j / 2) = (q (j / 2)).1 := by unfold fst; rw [hget _ hi]
      have hmr : mor rs (j / 2) = (q (j / 2)).2 := by unfold mor; rw [hget _ hi]
      rw [hf, hmr] at hat
      obtain ⟨-, c0, c1⟩ := hq (j / 2) hi
      rw [Addr.add_lit] at c0 c1
      have h2 : j % 2 = 0 ∨ j % 2 = 1 := by omega
      rcases h2 with h2 | h2
      · have e := congrArg (fun l => l[0]?) hat
        simp only [List.getElem?_take, List.getElem?_drop, List.getElem?_cons_zero] at e
        rw [if_pos (by decide), show j / 2 * 2 + 0 = j by omega, hj] at e
        rw [show j / 2 * 2 = j by omega] at c0
        rw [c0, Option.some.inj e]
      · have e := congrArg (fun l => l[1]?) hat
        simp only [List.getElem?_take, List.getElem?_drop, List.getElem?_cons_succ, List.getElem?_cons_zero] at e
        rw [if_pos (by decide), show j / 2 * 2 + 1 = j by omega, hj] at e
        rw [show j / 2 * 2 + 1 = j by omega] at c1
        rw [c1, Option.some.inj e]
  · rw [hrs, List.mem_map] at hx
    obtain ⟨i, hi, rfl⟩ := hx
    exact (hq i (List.mem_range.1 hi)).1
end
end Go.LA
