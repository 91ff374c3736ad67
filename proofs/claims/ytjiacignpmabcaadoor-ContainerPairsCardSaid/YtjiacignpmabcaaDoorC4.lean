import Derived.Test.YtjiacignpmabcaaDoorC3
import Derived.Test.YtjiacignpmabcaaDoorCls

set_option linter.unusedSimpArgs false
set_option linter.unusedVariables false
namespace Go.Proofs.YtjiacignpmabcaaDoor
open Go.LA Go.ArrP Go.RowKit
variable {A : Nat → Prop}
/-! ### A container's value -/
def nilS : Value := .slice none 0 0
/-- A row that lies in one of the blocks A. -/
def OwnA (A : Nat → Prop) (e : Nat) (k : IntKind) (w : World) (v : Value) (xs : List Int) : Prop := OwnI 0 e k w v xs ∧ ∀ b, v.ownBlock = some b → A b
theorem OwnA.ext {e : Nat} {k : IntKind} {w w' : World} {v : Value} {xs : List Int} (h : OwnA A e k w v xs) (x : Ext w w') : OwnA A e k w' v xs := ⟨h.1.ext x, h.2⟩
theorem OwnA.slI {e : Nat} {k : IntKind} {w : World} {v : Value} {xs : List Int} (h : OwnA A e k w v xs) : SlI k w v xs := h.1.slI
/-- All that is new is one of the blocks A. -/
def Fsh (A : Nat → Prop) (w : World) : Prop := ∀ k, w.heap.size ≤ k → A k
theorem Fsh.ext {w w' : World} (h : Fsh A w) (e : Ext w w') : Fsh A w' := fun k hk => h k (Nat.le_trans e.size hk)
def TT : Nat → Prop := fun _ => True
theorem tt {w : World} : Fsh TT w := fun _ _ => trivial
/-- A container of the set p, of the kind kk, its array in one of the blocks A. -/
def Cn (A : Nat → Prop) (w : World) (v : Value) (p : Nat → Bool) (kk : Int) : Prop :=
  p 65536 = false ∧
  ((kk = 1 ∧ ∃ kd va, (kd = 0 ∨ kd = 1) ∧ v = .agg #[.int .u8 kd, va, .slice none 0 0, .slice none 0 0] ∧ OwnA A 29 .u16 w va (listS p 65536)) ∨
   (kk = 2 ∧ ∃ vw, v = .agg #[.int .u8 2, .slice none 0 0, vw, .slice none 0 0] ∧ OwnI 0 66 .u64 w vw (wordsOf p)) ∨
   (kk = 3 ∧ ∃ vr, v = .agg #[.int .u8 3, .slice none 0 0, .slice none 0 0, vr] ∧ OwnR 0 70 w vr (runsL p)))
theorem Cn.ext {w w' : World} {v : Value} {p : Nat → Bool} {kk : Int} (h : Cn A w v p kk) (e : Ext w w') : Cn A w' v p kk := by
  obtain ⟨hp, h | h | h⟩ := h
  · obtain ⟨h1, kd, va, h2, h3, h4⟩ := h; exact ⟨hp, .inl ⟨h1, kd, va, h2, h3, h4.ext e⟩⟩
  · obtain ⟨h1, vw, h3, h4⟩ := h; exact ⟨hp, .inr (.inl ⟨h1, vw, h3, h4.ext e⟩)⟩
  · obtain ⟨h1, vr, h3, h4⟩ := h; exact ⟨hp, .inr (.inr ⟨h1, vr, h3, h4.ext e⟩)⟩
def cnP (A : Nat → Prop) (p : Nat → Bool) (kk : Int) : AV := ⟨fun v w => Cn A w v p kk, fun _ _ _ e h => h.ext e⟩
/-- What is written into a block of another type leaves a container. -/
theorem Cn.setRow {w : World} {v : Value} {p : Nat → Bool} {kk : Int} (h : Cn A w v p kk) {b : Nat} {cur : Array Value} {e : TypeId} {j : Nat × Nat} (hb : w.heap[b]? = some (.cells cur e j)) (he : 29 ≠ e ∧ 66 ≠ e ∧ 70 ≠ e) (cs : Array Value) : Cn A (w.setRow b cs) v p kk := by
  obtain ⟨hp, h | h | h⟩ := h
  · obtain ⟨h1, kd, va, h2, h3, h4⟩ := h; exact ⟨hp, .inl ⟨h1, kd, va, h2, h3, Own.setRow h4.1 _ (Own.apart h4.1 hb he.1), h4.2⟩⟩
  · obtain ⟨h1, vw, h3, h4⟩ := h; exact ⟨hp, .inr (.inl ⟨h1, vw, h3, Own.setRow h4 _ (Own.apart h4 hb he.2.1)⟩)⟩
  · obtain ⟨h1, vr, h3, h4⟩ := h; exact ⟨hp, .inr (.inr ⟨h1, vr, h3, Own.setRow h4 _ (Own.apart h4 hb he.2.2)⟩)⟩
theorem Cn.arr {w : World} {va : Value} {p : Nat → Bool} {base : Nat} (hp : p 65536 = false) {xs : List Int} (hx : xs = listS p 65536) (h : OwnI base 29 .u16 w va xs) (hA : ∀ k, base ≤ k → A k) : Cn A w (.agg #[.int .u8 1, va, .slice none 0 0, .slice none 0 0]) p 1 :=
  ⟨hp, .inl ⟨rfl, 1, va, .inr rfl, rfl, hx ▸ Own.base h (Nat.zero_le _), fun k hk => hA k (Own.lt h k hk).1⟩⟩
theorem Cn.wrd {w : World} {vw : Value} {p : Nat → Bool} {base : Nat} (hp : p 65536 = false) {xs : List Int} (hx : xs = wordsOf p) (h : OwnI base 66 .u64 w vw xs) (hA : ∀ k, base ≤ k → A k) : Cn A w (.agg #[.int .u8 2, .slice none 0 0, vw, .slice none 0 0]) p 2 :=
  ⟨hp, .inr (.inl ⟨rfl, vw, rfl, hx ▸ Own.base h (Nat.zero_le _)⟩)⟩
theorem Cn.rns {w : World} {vr : Value} {p : Nat → Bool} {base : Nat} (hp : p 65536 = false) {xs : List Rn} (hx : xs = runsL p) (h : OwnR base 70 w vr xs) (hA : ∀ k, base ≤ k → A k) : Cn A w (.agg #[.int .u8 3, .slice none 0 0, .slice none 0 0, vr]) p 3 :=
  ⟨hp, .inr (.inr ⟨rfl, vr, rfl, hx ▸ Own.base h (Nat.zero_le _)⟩)⟩
/-- The zero container. -/
theorem Cn.zero {w : World} : Cn A w (.agg #[.int .u8 0, .slice none 0 0, .slice none 0 0, .slice none 0 0]) (fun _ => false) 1 :=
  ⟨rfl, .inl ⟨rfl, 0, _, .inl rfl, rfl, by rw [listS_nil (fun _ => false) (a := 0) 65536 (by decide) (fun _ _ _ => rfl)]; exact ⟨OwnI.nil, fun _ h => by cases h⟩⟩⟩
/-- A container's parts, whatever its kind. -/
theorem Cn.parts {w : World} {v : Value} {p : Nat → Bool} {kk : Int} (h : Cn A w v p kk) : ∃ kd va vw vr, v = .agg #[.int .u8 kd, va, vw, vr] ∧ max kd 1 = kk ∧ 0 ≤ kd ∧ kd ≤ 3 ∧ kk = max kd 1 ∧ 1 ≤ kk ∧ kk ≤ 3 ∧ (∀ u ∈ (Value.agg #[.int .u8 kd, va, vw, vr]).cells.toList, u.oneCell' = true) := by
  obtain ⟨hp, h | h | h⟩ := h
  · obtain ⟨h1, kd, va, h2, h3, h4⟩ := h
    refine ⟨kd, va, _, _, h3, by omega, by omega, by omega, by omega, by omega, by omega, fun u hu => ?_⟩
    simp only [Value.cells, List.mem_cons, List.not_mem_nil, or_false] at hu
    rcases hu with rfl | rfl | rfl | rfl
    · rfl
    · exact OwnI.one h4.1
    · rfl
    · rfl
  · obtain ⟨h1, vw, h3, h4⟩ := h
    refine ⟨2, _, vw, _, h3, by omega, by omega, by omega, by omega, by omega, by omega, fun u hu => ?_⟩
    simp only [Value.cells, List.mem_cons, List.not_mem_nil, or_false] at hu
    rcases hu with rfl | rfl | rfl | rfl
    · rfl
    · rfl
    · exact OwnI.one h4
    · rfl
  · obtain ⟨h1, vr, h3, h4⟩ := h
    refine ⟨3, _, _, vr, h3, by omega, by omega, by omega, by omega, by omega, by omega, fun u hu => ?_⟩
    simp only [Value.cells, List.mem_cons, List.not_mem_nil, or_false] at hu
    rcases hu with rfl | rfl | rfl | rfl
    · rfl
    · rfl
    · rfl
    · obtain ⟨a, c, hv⟩ := (OwnR.slR h4).isSlice
      rw [hv]; rfl
/-! ### The canonical kind -/
def leastP (c : Nat) : Int := if c ≤ 4096 then 2 * (c : Int) else 8192
def kindP (p : Nat → Bool) : Int := if 2 + 4 * (cnt (startsS p) 65536 : Int) < leastP (cnt p 65536) then 3 else if cnt p 65536 ≤ 4096 then 1 else 2
theorem starts_congr {p q : Nat → Bool} (h : ∀ i, i < 65536 → p i = q i) : cnt (startsS p) 65536 = cnt (startsS q) 65536 := cnt_congr 65536 fun i hi => by
  unfold startsS; rw [h i hi, h (i - 1) (by omega)]
theorem kindP_congr {p q : Nat → Bool} (h : ∀ i, i < 65536 → p i = q i) : kindP p = kindP q := by
  unfold kindP; rw [starts_congr h, cnt_congr 65536 h]
theorem Cn.congr {w : World} {v : Value} {p q : Nat → Bool} {kk : Int} (h : Cn A w v p kk) (hq : q 65536 = false) (e : ∀ i, i < 65536 → p i = q i) : Cn A w v q kk := by
  obtain ⟨hp, h⟩ := h
  rw [listS_congr 65536 e, wordsOf_congr e, runsL_congr e] at h
  exact ⟨hq, h⟩
theorem ret_cn {w : World} {p q : Nat → Bool} {kk : Int} (hq : q 65536 = false) (e : ∀ i, i < 65536 → p i = q i) (en : Ending) (w' : World) (h : Ret w (.pred (cnP A p kk)) en w') : Ret w (.pred (cnP A q kk)) en w' := by
  obtain ⟨v, h1, h2, h3⟩ := h
  exact ⟨v, h1, h2, Cn.congr h3 hq e⟩
theorem ret_can {w : World} {p q : Nat → Bool} (hq : q 65536 = false) (e : ∀ i, i < 65536 → p i = q i) (en : Ending) (w' : World) (h : Ret w (.pred (cnP A p (kindP p))) en w') : Ret w (.pred (cnP A q (kindP q))) en w' := by
  rw [← kindP_congr e]; exact ret_cn hq e en w' h
end Go.Proofs.YtjiacignpmabcaaDoor
