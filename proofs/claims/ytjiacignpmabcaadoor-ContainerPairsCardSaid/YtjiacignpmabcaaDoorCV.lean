import Derived.Test.YtjiacignpmabcaaDoorC7
import Derived.Test.YtjiacignpmabcaaDoorPh
set_option linter.unusedSimpArgs false
set_option linter.unusedVariables false
namespace Go.Proofs.YtjiacignpmabcaaDoor
open Go.LA Go.ArrP Go.RowKit
variable {A : Nat → Prop}
abbrev tC : Nat := 27
theorem ret_t2 {w : World} {a a' b : AD} (ha : ∀ v w', a.ok v w' → a'.ok v w') (en : Ending) (w' : World) (h : Ret w (.tup2 a b) en w') : Ret w (.tup2 a' b) en w' := by
  obtain ⟨v, h1, h2, x, y, h3, h4, h5⟩ := h
  exact ⟨v, h1, h2, x, y, h3, ha _ _ h4, h5⟩
/-- A container that lies in a variable. -/
structure VarC (A : Nat → Prop) (w : World) (b : Nat) (cs : Array Value) (p : Nat → Bool) (kk : Int) : Prop where
  hb : w.heap[b]? = some (.cells cs tC (0, 0))
  hn : cs.size = 4
  hc : Cn A w (.agg cs) p kk
theorem VarC.ext {w w' : World} {b : Nat} {cs : Array Value} {p : Nat → Bool} {kk : Int} (h : VarC A w b cs p kk) (e : Ext w w') : VarC A w' b cs p kk := ⟨e.block h.hb, h.hn, h.hc.ext e⟩
theorem VarC.set {w : World} {b : Nat} {cur cs : Array Value} {p : Nat → Bool} {kk : Int} (hb : w.heap[b]? = some (.cells cur tC (0, 0))) (hn : cs.size = 4) (hc : Cn A w (.agg cs) p kk) : VarC A (w.setRow b cs) b cs p kk :=
  ⟨setRow_heap w b _ _ _ (0, 0) hb, hn, hc.setRow hb ⟨by decide, by decide, by decide⟩ cs⟩
theorem VarC.other {w : World} {b b' : Nat} {cur cs cs' : Array Value} {p : Nat → Bool} {kk : Int} (h : VarC A w b cs p kk) (hb : w.heap[b']? = some (.cells cur tC (0, 0))) (hne : b ≠ b') : VarC A (w.setRow b' cs') b cs p kk :=
  ⟨setRow_keep cs' h.hb hne, h.hn, h.hc.setRow hb ⟨by decide, by decide, by decide⟩ cs'⟩
theorem blk_lt {w : World} {b : Nat} {o : Obj} (h : w.heap[b]? = some o) : b < w.heap.size := (Array.getElem?_eq_some_iff.1 h).1
theorem VarC.lt {w : World} {b : Nat} {cs : Array Value} {p : Nat → Bool} {kk : Int} (h : VarC A w b cs p kk) : b < w.heap.size := blk_lt h.hb
theorem cn_memb {w : World} {v : Value} {p : Nat → Bool} {kk : Int} (hp : p 65536 = false) (h : Cn A w v (memb (listS p 65536)) kk) : Cn A w v p kk := h.congr hp fun i hi => memb_listS p hi
end Go.Proofs.YtjiacignpmabcaaDoor
