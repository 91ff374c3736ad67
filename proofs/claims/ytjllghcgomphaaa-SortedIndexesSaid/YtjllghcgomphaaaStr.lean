/- Bytes as a string. -/
import Derived.Test.YtjllghcgomphaaaIns
import Derived.Laws.BytesArg
set_option linter.unusedSimpArgs false
set_option linter.unusedVariables false
namespace Go.LA
open Go.RowKit

section
variable {P : Program} {l : List Oper} {N : Nat} {wb : World} {K : List Oper → Env → Prop} {rest : List Oper} {E : Env} {Q : Exit → Act → World → Prop}
variable {d : Tmp} {ty t t' : TypeId} {pos : String} {after : Array Edge} {g : Option (Nat × Bool)} {x y z : Operand} {k k' : IntKind}

theorem run_bstr {w : World} {v : Value} {xs : List Int} {src dst e : TypeId} (h : SlI .u8 w v xs) (hs : P.underlying src = some (.slice e)) (he : P.underlying e = some (.int .u8)) (hd : P.underlying dst = some .string) :
    (convert src dst v).run P w = .ok (.string (strOfNums xs)) w := by
  obtain ⟨h0, a, cap, rfl, hc, hm, hn, hcs⟩ := h
  cases a with
  | none =>
    obtain rfl := hn rfl
    obtain rfl : xs = [] := List.eq_nil_of_length_eq_zero (by omega)
    exact run_convert_bytes_nil w src e hs he _ _ dst hd
  | some a =>
    rcases hcs with h1 | ⟨b, off, ha, hcell⟩
    · obtain rfl : xs = [] := List.eq_nil_of_length_eq_zero h1
      rw [List.length_nil, run_convert_bytes_string w src dst e _ _ cap hs he hd, run_bytesToString w a 0 cap [] (by rfl), foldl_push_bytes]
      rfl
    · obtain rfl := Option.some.inj ha
      exact run_convert_bytes_arg w src e hs he b off _ cap xs rfl (fun i hi => hcell i _ (by simp [List.getD, List.getElem?_eq_getElem hi])) dst hd
theorem LA_bstr {src dst e : TypeId} {r : AD} {xs : List Int} (hg : gdec l E g = some true) (hs : P.underlying src = some (.slice e)) (he : P.underlying e = some (.int .u8)) (hd : P.underlying dst = some .string) (hr : opE E x = r) (hx : HasI wb r .u8 xs)
    (h : LA P l wb K rest ((d, .val (.string (strOfNums xs))) :: E)) : LA P l wb K (⟨some d, .convert src dst x, ty, pos, after, g⟩ :: rest) E :=
  LA_of _ hg (OB_val fun a w he' hh => by
    have e1 := hh x (by simp [Op.operands])
    rw [hr] at e1
    have := run_bstr (P := P) (hx _ _ he' e1) hs he hd
    simp only [execOp, Sem.run_bind, this, Result.andThen_ok, Sem.run_pure]) h
theorem LA_strEq {a b : ByteArray} (hg : gdec l E g = some true) (ht : P.underlying t = some .string) (hx : opE E x = .val (.string a)) (hy : opE E y = .val (.string b)) (h : LA P l wb K rest ((d, .val (.bool (a.toList == b.toList))) :: E)) :
    LA P l wb K (⟨some d, .binOp .eql t x y t', ty, pos, after, g⟩ :: rest) E :=
  LA_binV hg hx hy (fun w => by simp [eqGuard, binOp, Op.equal, Op.stringOp, run_underlying ht]) h
theorem LA_strEqT {a b : ByteArray} (hg : gdec l E g = some true) (ht : P.underlying t = some .string) (hx : opE E x = .val (.string a)) (hy : opE E y = .val (.string b)) (hab : a = b) (h : LA P l wb K rest ((d, .val (.bool true)) :: E)) :
    LA P l wb K (⟨some d, .binOp .eql t x y t', ty, pos, after, g⟩ :: rest) E :=
  LA_strEq hg ht hx hy (by subst hab; simpa using h)
theorem LA_strNeF {a b : ByteArray} (hg : gdec l E g = some true) (ht : P.underlying t = some .string) (hx : opE E x = .val (.string a)) (hy : opE E y = .val (.string b)) (hab : a = b) (h : LA P l wb K rest ((d, .val (.bool false)) :: E)) :
    LA P l wb K (⟨some d, .binOp .neq t x y t', ty, pos, after, g⟩ :: rest) E :=
  LA_binV (c := .bool false) hg hx hy (fun w => by subst hab; simp [eqGuard, binOp, Op.equal, Op.stringOp, run_underlying ht]) h
end
end Go.LA
