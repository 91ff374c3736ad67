import Derived.Test.YtjllghcgomphaaaS8
set_option linter.unusedSimpArgs false
set_option linter.unusedVariables false
namespace Go.Proofs.Ytjllghcgomphaaa
open Go.LA Go.RowKit Go.SrtP

theorem val_le (n : Int) (h0 : 0 ≤ n) (h1 : n < 4294967296) : valS (leS n 4) = n := by
  simp only [leS, valS]; omega
theorem bytes_at (es : List Int) (k : Nat) (hk : k < es.length) : ((bytesS es).take (4 * k + 4)).drop (4 * k) = leS (es.getD k 0) 4 := by
  have h1 : bytesS es = bytesS (es.take (k + 1)) ++ bytesS (es.drop (k + 1)) := by rw [← bytes_app, List.take_append_drop]
  have l1 : (bytesS (es.take (k + 1))).length = 4 * k + 4 := by rw [bytes_len, List.length_take]; omega
  have l2 : (bytesS (es.take k)).length = 4 * k := by rw [bytes_len, List.length_take]; omega
  rw [h1, List.take_append_of_le_length (by omega), List.take_of_length_le (by omega), bytes_take es k hk, List.drop_append_of_le_length (by omega), List.drop_of_length_le (by omega), List.nil_append]
theorem ends_back {ids : List Int} {n : Nat} {es : List Int} (hg : SrtP.Good ids n es) (hn : n ≤ 16777216) : ∀ k, k ≤ es.length → endsS (bytesS es) k = some (es.take k)
  | 0, _ => rfl
  | k + 1, hk => by
    have hlt : k < es.length := by omega
    have h1 := hg.up k hlt
    have h2 := hg.beg_nonneg k (by omega)
    have h3 := hg.le hlt
    have hb : beg (es.take k) (es.take k).length = beg es k := by
      rw [List.length_take, Nat.min_eq_left (by omega)]
      simp only [beg]; split
      · rfl
      · simp [List.getD, List.getElem?_take, show k - 1 < k by omega]
    simp only [endsS, ends_back hg hn k (by omega), Option.bind_some, bytes_at es k hlt, val_le _ (by omega : 0 ≤ es.getD k 0) (by omega), hb]
    rw [if_neg (by omega), List.take_succ_eq_append_getElem hlt]
    simp [List.getD, List.getElem?_eq_getElem hlt]
end Go.Proofs.Ytjllghcgomphaaa
