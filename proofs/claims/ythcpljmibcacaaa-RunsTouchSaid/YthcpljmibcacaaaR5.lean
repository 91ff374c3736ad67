import Derived.Test.YthcpljmibcacaaaR4

set_option linter.unusedSimpArgs false
set_option linter.unusedVariables false
namespace Go.Proofs.Ythcpljmibcacaaa
open Go.LA Go.ArrP Go.RowKit
/-! ### The runs of an array -/
theorem last_cells {a : List Rn} {f m : Int} : cellsR (a ++ [(f, m)]) = cellsR a ++ [.int .u16 f, .int .u16 m] := by rw [cellsR_app]; rfl
theorem last_at {cur : Array Value} {a : List Rn} {f m : Int} (h : cur.toList.take ((a ++ [(f, m)]).length * 2) = cellsR (a ++ [(f, m)])) : cur[a.length * 2 + 1]? = some (.int .u16 m) := by
  rw [last_cells, List.length_append] at h
  have h1 := congrArg (fun l => l[a.length * 2 + 1]?) h
  simp only [List.getElem?_take] at h1
  rw [if_pos (by simp; omega), List.getElem?_append_right (by rw [cellsR_len]; omega), cellsR_len, show a.length * 2 + 1 - a.length * 2 = 1 by omega] at h1
  rw [← Array.getElem?_toList, h1]; rfl
theorem OwnR.bump {base e b cap : Nat} {w : World} {cur : Array Value} {a : List Rn} {f m : Int} (hb : base ≤ b) (hg : w.heap[b]? = some (.cells cur e (0, 0))) (hnc : (a ++ [(f, m)]).length ≤ cap) (hm : cap ≤ maxLen) (hsz : cur.size = cap * 2) (ht : cur.toList.take ((a ++ [(f, m)]).length * 2) = cellsR (a ++ [(f, m)])) (c : Int) :
    OwnR base e (w.setRow b (cur.setIfInBounds (a.length * 2 + 1) (.int .u16 c))) (.slice (some ⟨b, 0, none⟩) (a ++ [(f, m)]).length cap) (a ++ [(f, c)]) := by
  have hl : (a ++ [(f, c)]).length = (a ++ [(f, m)]).length := by simp
  unfold OwnR
  rw [hl]
  refine ⟨by rw [cellsR_len, hl], .inr ⟨b, cap, cur.setIfInBounds (a.length * 2 + 1) (.int .u16 c), rfl, hb, setRow_heap w b cur _ e _ hg, hnc, hm, by simpa using hsz, ?_⟩⟩
  rw [Array.toList_setIfInBounds, List.take_set, ht, last_cells, last_cells, List.set_append_right _ _ (by rw [cellsR_len]; omega), cellsR_len, show a.length * 2 + 1 - a.length * 2 = 1 by omega]
  rfl
def Tk (xs : List Int) : Nat → Nat
  | 0 => 0
  | k + 1 => (xs.getD k 0).toNat + 1
theorem inc_gap {xs : List Int} (h : Inc xs) (hl : Low xs) {k : Nat} (hk : k < xs.length) : Tk xs k ≤ (xs.getD k 0).toNat ∧ (∀ z, Tk xs k ≤ z → z < (xs.getD k 0).toNat → memb xs z = false) ∧ memb xs (xs.getD k 0).toNat = true := by
  have hb : ∀ j, j < xs.length → 0 ≤ xs.getD j 0 ∧ xs.getD j 0 < 65536 := fun j hj => by rw [getD_eq hj]; exact hl _ (List.getElem_mem hj)
  have hlt : ∀ i j, i < j → j < xs.length → xs.getD i 0 < xs.getD j 0 := fun i j hij hj => by
    rw [getD_eq hj, getD_eq (by omega)]
    exact List.pairwise_iff_getElem.1 h i j (by omega) hj hij
  refine ⟨?_, fun z h1 h2 => ?_, ?_⟩
  · cases k with
    | zero => exact Nat.zero_le _
    | succ k => have := hlt k (k + 1) (by omega) hk; have := hb k (by omega); simp only [Tk]; omega
  · unfold memb
    refine decide_eq_false fun hm => ?_
    obtain ⟨j, hj, he⟩ := List.getElem_of_mem hm
    have he' : xs.getD j 0 = z := by rw [getD_eq hj]; exact he
    rcases Nat.lt_or_ge j k with h3 | h3
    · obtain ⟨k', rfl⟩ : ∃ k', k = k' + 1 := ⟨k - 1, by omega⟩
      simp only [Tk] at h1
      rcases Nat.lt_or_ge j k' with h4 | h4
      · have := hlt j k' h4 (by omega); have := hb k' (by omega); omega
      · obtain rfl : j = k' := by omega
        omega
    · rcases Nat.lt_or_ge k j with h4 | h4
      · have := hlt k j h4 hj; have := hb k hk; omega
      · obtain rfl : j = k := by omega
        omega
  · unfold memb
    have := hb k hk
    rw [show (((xs.getD k 0).toNat : Nat) : Int) = xs.getD k 0 by omega]
    exact decide_eq_true (by rw [getD_eq hk]; exact List.getElem_mem hk)
set_option maxHeartbeats 4000000 in
theorem rofR_c (w : World) (v : Value) (xs : List Int) (h : SlI .u16 w v xs) (hi : Inc xs) (hl : Low xs) : Fc Try.prog 17 #[v] w (Ret w (.pred (ownR w.heap.size 25 (runsL (memb xs))))) := by
  have hlen := h.len
  refine Fc.of (args := [_]) Try.func17 rfl rfl Try.ntmps17 (Nat.le_of_ble_eq_true rfl) ?_
  repeat' (first
    | (show LA _ _ _ _ _ _; first
      | refine LA_pass rfl ?_
      | (show LA _ _ _ _ (⟨_, .move _, _, _, _, _⟩ :: _) _; first
          | refine LA_moveV rfl rfl ?_
          | refine LA_moveP rfl rfl ?_
          | refine LA_moveT rfl rfl ?_
          | refine LA_moveU rfl rfl ?_)
      | (show LA _ _ _ _ (⟨_, .assign _, _, _, _, _⟩ :: _) _; first
          | refine LA_assignV rfl rfl ?_
          | refine LA_assignP rfl rfl ?_
          | refine LA_assignT rfl rfl ?_)
      | (show LA _ _ _ _ (⟨_, .pick _ _ _, _, _, _, _⟩ :: _) _; first
          | refine LA_pickTV rfl rfl rfl ?_
          | refine LA_pickFV rfl rfl rfl ?_)
      | (show LA _ _ _ _ (⟨_, .unOp .not _ _, _, _, _, _⟩ :: _) _; first
          | refine LA_notT rfl rfl ?_
          | refine LA_notF rfl rfl ?_
          | refine LA_not rfl rfl ?_)
      | (show LA _ _ _ _ (⟨_, .extract _ _, _, _, _, _⟩ :: _) _; first
          | refine LA_ext0 rfl rfl ?_
          | refine LA_ext1 rfl rfl ?_
          | refine LA_ext30 rfl rfl ?_
          | refine LA_ext31 rfl rfl ?_
          | refine LA_ext32 rfl rfl ?_)
      | (show LA _ _ _ _ (⟨_, .binOp .add _ _ _ _, _, _, _, _⟩ :: _) _; first
          | refine LA_addF rfl rfl rfl (by dsimp only [fits]; omega) ?_
          | refine LA_addW rfl rfl rfl ?_)
      | (show LA _ _ _ _ (⟨_, .binOp .sub _ _ _ _, _, _, _, _⟩ :: _) _; first
          | refine LA_subF rfl rfl rfl (by dsimp only [fits]; omega) ?_
          | refine LA_subW rfl rfl rfl ?_)
      | (show LA _ _ _ _ (⟨_, .binOp .mul _ _ _ _, _, _, _, _⟩ :: _) _; first
          | refine LA_mulF rfl rfl rfl (by dsimp only [fits]; omega) ?_
          | refine LA_mulW rfl rfl rfl ?_)
      | (show LA _ _ _ _ (⟨_, .binOp .quo _ _ _ _, _, _, _, _⟩ :: _) _; first
          | refine LA_quo rfl rfl rfl (by omega) (by omega) (by dsimp only [fits]; omega) ?_)
      | (show LA _ _ _ _ (⟨_, .binOp .rem _ _ _ _, _, _, _, _⟩ :: _) _; first
          | refine LA_rem rfl rfl rfl (by omega) (by omega) (by dsimp only [fits]; omega) ?_)
      | (show LA _ _ _ _ (⟨_, .binOp .shr _ _ _ _, _, _, _, _⟩ :: _) _; first
          | (refine LA_shr rfl rfl rfl (by omega) (by dsimp only [IntKind.bits]; omega) ?_; try dsimp only [Int.reduceToNat, Int.reducePow]))
      | (show LA _ _ _ _ (⟨_, .binOp .shl _ _ _ _, _, _, _, _⟩ :: _) _; first
          | (refine LA_shl rfl rfl rfl (by omega) (by dsimp only [IntKind.bits]; omega) ?_; try dsimp only [Int.reduceToNat, Int.reducePow]))
      | (show LA _ _ _ _ (⟨_, .binOp _ _ _ _ _, _, _, _, _⟩ :: _) _; first
          | refine LA_cmpT rfl rfl rfl rfl (by first | (dsimp only [cmpP]; done) | (dsimp only [cmpP]; omega)) ?_
          | refine LA_cmpF rfl rfl rfl rfl (by dsimp only [cmpP]; omega) ?_
          | (refine LA_cmp rfl rfl rfl rfl (fun hc => ?_) (fun hc => ?_) <;> dsimp only [cmpP] at hc)
          | refine LA_boolEqT rfl rfl rfl rfl (by first | rfl | assumption) ?_
          | refine LA_boolEqF rfl rfl rfl rfl (by first | assumption | decide) ?_
          | refine LA_boolEq rfl rfl rfl rfl ?_
          | refine LA_boolNeT rfl rfl rfl rfl (by first | assumption | decide) ?_
          | refine LA_boolNeF rfl rfl rfl rfl (by first | rfl | assumption) ?_
          | refine LA_boolNe rfl rfl rfl rfl ?_)
      | (show LA _ _ _ _ (⟨_, .indexAddr _ _ _, _, _, _, _⟩ :: _) _; first
          | refine LA_indexN rfl _ rfl (fun _ => rfl) rfl (by first | exact HasI.val (by assumption) | exact HasI.pred | exact HasI.own | exact HasI.ownV (by assumption)) rfl (by omega) ?_
          | (refine LA_index rfl _ rfl (fun _ => rfl) rfl (by first | exact HasI.val (by assumption) | exact HasI.pred | exact HasI.own | exact HasI.ownV (by assumption)) rfl (by omega) (by omega) ?_; try dsimp only [Int.reduceToNat]))
      | (show LA _ _ _ _ (⟨_, .load _ _, _, _, _, _⟩ :: _) _; first
          | refine LA_load rfl (fun _ => rfl) rfl ?_)
      | (show LA _ _ _ _ (⟨_, .convert _ _ _, _, _, _, _⟩ :: _) _; first
          | refine LA_convF rfl rfl rfl rfl (by dsimp only [fits]; omega) ?_
          | refine LA_conv rfl rfl rfl rfl ?_)
      | (show LA _ _ _ _ (⟨_, .slice _ _ _ _ _, _, _, _, _⟩ :: _) _; first
          | (refine LA_sliceL rfl _ rfl rfl (by first | exact (HasI.val (by assumption)).c | exact HasI.pred.c | exact HasC.val (by assumption) | exact HasC.pred | exact HasI.own.c | exact HasC.own | exact (HasI.ownV (by assumption)).c | exact HasC.ownV (by assumption)) rfl (by omega) (by omega) (by exact fun _ => rfl) ?_; try dsimp only [Int.reduceToNat, Int.toNat_natCast])
          | (refine LA_sliceH rfl _ rfl rfl (by first | exact (HasI.val (by assumption)).c | exact HasI.pred.c | exact HasC.val (by assumption) | exact HasC.pred | exact HasI.own.c | exact HasC.own | exact (HasI.ownV (by assumption)).c | exact HasC.ownV (by assumption)) rfl (by omega) (by omega) (by exact fun _ => rfl) ?_; try dsimp only [Int.reduceToNat, Int.toNat_natCast])
          | (refine LA_sliceLH rfl _ rfl rfl (by first | exact (HasI.val (by assumption)).c | exact HasI.pred.c | exact HasC.val (by assumption) | exact HasC.pred | exact HasI.own.c | exact HasC.own | exact (HasI.ownV (by assumption)).c | exact HasC.ownV (by assumption)) rfl rfl (by omega) (by omega) (by omega) (by exact fun _ => rfl) ?_; try dsimp only [Int.reduceToNat, Int.toNat_natCast]))
      | (show LA _ _ _ _ (⟨_, .call ⟨.builtin .len, _, _⟩, _, _, _, _⟩ :: _) _; first
          | refine LA_len rfl _ rfl rfl (by first | exact (HasI.val (by assumption)).c | exact HasI.pred.c | exact HasC.val (by assumption) | exact HasC.pred | exact HasI.own.c | exact HasC.own | exact (HasI.ownV (by assumption)).c | exact HasC.ownV (by assumption)) ?_)
      | (refine LA_nil (hK [] _ (LX_nil ?_)); clear hK K)
      | (refine LA_nil (hK _ ?_); clear hK K))
    | (show CX _ _ _ _ _ _; first
      | refine CX_seq ?_
      | refine CX_skip ?_
      | refine CX_block ?_
      | refine CX_exit ?_
      | refine CX_ret ?_
      | refine CX_condT rfl ?_
      | refine CX_condF rfl ?_
      | refine CX_region (by kernel_rfl) (fun K hK => ?_)
      | refine CX_regionA (by kernel_rfl) (by kernel_rfl) (fun K hK => ?_)
      | refine CX_label ?_
      | refine CX_scope ?_)
    | (show PX _ _ _ _ _; first
      | refine PX_then ?_
      | refine PX_thenX ?_
      | refine PX_thenR ?_
      | refine PX_blockN ?_
      | refine PX_blockR ?_
      | refine PX_blockX ?_
      | refine PX_blockO (by decide) ?_
      | refine PX_scopeN ?_
      | refine PX_scopeR ?_
      | refine PX_scopeX ?_)
    | (show LX _ _ _ _ _ _ _; first
      | refine LX_nil ?_))
  refine CX_loopV (ι := Nat × Value) (fun i => [(0, .val v), (3, .val i.2), (6, .val v), (7, .val (.int .i64 xs.length)), (8, .val (.int .i64 i.1))]) (fun i w' => Ext w w' ∧ i.1 ≤ xs.length ∧ OwnR w.heap.size 25 w' i.2 (opn (memb xs) (Tk xs i.1))) (fun i => xs.length - i.1)
    (fun w2 e2 => ⟨(0, .slice none 0 0), ⟨e2, Nat.zero_le _, OwnR.nil⟩, (by repeat' (first | exact Sub.nil | refine Sub.val rfl (by first | with_reducible rfl | (congr 1; omega)) ?_ | refine Sub.same rfl ?_))⟩) ?_
  rintro ⟨k, so⟩ w1 ⟨he, hk, ho⟩
  dsimp only at hk ho ⊢
  have h1 := h.ext he
  by_cases hkl : k < xs.length
  · obtain ⟨g1, g2, g3⟩ := inc_gap hi hl hkl
    have hxb : 0 ≤ xs.getD k 0 ∧ xs.getD k 0 < 65536 := by rw [getD_eq hkl]; exact hl _ (List.getElem_mem hkl)
    obtain ⟨X, hX⟩ := Int.eq_ofNat_of_zero_le hxb.1
    have hXb : X < 65536 := by omega
    have hTs : Tk xs (k + 1) = X + 1 := by simp only [Tk]; rw [hX]; rfl
    rw [hX, Int.toNat_natCast] at g1 g2 g3
    have hof := opn_flat X g1 g2
    rw [← hof] at ho
    by_cases hA : 0 < k ∧ Tk xs k = X
    · obtain ⟨j, rfl⟩ : ∃ j, k = j + 1 := ⟨k - 1, by omega⟩
      have hjb : 0 ≤ xs.getD j 0 ∧ xs.getD j 0 < 65536 := by rw [getD_eq (by omega)]; exact hl _ (List.getElem_mem _)
      have hjX : xs.getD j 0 + 1 = X := by have := hA.2; simp only [Tk] at this; omega
      have hji : (((j + 1 : Nat) : Int) - 1) = (j : Int) := by omega
      obtain ⟨Y, rfl⟩ : ∃ Y, X = Y + 1 := ⟨X - 1, by omega⟩
      have hbl : bel (memb xs) (Y + 1) = true := by
        show memb xs Y = true
        have := (inc_gap hi hl (k := j) (by omega)).2.2
        rwa [show (xs.getD j 0).toNat = Y by omega] at this
      have hfl := frm_lt (memb xs) (Y + 1) hbl
      rw [opn_at hbl] at ho
      have hnew := opn_more g3 hbl
      obtain ⟨f, hf⟩ : ∃ f : Int, f = frm (memb xs) (Y + 1) := ⟨_, rfl⟩
      obtain ⟨a, ha⟩ : ∃ a, a = rnC (memb xs) (Y + 1) := ⟨_, rfl⟩
      obtain ⟨m, hm⟩ : ∃ m : Int, m = ((Y + 1 : Nat) : Int) - f - 1 := ⟨_, rfl⟩
      rw [← hf, ← ha, ← hm] at ho
      rw [← hf, ← ha, show ((Y + 1 : Nat) : Int) - f = m + 1 by omega, ← hTs] at hnew
      have hal : a.length ≤ Y + 1 := ha ▸ rnC_len _ _
      have hfb : 0 ≤ f ∧ f < Y + 1 := by omega
      obtain ⟨gb, cap, cur, rfl, hgb, hgc, hgn, hgm, hgs, hgt⟩ := ho.row (by simp)
      have hra := last_at hgt
      have hln : ((a ++ [(f, m)]).length : Int) = (a.length : Int) + 1 := by simp
      have hlN : (a ++ [(f, m)]).length = a.length + 1 := by simp
      repeat' (first
        | (show LA _ _ _ _ _ _; first
          | refine LA_pass rfl ?_
          | (show LA _ _ _ _ (⟨some 19, _, _, _, _, _⟩ :: _) _; refine LA_subF rfl rfl rfl (by dsimp only [fits]; omega) ?_; rw [hji])
          | (show LA _ _ _ _ (⟨some 12, _, _, _, _, _⟩ :: _) _; refine LA_load rfl (fun _ => rfl) rfl ?_; rw [hX])
          | (show LA _ _ _ _ (⟨some 27, _, _, _, _, _⟩ :: _) _; refine LA_lenR rfl _ rfl rfl (HasR.ownV ho) ?_; rw [hln])
          | (show LA _ _ _ _ (⟨some 28, _, _, _, _, _⟩ :: _) _; refine LA_subF rfl rfl rfl (by dsimp only [fits]; omega) ?_; rw [Int.add_sub_cancel])
          | (show LA _ _ _ _ (⟨some 29, _, _, _, _, _⟩ :: _) _; refine LA_indexS (s := 2) rfl rfl (fun _ => rfl) rfl rfl (by omega) (by omega) ?_; rw [Int.toNat_natCast])
          | (show LA _ _ _ _ (⟨some 33, _, _, _, _, _⟩ :: _) _; refine LA_indexS (s := 2) rfl rfl (fun _ => rfl) rfl rfl (by omega) (by omega) ?_; rw [Int.toNat_natCast])
          | (show LA _ _ _ _ (⟨_, .fieldAddr _ _ 1, _, _, _, _⟩ :: _) _; refine LA_fieldAddr (a := ⟨gb, 0 + a.length * 2, none⟩) (a' := ⟨gb, a.length * 2 + 1, none⟩) rfl rfl (fun w => by rw [Nat.zero_add]; rfl) ?_)
          | (show LA _ _ _ _ (⟨some 31, _, _, _, _, _⟩ :: _) _; refine LA_loadB rfl (fun _ => rfl) rfl hgc hra ?_)
          | (refine LA_stop (hK _ _ (LX_store1 rfl rfl rfl hgc (fun _ => rfl) (by omega) rfl rfl (fun w4 e4 => ?_))); clear hK K; dsimp only [vals]; refine LX_la (by kernel_rfl) (fun K hK => ?_))
          | (show LA _ _ _ _ (⟨_, .move _, _, _, _, _⟩ :: _) _; first
              | refine LA_moveV rfl rfl ?_
              | refine LA_moveP rfl rfl ?_
              | refine LA_moveT rfl rfl ?_
              | refine LA_moveU rfl rfl ?_)
          | (show LA _ _ _ _ (⟨_, .assign _, _, _, _, _⟩ :: _) _; first
              | refine LA_assignV rfl rfl ?_
              | refine LA_assignP rfl rfl ?_
              | refine LA_assignT rfl rfl ?_)
          | (show LA _ _ _ _ (⟨_, .pick _ _ _, _, _, _, _⟩ :: _) _; first
              | refine LA_pickTV rfl rfl rfl ?_
              | refine LA_pickFV rfl rfl rfl ?_)
          | (show LA _ _ _ _ (⟨_, .unOp .not _ _, _, _, _, _⟩ :: _) _; first
              | refine LA_notT rfl rfl ?_
              | refine LA_notF rfl rfl ?_
              | refine LA_not rfl rfl ?_)
          | (show LA _ _ _ _ (⟨_, .extract _ _, _, _, _, _⟩ :: _) _; first
              | refine LA_ext0 rfl rfl ?_
              | refine LA_ext1 rfl rfl ?_
              | refine LA_ext30 rfl rfl ?_
              | refine LA_ext31 rfl rfl ?_
              | refine LA_ext32 rfl rfl ?_)
          | (show LA _ _ _ _ (⟨_, .binOp .add _ _ _ _, _, _, _, _⟩ :: _) _; first
              | refine LA_addF rfl rfl rfl (by dsimp only [fits]; omega) ?_
              | refine LA_addW rfl rfl rfl ?_)
          | (show LA _ _ _ _ (⟨_, .binOp .sub _ _ _ _, _, _, _, _⟩ :: _) _; first
              | refine LA_subF rfl rfl rfl (by dsimp only [fits]; omega) ?_
              | refine LA_subW rfl rfl rfl ?_)
          | (show LA _ _ _ _ (⟨_, .binOp .mul _ _ _ _, _, _, _, _⟩ :: _) _; first
              | refine LA_mulF rfl rfl rfl (by dsimp only [fits]; omega) ?_
              | refine LA_mulW rfl rfl rfl ?_)
          | (show LA _ _ _ _ (⟨_, .binOp .quo _ _ _ _, _, _, _, _⟩ :: _) _; first
              | refine LA_quo rfl rfl rfl (by omega) (by omega) (by dsimp only [fits]; omega) ?_)
          | (show LA _ _ _ _ (⟨_, .binOp .rem _ _ _ _, _, _, _, _⟩ :: _) _; first
              | refine LA_rem rfl rfl rfl (by omega) (by omega) (by dsimp only [fits]; omega) ?_)
          | (show LA _ _ _ _ (⟨_, .binOp .shr _ _ _ _, _, _, _, _⟩ :: _) _; first
              | (refine LA_shr rfl rfl rfl (by omega) (by dsimp only [IntKind.bits]; omega) ?_; try dsimp only [Int.reduceToNat, Int.reducePow]))
          | (show LA _ _ _ _ (⟨_, .binOp .shl _ _ _ _, _, _, _, _⟩ :: _) _; first
              | (refine LA_shl rfl rfl rfl (by omega) (by dsimp only [IntKind.bits]; omega) ?_; try dsimp only [Int.reduceToNat, Int.reducePow]))
          | (show LA _ _ _ _ (⟨_, .binOp _ _ _ _ _, _, _, _, _⟩ :: _) _; first
              | refine LA_cmpT rfl rfl rfl rfl (by first | (dsimp only [cmpP]; done) | (dsimp only [cmpP]; omega)) ?_
              | refine LA_cmpF rfl rfl rfl rfl (by dsimp only [cmpP]; omega) ?_
              | (refine LA_cmp rfl rfl rfl rfl (fun hc => ?_) (fun hc => ?_) <;> dsimp only [cmpP] at hc)
              | refine LA_boolEqT rfl rfl rfl rfl (by first | rfl | assumption) ?_
              | refine LA_boolEqF rfl rfl rfl rfl (by first | assumption | decide) ?_
              | refine LA_boolEq rfl rfl rfl rfl ?_
              | refine LA_boolNeT rfl rfl rfl rfl (by first | assumption | decide) ?_
              | refine LA_boolNeF rfl rfl rfl rfl (by first | rfl | assumption) ?_
              | refine LA_boolNe rfl rfl rfl rfl ?_)
          | (show LA _ _ _ _ (⟨_, .indexAddr _ _ _, _, _, _, _⟩ :: _) _; first
              | refine LA_indexN rfl _ rfl (fun _ => rfl) rfl (by first | exact HasI.val (by assumption) | exact HasI.pred | exact HasI.own | exact HasI.ownV (by assumption)) rfl (by omega) ?_
              | (refine LA_index rfl _ rfl (fun _ => rfl) rfl (by first | exact HasI.val (by assumption) | exact HasI.pred | exact HasI.own | exact HasI.ownV (by assumption)) rfl (by omega) (by omega) ?_; try dsimp only [Int.reduceToNat]))
          | (show LA _ _ _ _ (⟨_, .load _ _, _, _, _, _⟩ :: _) _; first
              | refine LA_load rfl (fun _ => rfl) rfl ?_)
          | (show LA _ _ _ _ (⟨_, .convert _ _ _, _, _, _, _⟩ :: _) _; first
              | refine LA_convF rfl rfl rfl rfl (by dsimp only [fits]; omega) ?_
              | refine LA_conv rfl rfl rfl rfl ?_)
          | (show LA _ _ _ _ (⟨_, .slice _ _ _ _ _, _, _, _, _⟩ :: _) _; first
              | (refine LA_sliceL rfl _ rfl rfl (by first | exact (HasI.val (by assumption)).c | exact HasI.pred.c | exact HasC.val (by assumption) | exact HasC.pred | exact HasI.own.c | exact HasC.own | exact (HasI.ownV (by assumption)).c | exact HasC.ownV (by assumption)) rfl (by omega) (by omega) (by exact fun _ => rfl) ?_; try dsimp only [Int.reduceToNat, Int.toNat_natCast])
              | (refine LA_sliceH rfl _ rfl rfl (by first | exact (HasI.val (by assumption)).c | exact HasI.pred.c | exact HasC.val (by assumption) | exact HasC.pred | exact HasI.own.c | exact HasC.own | exact (HasI.ownV (by assumption)).c | exact HasC.ownV (by assumption)) rfl (by omega) (by omega) (by exact fun _ => rfl) ?_; try dsimp only [Int.reduceToNat, Int.toNat_natCast])
              | (refine LA_sliceLH rfl _ rfl rfl (by first | exact (HasI.val (by assumption)).c | exact HasI.pred.c | exact HasC.val (by assumption) | exact HasC.pred | exact HasI.own.c | exact HasC.own | exact (HasI.ownV (by assumption)).c | exact HasC.ownV (by assumption)) rfl rfl (by omega) (by omega) (by omega) (by exact fun _ => rfl) ?_; try dsimp only [Int.reduceToNat, Int.toNat_natCast]))
          | (show LA _ _ _ _ (⟨_, .call ⟨.builtin .len, _, _⟩, _, _, _, _⟩ :: _) _; first
              | refine LA_len rfl _ rfl rfl (by first | exact (HasI.val (by assumption)).c | exact HasI.pred.c | exact HasC.val (by assumption) | exact HasC.pred | exact HasI.own.c | exact HasC.own | exact (HasI.ownV (by assumption)).c | exact HasC.ownV (by assumption)) ?_)
          | (refine LA_nil (hK [] _ (LX_nil ?_)); clear hK K)
          | (refine LA_nil (hK _ ?_); clear hK K))
        | (show CX _ _ _ _ _ _; first
          | refine CX_seq ?_
          | refine CX_skip ?_
          | refine CX_block ?_
          | refine CX_exit ?_
          | refine CX_ret ?_
          | refine CX_condT rfl ?_
          | refine CX_condF rfl ?_
          | refine CX_region (by kernel_rfl) (fun K hK => ?_)
          | refine CX_regionA (by kernel_rfl) (by kernel_rfl) (fun K hK => ?_)
          | refine CX_label ?_
          | refine CX_scope ?_)
        | (show PX _ _ _ _ _; first
          | refine PX_then ?_
          | refine PX_thenX ?_
          | refine PX_thenR ?_
          | refine PX_blockN ?_
          | refine PX_blockR ?_
          | refine PX_blockX ?_
          | refine PX_blockO (by decide) ?_
          | refine PX_scopeN ?_
          | refine PX_scopeR ?_
          | refine PX_scopeX ?_)
        | (show LX _ _ _ _ _ _ _; first
          | refine LX_nil ?_))
      refine PX_rndV (j + 1 + 1, _) (fun w5 e5 => ⟨((he.trans e4).setRow hgb _).trans e5, hkl, ?_⟩) (by dsimp only; omega) (by repeat' (first | exact Sub.nil | refine Sub.val rfl (by first | with_reducible rfl | (congr 1; omega)) ?_ | refine Sub.same rfl ?_))
      dsimp only
      rw [hnew]
      exact OwnR.ext (OwnR.bump hgb (e4.block hgc) hgn hgm hgs hgt (m + 1)) e5
    · have hbl : bel (memb xs) X = false := by
        cases X with
        | zero => rfl
        | succ Y =>
          show memb xs Y = false
          cases k with
          | zero => exact g2 Y (Nat.zero_le _) (by omega)
          | succ j => exact g2 Y (by have : ¬ Tk xs (j + 1) = Y + 1 := fun e => hA ⟨by omega, e⟩; omega) (by omega)
      have hnew := opn_new g3 hbl
      rw [← hTs] at hnew
      have hol : (opn (memb xs) X).length ≤ X := by rw [many_opn]; exact cnt_le _ _
      by_cases hk0 : 0 < k
      · obtain ⟨j, rfl⟩ : ∃ j, k = j + 1 := ⟨k - 1, by omega⟩
        have hjb : 0 ≤ xs.getD j 0 ∧ xs.getD j 0 < 65536 := by rw [getD_eq (by omega)]; exact hl _ (List.getElem_mem _)
        have hjX : ¬ (X : Int) = xs.getD j 0 + 1 := fun e => hA ⟨by omega, by simp only [Tk]; omega⟩
        have hjl : xs.getD j 0 + 1 ≤ X := by have := g1; simp only [Tk] at this; omega
        have hji : (((j + 1 : Nat) : Int) - 1) = (j : Int) := by omega
        repeat' (first
          | (show LA _ _ _ _ _ _; first
            | refine LA_pass rfl ?_
            | (show LA _ _ _ _ (⟨some 19, _, _, _, _, _⟩ :: _) _; refine LA_subF rfl rfl rfl (by dsimp only [fits]; omega) ?_; rw [hji])
            | (show LA _ _ _ _ (⟨some 12, _, _, _, _, _⟩ :: _) _; refine LA_load rfl (fun _ => rfl) rfl ?_; rw [hX])
            | refine LA_build1 (c := runV X 0) rfl rfl (fun w => run_build w _ _ _ (by kernel_rfl)) ?_
            | refine LA_oneS rfl run_el rfl rfl (by decide) ?_
            | (refine LA_stop (hK _ _ (LX_appendR rfl (by decide) run_el rfl ho rfl (by omega) (by omega) he (fun v' w' he' ho' => ?_))); clear hK K; dsimp only [vals]; refine LX_la (by kernel_rfl) (fun K hK => ?_))
            | (show LA _ _ _ _ (⟨_, .move _, _, _, _, _⟩ :: _) _; first
                | refine LA_moveV rfl rfl ?_
                | refine LA_moveP rfl rfl ?_
                | refine LA_moveT rfl rfl ?_
                | refine LA_moveU rfl rfl ?_)
            | (show LA _ _ _ _ (⟨_, .assign _, _, _, _, _⟩ :: _) _; first
                | refine LA_assignV rfl rfl ?_
                | refine LA_assignP rfl rfl ?_
                | refine LA_assignT rfl rfl ?_)
            | (show LA _ _ _ _ (⟨_, .pick _ _ _, _, _, _, _⟩ :: _) _; first
                | refine LA_pickTV rfl rfl rfl ?_
                | refine LA_pickFV rfl rfl rfl ?_)
            | (show LA _ _ _ _ (⟨_, .unOp .not _ _, _, _, _, _⟩ :: _) _; first
                | refine LA_notT rfl rfl ?_
                | refine LA_notF rfl rfl ?_
                | refine LA_not rfl rfl ?_)
            | (show LA _ _ _ _ (⟨_, .extract _ _, _, _, _, _⟩ :: _) _; first
                | refine LA_ext0 rfl rfl ?_
                | refine LA_ext1 rfl rfl ?_
                | refine LA_ext30 rfl rfl ?_
                | refine LA_ext31 rfl rfl ?_
                | refine LA_ext32 rfl rfl ?_)
            | (show LA _ _ _ _ (⟨_, .binOp .add _ _ _ _, _, _, _, _⟩ :: _) _; first
                | refine LA_addF rfl rfl rfl (by dsimp only [fits]; omega) ?_
                | refine LA_addW rfl rfl rfl ?_)
            | (show LA _ _ _ _ (⟨_, .binOp .sub _ _ _ _, _, _, _, _⟩ :: _) _; first
                | refine LA_subF rfl rfl rfl (by dsimp only [fits]; omega) ?_
                | refine LA_subW rfl rfl rfl ?_)
            | (show LA _ _ _ _ (⟨_, .binOp .mul _ _ _ _, _, _, _, _⟩ :: _) _; first
                | refine LA_mulF rfl rfl rfl (by dsimp only [fits]; omega) ?_
                | refine LA_mulW rfl rfl rfl ?_)
            | (show LA _ _ _ _ (⟨_, .binOp .quo _ _ _ _, _, _, _, _⟩ :: _) _; first
                | refine LA_quo rfl rfl rfl (by omega) (by omega) (by dsimp only [fits]; omega) ?_)
            | (show LA _ _ _ _ (⟨_, .binOp .rem _ _ _ _, _, _, _, _⟩ :: _) _; first
                | refine LA_rem rfl rfl rfl (by omega) (by omega) (by dsimp only [fits]; omega) ?_)
            | (show LA _ _ _ _ (⟨_, .binOp .shr _ _ _ _, _, _, _, _⟩ :: _) _; first
                | (refine LA_shr rfl rfl rfl (by omega) (by dsimp only [IntKind.bits]; omega) ?_; try dsimp only [Int.reduceToNat, Int.reducePow]))
            | (show LA _ _ _ _ (⟨_, .binOp .shl _ _ _ _, _, _, _, _⟩ :: _) _; first
                | (refine LA_shl rfl rfl rfl (by omega) (by dsimp only [IntKind.bits]; omega) ?_; try dsimp only [Int.reduceToNat, Int.reducePow]))
            | (show LA _ _ _ _ (⟨_, .binOp _ _ _ _ _, _, _, _, _⟩ :: _) _; first
                | refine LA_cmpT rfl rfl rfl rfl (by first | (dsimp only [cmpP]; done) | (dsimp only [cmpP]; omega)) ?_
                | refine LA_cmpF rfl rfl rfl rfl (by dsimp only [cmpP]; omega) ?_
                | (refine LA_cmp rfl rfl rfl rfl (fun hc => ?_) (fun hc => ?_) <;> dsimp only [cmpP] at hc)
                | refine LA_boolEqT rfl rfl rfl rfl (by first | rfl | assumption) ?_
                | refine LA_boolEqF rfl rfl rfl rfl (by first | assumption | decide) ?_
                | refine LA_boolEq rfl rfl rfl rfl ?_
                | refine LA_boolNeT rfl rfl rfl rfl (by first | assumption | decide) ?_
                | refine LA_boolNeF rfl rfl rfl rfl (by first | rfl | assumption) ?_
                | refine LA_boolNe rfl rfl rfl rfl ?_)
            | (show LA _ _ _ _ (⟨_, .indexAddr _ _ _, _, _, _, _⟩ :: _) _; first
                | refine LA_indexN rfl _ rfl (fun _ => rfl) rfl (by first | exact HasI.val (by assumption) | exact HasI.pred | exact HasI.own | exact HasI.ownV (by assumption)) rfl (by omega) ?_
                | (refine LA_index rfl _ rfl (fun _ => rfl) rfl (by first | exact HasI.val (by assumption) | exact HasI.pred | exact HasI.own | exact HasI.ownV (by assumption)) rfl (by omega) (by omega) ?_; try dsimp only [Int.reduceToNat]))
            | (show LA _ _ _ _ (⟨_, .load _ _, _, _, _, _⟩ :: _) _; first
                | refine LA_load rfl (fun _ => rfl) rfl ?_)
            | (show LA _ _ _ _ (⟨_, .convert _ _ _, _, _, _, _⟩ :: _) _; first
                | refine LA_convF rfl rfl rfl rfl (by dsimp only [fits]; omega) ?_
                | refine LA_conv rfl rfl rfl rfl ?_)
            | (show LA _ _ _ _ (⟨_, .slice _ _ _ _ _, _, _, _, _⟩ :: _) _; first
                | (refine LA_sliceL rfl _ rfl rfl (by first | exact (HasI.val (by assumption)).c | exact HasI.pred.c | exact HasC.val (by assumption) | exact HasC.pred | exact HasI.own.c | exact HasC.own | exact (HasI.ownV (by assumption)).c | exact HasC.ownV (by assumption)) rfl (by omega) (by omega) (by exact fun _ => rfl) ?_; try dsimp only [Int.reduceToNat, Int.toNat_natCast])
                | (refine LA_sliceH rfl _ rfl rfl (by first | exact (HasI.val (by assumption)).c | exact HasI.pred.c | exact HasC.val (by assumption) | exact HasC.pred | exact HasI.own.c | exact HasC.own | exact (HasI.ownV (by assumption)).c | exact HasC.ownV (by assumption)) rfl (by omega) (by omega) (by exact fun _ => rfl) ?_; try dsimp only [Int.reduceToNat, Int.toNat_natCast])
                | (refine LA_sliceLH rfl _ rfl rfl (by first | exact (HasI.val (by assumption)).c | exact HasI.pred.c | exact HasC.val (by assumption) | exact HasC.pred | exact HasI.own.c | exact HasC.own | exact (HasI.ownV (by assumption)).c | exact HasC.ownV (by assumption)) rfl rfl (by omega) (by omega) (by omega) (by exact fun _ => rfl) ?_; try dsimp only [Int.reduceToNat, Int.toNat_natCast]))
            | (show LA _ _ _ _ (⟨_, .call ⟨.builtin .len, _, _⟩, _, _, _, _⟩ :: _) _; first
                | refine LA_len rfl _ rfl rfl (by first | exact (HasI.val (by assumption)).c | exact HasI.pred.c | exact HasC.val (by assumption) | exact HasC.pred | exact HasI.own.c | exact HasC.own | exact (HasI.ownV (by assumption)).c | exact HasC.ownV (by assumption)) ?_)
            | (refine LA_nil (hK [] _ (LX_nil ?_)); clear hK K)
            | (refine LA_nil (hK _ ?_); clear hK K))
          | (show CX _ _ _ _ _ _; first
            | refine CX_seq ?_
            | refine CX_skip ?_
            | refine CX_block ?_
            | refine CX_exit ?_
            | refine CX_ret ?_
            | refine CX_condT rfl ?_
            | refine CX_condF rfl ?_
            | refine CX_region (by kernel_rfl) (fun K hK => ?_)
            | refine CX_regionA (by kernel_rfl) (by kernel_rfl) (fun K hK => ?_)
            | refine CX_label ?_
            | refine CX_scope ?_)
          | (show PX _ _ _ _ _; first
            | refine PX_then ?_
            | refine PX_thenX ?_
            | refine PX_thenR ?_
            | refine PX_blockN ?_
            | refine PX_blockR ?_
            | refine PX_blockX ?_
            | refine PX_blockO (by decide) ?_
            | refine PX_scopeN ?_
            | refine PX_scopeR ?_
            | refine PX_scopeX ?_)
          | (show LX _ _ _ _ _ _ _; first
            | refine LX_nil ?_))
        exact PX_rndV (j + 1 + 1, v') (fun w5 e5 => ⟨he'.trans e5, hkl, by dsimp only; rw [hnew]; exact ho'.ext e5⟩) (by dsimp only; omega) (by repeat' (first | exact Sub.nil | refine Sub.val rfl (by first | with_reducible rfl | (congr 1; omega)) ?_ | refine Sub.same rfl ?_))
      · obtain rfl : k = 0 := by omega
        repeat' (first
          | (show LA _ _ _ _ _ _; first
            | refine LA_pass rfl ?_
            | (show LA _ _ _ _ (⟨some 12, _, _, _, _, _⟩ :: _) _; refine LA_load rfl (fun _ => rfl) rfl ?_; rw [hX])
            | refine LA_build1 (c := runV X 0) rfl rfl (fun w => run_build w _ _ _ (by kernel_rfl)) ?_
            | refine LA_oneS rfl run_el rfl rfl (by decide) ?_
            | (refine LA_stop (hK _ _ (LX_appendR rfl (by decide) run_el rfl ho rfl (by omega) (by omega) he (fun v' w' he' ho' => ?_))); clear hK K; dsimp only [vals]; refine LX_la (by kernel_rfl) (fun K hK => ?_))
            | (show LA _ _ _ _ (⟨_, .move _, _, _, _, _⟩ :: _) _; first
                | refine LA_moveV rfl rfl ?_
                | refine LA_moveP rfl rfl ?_
                | refine LA_moveT rfl rfl ?_
                | refine LA_moveU rfl rfl ?_)
            | (show LA _ _ _ _ (⟨_, .assign _, _, _, _, _⟩ :: _) _; first
                | refine LA_assignV rfl rfl ?_
                | refine LA_assignP rfl rfl ?_
                | refine LA_assignT rfl rfl ?_)
            | (show LA _ _ _ _ (⟨_, .pick _ _ _, _, _, _, _⟩ :: _) _; first
                | refine LA_pickTV rfl rfl rfl ?_
                | refine LA_pickFV rfl rfl rfl ?_)
            | (show LA _ _ _ _ (⟨_, .unOp .not _ _, _, _, _, _⟩ :: _) _; first
                | refine LA_notT rfl rfl ?_
                | refine LA_notF rfl rfl ?_
                | refine LA_not rfl rfl ?_)
            | (show LA _ _ _ _ (⟨_, .extract _ _, _, _, _, _⟩ :: _) _; first
                | refine LA_ext0 rfl rfl ?_
                | refine LA_ext1 rfl rfl ?_
                | refine LA_ext30 rfl rfl ?_
                | refine LA_ext31 rfl rfl ?_
                | refine LA_ext32 rfl rfl ?_)
            | (show LA _ _ _ _ (⟨_, .binOp .add _ _ _ _, _, _, _, _⟩ :: _) _; first
                | refine LA_addF rfl rfl rfl (by dsimp only [fits]; omega) ?_
                | refine LA_addW rfl rfl rfl ?_)
            | (show LA _ _ _ _ (⟨_, .binOp .sub _ _ _ _, _, _, _, _⟩ :: _) _; first
                | refine LA_subF rfl rfl rfl (by dsimp only [fits]; omega) ?_
                | refine LA_subW rfl rfl rfl ?_)
            | (show LA _ _ _ _ (⟨_, .binOp .mul _ _ _ _, _, _, _, _⟩ :: _) _; first
                | refine LA_mulF rfl rfl rfl (by dsimp only [fits]; omega) ?_
                | refine LA_mulW rfl rfl rfl ?_)
            | (show LA _ _ _ _ (⟨_, .binOp .quo _ _ _ _, _, _, _, _⟩ :: _) _; first
                | refine LA_quo rfl rfl rfl (by omega) (by omega) (by dsimp only [fits]; omega) ?_)
            | (show LA _ _ _ _ (⟨_, .binOp .rem _ _ _ _, _, _, _, _⟩ :: _) _; first
                | refine LA_rem rfl rfl rfl (by omega) (by omega) (by dsimp only [fits]; omega) ?_)
            | (show LA _ _ _ _ (⟨_, .binOp .shr _ _ _ _, _, _, _, _⟩ :: _) _; first
                | (refine LA_shr rfl rfl rfl (by omega) (by dsimp only [IntKind.bits]; omega) ?_; try dsimp only [Int.reduceToNat, Int.reducePow]))
            | (show LA _ _ _ _ (⟨_, .binOp .shl _ _ _ _, _, _, _, _⟩ :: _) _; first
                | (refine LA_shl rfl rfl rfl (by omega) (by dsimp only [IntKind.bits]; omega) ?_; try dsimp only [Int.reduceToNat, Int.reducePow]))
            | (show LA _ _ _ _ (⟨_, .binOp _ _ _ _ _, _, _, _, _⟩ :: _) _; first
                | refine LA_cmpT rfl rfl rfl rfl (by first | (dsimp only [cmpP]; done) | (dsimp only [cmpP]; omega)) ?_
                | refine LA_cmpF rfl rfl rfl rfl (by dsimp only [cmpP]; omega) ?_
                | (refine LA_cmp rfl rfl rfl rfl (fun hc => ?_) (fun hc => ?_) <;> dsimp only [cmpP] at hc)
                | refine LA_boolEqT rfl rfl rfl rfl (by first | rfl | assumption) ?_
                | refine LA_boolEqF rfl rfl rfl rfl (by first | assumption | decide) ?_
                | refine LA_boolEq rfl rfl rfl rfl ?_
                | refine LA_boolNeT rfl rfl rfl rfl (by first | assumption | decide) ?_
                | refine LA_boolNeF rfl rfl rfl rfl (by first | rfl | assumption) ?_
                | refine LA_boolNe rfl rfl rfl rfl ?_)
            | (show LA _ _ _ _ (⟨_, .indexAddr _ _ _, _, _, _, _⟩ :: _) _; first
                | refine LA_indexN rfl _ rfl (fun _ => rfl) rfl (by first | exact HasI.val (by assumption) | exact HasI.pred | exact HasI.own | exact HasI.ownV (by assumption)) rfl (by omega) ?_
                | (refine LA_index rfl _ rfl (fun _ => rfl) rfl (by first | exact HasI.val (by assumption) | exact HasI.pred | exact HasI.own | exact HasI.ownV (by assumption)) rfl (by omega) (by omega) ?_; try dsimp only [Int.reduceToNat]))
            | (show LA _ _ _ _ (⟨_, .load _ _, _, _, _, _⟩ :: _) _; first
                | refine LA_load rfl (fun _ => rfl) rfl ?_)
            | (show LA _ _ _ _ (⟨_, .convert _ _ _, _, _, _, _⟩ :: _) _; first
                | refine LA_convF rfl rfl rfl rfl (by dsimp only [fits]; omega) ?_
                | refine LA_conv rfl rfl rfl rfl ?_)
            | (show LA _ _ _ _ (⟨_, .slice _ _ _ _ _, _, _, _, _⟩ :: _) _; first
                | (refine LA_sliceL rfl _ rfl rfl (by first | exact (HasI.val (by assumption)).c | exact HasI.pred.c | exact HasC.val (by assumption) | exact HasC.pred | exact HasI.own.c | exact HasC.own | exact (HasI.ownV (by assumption)).c | exact HasC.ownV (by assumption)) rfl (by omega) (by omega) (by exact fun _ => rfl) ?_; try dsimp only [Int.reduceToNat, Int.toNat_natCast])
                | (refine LA_sliceH rfl _ rfl rfl (by first | exact (HasI.val (by assumption)).c | exact HasI.pred.c | exact HasC.val (by assumption) | exact HasC.pred | exact HasI.own.c | exact HasC.own | exact (HasI.ownV (by assumption)).c | exact HasC.ownV (by assumption)) rfl (by omega) (by omega) (by exact fun _ => rfl) ?_; try dsimp only [Int.reduceToNat, Int.toNat_natCast])
                | (refine LA_sliceLH rfl _ rfl rfl (by first | exact (HasI.val (by assumption)).c | exact HasI.pred.c | exact HasC.val (by assumption) | exact HasC.pred | exact HasI.own.c | exact HasC.own | exact (HasI.ownV (by assumption)).c | exact HasC.ownV (by assumption)) rfl rfl (by omega) (by omega) (by omega) (by exact fun _ => rfl) ?_; try dsimp only [Int.reduceToNat, Int.toNat_natCast]))
            | (show LA _ _ _ _ (⟨_, .call ⟨.builtin .len, _, _⟩, _, _, _, _⟩ :: _) _; first
                | refine LA_len rfl _ rfl rfl (by first | exact (HasI.val (by assumption)).c | exact HasI.pred.c | exact HasC.val (by assumption) | exact HasC.pred | exact HasI.own.c | exact HasC.own | exact (HasI.ownV (by assumption)).c | exact HasC.ownV (by assumption)) ?_)
            | (refine LA_nil (hK [] _ (LX_nil ?_)); clear hK K)
            | (refine LA_nil (hK _ ?_); clear hK K))
          | (show CX _ _ _ _ _ _; first
            | refine CX_seq ?_
            | refine CX_skip ?_
            | refine CX_block ?_
            | refine CX_exit ?_
            | refine CX_ret ?_
            | refine CX_condT rfl ?_
            | refine CX_condF rfl ?_
            | refine CX_region (by kernel_rfl) (fun K hK => ?_)
            | refine CX_regionA (by kernel_rfl) (by kernel_rfl) (fun K hK => ?_)
            | refine CX_label ?_
            | refine CX_scope ?_)
          | (show PX _ _ _ _ _; first
            | refine PX_then ?_
            | refine PX_thenX ?_
            | refine PX_thenR ?_
            | refine PX_blockN ?_
            | refine PX_blockR ?_
            | refine PX_blockX ?_
            | refine PX_blockO (by decide) ?_
            | refine PX_scopeN ?_
            | refine PX_scopeR ?_
            | refine PX_scopeX ?_)
          | (show LX _ _ _ _ _ _ _; first
            | refine LX_nil ?_))
        exact PX_rndV (0 + 1, v') (fun w5 e5 => ⟨he'.trans e5, hkl, by dsimp only; rw [hnew]; exact ho'.ext e5⟩) (by dsimp only; omega) (by repeat' (first | exact Sub.nil | refine Sub.val rfl (by first | with_reducible rfl | (congr 1; omega)) ?_ | refine Sub.same rfl ?_))
  · obtain rfl : k = xs.length := by omega
    have hend : opn (memb xs) (Tk xs xs.length) = runsL (memb xs) := by
      have hT : Tk xs xs.length ≤ 65536 := by
        cases hxl : xs.length with
        | zero => exact Nat.zero_le _
        | succ j =>
          have : 0 ≤ xs.getD j 0 ∧ xs.getD j 0 < 65536 := by rw [getD_eq (by omega)]; exact hl _ (List.getElem_mem _)
          simp only [Tk]; omega
      unfold runsL
      refine (opn_flat 65536 hT fun z h1 h2 => ?_).symm
      unfold memb
      refine decide_eq_false fun hm => ?_
      obtain ⟨j, hj, hej⟩ := List.getElem_of_mem hm
      cases hxl : xs.length with
      | zero => omega
      | succ n =>
        rw [hxl] at h1 hj
        simp only [Tk] at h1
        have e1 : xs.getD j 0 = z := by rw [getD_eq (by omega)]; exact hej
        rcases Nat.lt_or_ge j n with h4 | h4
        · have := List.pairwise_iff_getElem.1 hi j n (by omega) (by omega) h4
          rw [← getD_eq (by omega), ← getD_eq (by omega)] at this; omega
        · obtain rfl : j = n := by omega
          omega
    rw [hend] at ho
    repeat' (first
      | (show LA _ _ _ _ _ _; first
        | refine LA_pass rfl ?_
        | (show LA _ _ _ _ (⟨_, .move _, _, _, _, _⟩ :: _) _; first
            | refine LA_moveV rfl rfl ?_
            | refine LA_moveP rfl rfl ?_
            | refine LA_moveT rfl rfl ?_
            | refine LA_moveU rfl rfl ?_)
        | (show LA _ _ _ _ (⟨_, .assign _, _, _, _, _⟩ :: _) _; first
            | refine LA_assignV rfl rfl ?_
            | refine LA_assignP rfl rfl ?_
            | refine LA_assignT rfl rfl ?_)
        | (show LA _ _ _ _ (⟨_, .pick _ _ _, _, _, _, _⟩ :: _) _; first
            | refine LA_pickTV rfl rfl rfl ?_
            | refine LA_pickFV rfl rfl rfl ?_)
        | (show LA _ _ _ _ (⟨_, .unOp .not _ _, _, _, _, _⟩ :: _) _; first
            | refine LA_notT rfl rfl ?_
            | refine LA_notF rfl rfl ?_
            | refine LA_not rfl rfl ?_)
        | (show LA _ _ _ _ (⟨_, .extract _ _, _, _, _, _⟩ :: _) _; first
            | refine LA_ext0 rfl rfl ?_
            | refine LA_ext1 rfl rfl ?_
            | refine LA_ext30 rfl rfl ?_
            | refine LA_ext31 rfl rfl ?_
            | refine LA_ext32 rfl rfl ?_)
        | (show LA _ _ _ _ (⟨_, .binOp .add _ _ _ _, _, _, _, _⟩ :: _) _; first
            | refine LA_addF rfl rfl rfl (by dsimp only [fits]; omega) ?_
            | refine LA_addW rfl rfl rfl ?_)
        | (show LA _ _ _ _ (⟨_, .binOp .sub _ _ _ _, _, _, _, _⟩ :: _) _; first
            | refine LA_subF rfl rfl rfl (by dsimp only [fits]; omega) ?_
            | refine LA_subW rfl rfl rfl ?_)
        | (show LA _ _ _ _ (⟨_, .binOp .mul _ _ _ _, _, _, _, _⟩ :: _) _; first
            | refine LA_mulF rfl rfl rfl (by dsimp only [fits]; omega) ?_
            | refine LA_mulW rfl rfl rfl ?_)
        | (show LA _ _ _ _ (⟨_, .binOp .quo _ _ _ _, _, _, _, _⟩ :: _) _; first
            | refine LA_quo rfl rfl rfl (by omega) (by omega) (by dsimp only [fits]; omega) ?_)
        | (show LA _ _ _ _ (⟨_, .binOp .rem _ _ _ _, _, _, _, _⟩ :: _) _; first
            | refine LA_rem rfl rfl rfl (by omega) (by omega) (by dsimp only [fits]; omega) ?_)
        | (show LA _ _ _ _ (⟨_, .binOp .shr _ _ _ _, _, _, _, _⟩ :: _) _; first
            | (refine LA_shr rfl rfl rfl (by omega) (by dsimp only [IntKind.bits]; omega) ?_; try dsimp only [Int.reduceToNat, Int.reducePow]))
        | (show LA _ _ _ _ (⟨_, .binOp .shl _ _ _ _, _, _, _, _⟩ :: _) _; first
            | (refine LA_shl rfl rfl rfl (by omega) (by dsimp only [IntKind.bits]; omega) ?_; try dsimp only [Int.reduceToNat, Int.reducePow]))
        | (show LA _ _ _ _ (⟨_, .binOp _ _ _ _ _, _, _, _, _⟩ :: _) _; first
            | refine LA_cmpT rfl rfl rfl rfl (by first | (dsimp only [cmpP]; done) | (dsimp only [cmpP]; omega)) ?_
            | refine LA_cmpF rfl rfl rfl rfl (by dsimp only [cmpP]; omega) ?_
            | (refine LA_cmp rfl rfl rfl rfl (fun hc => ?_) (fun hc => ?_) <;> dsimp only [cmpP] at hc)
            | refine LA_boolEqT rfl rfl rfl rfl (by first | rfl | assumption) ?_
            | refine LA_boolEqF rfl rfl rfl rfl (by first | assumption | decide) ?_
            | refine LA_boolEq rfl rfl rfl rfl ?_
            | refine LA_boolNeT rfl rfl rfl rfl (by first | assumption | decide) ?_
            | refine LA_boolNeF rfl rfl rfl rfl (by first | rfl | assumption) ?_
            | refine LA_boolNe rfl rfl rfl rfl ?_)
        | (show LA _ _ _ _ (⟨_, .indexAddr _ _ _, _, _, _, _⟩ :: _) _; first
            | refine LA_indexN rfl _ rfl (fun _ => rfl) rfl (by first | exact HasI.val (by assumption) | exact HasI.pred | exact HasI.own | exact HasI.ownV (by assumption)) rfl (by omega) ?_
            | (refine LA_index rfl _ rfl (fun _ => rfl) rfl (by first | exact HasI.val (by assumption) | exact HasI.pred | exact HasI.own | exact HasI.ownV (by assumption)) rfl (by omega) (by omega) ?_; try dsimp only [Int.reduceToNat]))
        | (show LA _ _ _ _ (⟨_, .load _ _, _, _, _, _⟩ :: _) _; first
            | refine LA_load rfl (fun _ => rfl) rfl ?_)
        | (show LA _ _ _ _ (⟨_, .convert _ _ _, _, _, _, _⟩ :: _) _; first
            | refine LA_convF rfl rfl rfl rfl (by dsimp only [fits]; omega) ?_
            | refine LA_conv rfl rfl rfl rfl ?_)
        | (show LA _ _ _ _ (⟨_, .slice _ _ _ _ _, _, _, _, _⟩ :: _) _; first
            | (refine LA_sliceL rfl _ rfl rfl (by first | exact (HasI.val (by assumption)).c | exact HasI.pred.c | exact HasC.val (by assumption) | exact HasC.pred | exact HasI.own.c | exact HasC.own | exact (HasI.ownV (by assumption)).c | exact HasC.ownV (by assumption)) rfl (by omega) (by omega) (by exact fun _ => rfl) ?_; try dsimp only [Int.reduceToNat, Int.toNat_natCast])
            | (refine LA_sliceH rfl _ rfl rfl (by first | exact (HasI.val (by assumption)).c | exact HasI.pred.c | exact HasC.val (by assumption) | exact HasC.pred | exact HasI.own.c | exact HasC.own | exact (HasI.ownV (by assumption)).c | exact HasC.ownV (by assumption)) rfl (by omega) (by omega) (by exact fun _ => rfl) ?_; try dsimp only [Int.reduceToNat, Int.toNat_natCast])
            | (refine LA_sliceLH rfl _ rfl rfl (by first | exact (HasI.val (by assumption)).c | exact HasI.pred.c | exact HasC.val (by assumption) | exact HasC.pred | exact HasI.own.c | exact HasC.own | exact (HasI.ownV (by assumption)).c | exact HasC.ownV (by assumption)) rfl rfl (by omega) (by omega) (by omega) (by exact fun _ => rfl) ?_; try dsimp only [Int.reduceToNat, Int.toNat_natCast]))
        | (show LA _ _ _ _ (⟨_, .call ⟨.builtin .len, _, _⟩, _, _, _, _⟩ :: _) _; first
            | refine LA_len rfl _ rfl rfl (by first | exact (HasI.val (by assumption)).c | exact HasI.pred.c | exact HasC.val (by assumption) | exact HasC.pred | exact HasI.own.c | exact HasC.own | exact (HasI.ownV (by assumption)).c | exact HasC.ownV (by assumption)) ?_)
        | (refine LA_nil (hK [] _ (LX_nil ?_)); clear hK K)
        | (refine LA_nil (hK _ ?_); clear hK K))
      | (show CX _ _ _ _ _ _; first
        | refine CX_seq ?_
        | refine CX_skip ?_
        | refine CX_block ?_
        | refine CX_exit ?_
        | refine CX_ret ?_
        | refine CX_condT rfl ?_
        | refine CX_condF rfl ?_
        | refine CX_region (by kernel_rfl) (fun K hK => ?_)
        | refine CX_regionA (by kernel_rfl) (by kernel_rfl) (fun K hK => ?_)
        | refine CX_label ?_
        | refine CX_scope ?_)
      | (show PX _ _ _ _ _; first
        | refine PX_then ?_
        | refine PX_thenX ?_
        | refine PX_thenR ?_
        | refine PX_blockN ?_
        | refine PX_blockR ?_
        | refine PX_blockX ?_
        | refine PX_blockO (by decide) ?_
        | refine PX_scopeN ?_
        | refine PX_scopeR ?_
        | refine PX_scopeX ?_)
      | (show LX _ _ _ _ _ _ _; first
        | refine LX_nil ?_))
    exact PX_retP rfl rfl he (fun u w5 e5 hu' => by obtain rfl : u = _ := hu'; exact ho.ext e5)
end Go.Proofs.Ythcpljmibcacaaa
