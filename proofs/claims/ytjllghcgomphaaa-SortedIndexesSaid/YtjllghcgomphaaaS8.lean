import Derived.Test.YtjllghcgomphaaaS7
set_option linter.unusedSimpArgs false
set_option linter.unusedVariables false
namespace Go.Proofs.Ytjllghcgomphaaa
open Go.LA Go.RowKit Go.SrtP

theorem u32_c (w : World) (base b : Nat) (sl : Value) (xs : List Int) (at_ : Nat) (h : RdI base w b sl xs at_) (hn : at_ + 4 ≤ xs.length) (hx : ∀ x ∈ xs, 0 ≤ x ∧ x < 256) :
    Fc Try.prog 21 #[.pointer (some ⟨b, 0, none⟩)] w (fun e w' => e = .returned (.int .u32 (valS ((xs.take (at_ + 4)).drop at_))) ∧ RdI base w' b sl xs (at_ + 4) ∧ w.grownBy w' (some b)) := by
  have hyl : ((xs.take (at_ + 4)).drop at_).length = 4 := by simp; omega
  have hv := valS_lt ((xs.take (at_ + 4)).drop at_) (fun x hx' => hx x (List.mem_of_mem_take (List.mem_of_mem_drop hx')))
  rw [hyl] at hv
  refine Fc.of (args := [_]) Try.func21 rfl rfl Try.ntmps21 (Nat.le_of_ble_eq_true rfl) ?_
  repeat' (first
    | (show LA _ _ _ _ _ _; first
      | refine LA_pass rfl ?_
      | (refine LA_stop (hK _ _ (LX_call2 rfl (by decide) rfl rfl rfl (fun v w' => v = .int .u64 (valS ((xs.take (at_ + 4)).drop at_)) ∧ RdI base w' b sl xs (at_ + 4) ∧ w.grownBy w' (some b)) (fun w2 e2 => (number_c w2 base b sl xs at_ 4 (h.ext e2) hn (by omega) hx).mono (fun en w' ⟨h1, h2, h3⟩ => ⟨_, h1, rfl, h2, grown_ext e2 h3⟩)) (fun sub w3 hr => ?_))); clear hK K; obtain ⟨rfl, hr1, hr2⟩ := hr; dsimp only [vals]; refine LX_la (by kernel_rfl) (fun K hK => ?_))
      | (show LA _ _ _ _ (⟨_, .move _, _, _, _, _⟩ :: _) _; first
          | refine LA_moveV rfl rfl ?_
          | refine LA_moveP rfl rfl ?_
          | refine LA_moveT rfl rfl ?_
          | refine LA_moveU rfl rfl ?_)
      | (show LA _ _ _ _ (⟨_, .assign _, _, _, _, _⟩ :: _) _; first
          | refine LA_assignV rfl rfl ?_
          | refine LA_assignP rfl rfl ?_
          | refine LA_assignT rfl rfl ?_)
      | (show LA _ _ _ _ (⟨_, .pick _ _ _, _, _, _, _⟩ :: _) _; first
          | refine LA_pickTV rfl rfl rfl ?_
          | refine LA_pickFV rfl rfl rfl ?_)
      | (show LA _ _ _ _ (⟨_, .unOp .not _ _, _, _, _, _⟩ :: _) _; first
          | refine LA_notT rfl rfl ?_
          | refine LA_notF rfl rfl ?_
          | refine LA_not rfl rfl ?_)
      | (show LA _ _ _ _ (⟨_, .extract _ _, _, _, _, _⟩ :: _) _; first
          | refine LA_ext0 rfl rfl ?_
          | refine LA_ext1 rfl rfl ?_
          | refine LA_ext30 rfl rfl ?_
          | refine LA_ext31 rfl rfl ?_
          | refine LA_ext32 rfl rfl ?_)
      | (show LA _ _ _ _ (⟨_, .binOp .add _ _ _ _, _, _, _, _⟩ :: _) _; first
          | refine LA_addF rfl rfl rfl (by dsimp only [fits]; omega) ?_
          | refine LA_addW rfl rfl rfl ?_)
      | (show LA _ _ _ _ (⟨_, .binOp .sub _ _ _ _, _, _, _, _⟩ :: _) _; first
          | refine LA_subF rfl rfl rfl (by dsimp only [fits]; omega) ?_
          | refine LA_subW rfl rfl rfl ?_)
      | (show LA _ _ _ _ (⟨_, .binOp .mul _ _ _ _, _, _, _, _⟩ :: _) _; first
          | refine LA_mulF rfl rfl rfl (by dsimp only [fits]; omega) ?_
          | refine LA_mulW rfl rfl rfl ?_)
      | (show LA _ _ _ _ (⟨_, .binOp .shr _ _ _ _, _, _, _, _⟩ :: _) _; first
          | (refine LA_shr rfl rfl rfl (by omega) (by dsimp only [IntKind.bits]; omega) ?_; try dsimp only [Int.reduceToNat, Int.reducePow]))
      | (show LA _ _ _ _ (⟨_, .binOp .shl _ _ _ _, _, _, _, _⟩ :: _) _; first
          | (refine LA_shl rfl rfl rfl (by omega) (by dsimp only [IntKind.bits]; omega) ?_; try dsimp only [Int.reduceToNat, Int.reducePow]))
      | (show LA _ _ _ _ (⟨_, .binOp _ _ _ _ _, _, _, _, _⟩ :: _) _; first
          | refine LA_cmpT rfl rfl rfl rfl (by first | (dsimp only [cmpP]; done) | (dsimp only [cmpP]; omega)) ?_
          | refine LA_cmpF rfl rfl rfl rfl (by dsimp only [cmpP]; omega) ?_
          | (refine LA_cmp rfl rfl rfl rfl (fun hc => ?_) (fun hc => ?_) <;> dsimp only [cmpP] at hc)
          | refine LA_boolEqT rfl rfl rfl rfl (by first | rfl | assumption) ?_
          | refine LA_boolEqF rfl rfl rfl rfl (by first | assumption | decide) ?_
          | refine LA_boolEq rfl rfl rfl rfl ?_
          | refine LA_boolNeT rfl rfl rfl rfl (by first | assumption | decide) ?_
          | refine LA_boolNeF rfl rfl rfl rfl (by first | rfl | assumption) ?_
          | refine LA_boolNe rfl rfl rfl rfl ?_)
      | (show LA _ _ _ _ (⟨_, .indexAddr _ _ _, _, _, _, _⟩ :: _) _; first
          | refine LA_indexN rfl _ rfl (fun _ => rfl) rfl (by first | exact HasI.val (by assumption) | exact HasI.pred | exact HasI.own | exact HasI.ownV (by assumption)) rfl (by omega) ?_
          | (refine LA_index rfl _ rfl (fun _ => rfl) rfl (by first | exact HasI.val (by assumption) | exact HasI.pred | exact HasI.own | exact HasI.ownV (by assumption)) rfl (by omega) (by omega) ?_; try dsimp only [Int.reduceToNat]))
      | (show LA _ _ _ _ (⟨_, .load _ _, _, _, _, _⟩ :: _) _; first
          | refine LA_load rfl (fun _ => rfl) rfl ?_)
      | (show LA _ _ _ _ (⟨_, .convert _ _ _, _, _, _, _⟩ :: _) _; first
          | refine LA_convF rfl rfl rfl rfl (by dsimp only [fits]; omega) ?_
          | refine LA_conv rfl rfl rfl rfl ?_)
      | (show LA _ _ _ _ (⟨_, .slice _ _ _ _ _, _, _, _, _⟩ :: _) _; first
          | (refine LA_sliceL rfl _ rfl rfl (by first | exact (HasI.val (by assumption)).c | exact HasI.pred.c | exact HasC.val (by assumption) | exact HasC.pred | exact HasI.own.c | exact HasC.own | exact (HasI.ownV (by assumption)).c | exact HasC.ownV (by assumption)) rfl (by omega) (by omega) (by exact fun _ => rfl) ?_; try dsimp only [Int.reduceToNat, Int.toNat_natCast])
          | (refine LA_sliceH rfl _ rfl rfl (by first | exact (HasI.val (by assumption)).c | exact HasI.pred.c | exact HasC.val (by assumption) | exact HasC.pred | exact HasI.own.c | exact HasC.own | exact (HasI.ownV (by assumption)).c | exact HasC.ownV (by assumption)) rfl (by omega) (by omega) (by exact fun _ => rfl) ?_; try dsimp only [Int.reduceToNat, Int.toNat_natCast])
          | (refine LA_sliceLH rfl _ rfl rfl (by first | exact (HasI.val (by assumption)).c | exact HasI.pred.c | exact HasC.val (by assumption) | exact HasC.pred | exact HasI.own.c | exact HasC.own | exact (HasI.ownV (by assumption)).c | exact HasC.ownV (by assumption)) rfl rfl (by omega) (by omega) (by omega) (by exact fun _ => rfl) ?_; try dsimp only [Int.reduceToNat, Int.toNat_natCast]))
      | (show LA _ _ _ _ (⟨_, .call ⟨.builtin .len, _, _⟩, _, _, _, _⟩ :: _) _; first
          | refine LA_len rfl _ rfl rfl (by first | exact (HasI.val (by assumption)).c | exact HasI.pred.c | exact HasC.val (by assumption) | exact HasC.pred | exact HasI.own.c | exact HasC.own | exact (HasI.ownV (by assumption)).c | exact HasC.ownV (by assumption)) ?_)
      | (refine LA_nil (hK [] _ (LX_nil ?_)); clear hK K)
      | (refine LA_nil (hK _ ?_); clear hK K))
    | (show CX _ _ _ _ _ _; first
      | refine CX_seq ?_
      | refine CX_skip ?_
      | refine CX_block ?_
      | refine CX_exit ?_
      | refine CX_ret ?_
      | refine CX_condT rfl ?_
      | refine CX_condF rfl ?_
      | refine CX_region (by kernel_rfl) (fun K hK => ?_)
      | refine CX_regionA (by kernel_rfl) (by kernel_rfl) (fun K hK => ?_)
      | refine CX_label ?_
      | refine CX_scope ?_)
    | (show PX _ _ _ _ _; first
      | refine PX_then ?_
      | refine PX_thenX ?_
      | refine PX_thenR ?_
      | refine PX_blockN ?_
      | refine PX_blockR ?_
      | refine PX_blockX ?_
      | refine PX_blockO (by decide) ?_
      | refine PX_scopeN ?_
      | refine PX_scopeR ?_
      | refine PX_scopeX ?_)
    | (show LX _ _ _ _ _ _ _; first
      | refine LX_nil ?_))
  refine PX_ret1 rfl (fun v5 w5 e5 h5 => ?_)
  obtain rfl : v5 = _ := h5
  exact ⟨rfl, hr1.ext e5, grown_then hr2 e5⟩
/-- The ends that stand in bytes. -/
def endsS (xs : List Int) : Nat → Option (List Int)
  | 0 => some []
  | k + 1 => (endsS xs k).bind fun es => if valS ((xs.take (4 * k + 4)).drop (4 * k)) ≤ beg es es.length then none else some (es ++ [valS ((xs.take (4 * k + 4)).drop (4 * k))])
theorem endsS_none {xs : List Int} {k : Nat} (h : endsS xs k = none) : ∀ m, k ≤ m → endsS xs m = none := by
  intro m hm
  induction m with
  | zero => obtain rfl : k = 0 := by omega
            exact h
  | succ m ih =>
    rcases Nat.lt_or_ge m k with h1 | h1
    · obtain rfl : k = m + 1 := by omega
      exact h
    · simp [endsS, ih h1]
/-- What bytes are read as, or the refusal. -/
def readS (xs : List Int) (rows many : Int) : Except Int (List Int) :=
  if rows < 0 ∨ 16777216 < rows ∨ many < 0 ∨ 16777216 < many then .error 2
  else if (xs.length : Int) < 4 * many then .error 4
  else if 4 * many < (xs.length : Int) then .error 5
  else match endsS xs many.toNat with
    | none => .error 5
    | some es => if beg es es.length = rows then .ok es else .error 5
def readR (o : Except Int (List Int)) : AD := match o with
  | .ok ends => .tup2 (.pred (idxI ends)) (.val (.int .i64 0))
  | .error c => .tup2 (.val (.pointer none)) (.val (.int .i64 c))
def readO (base : Nat) (o : Except Int (List Int)) : AD := match o with
  | .ok ends => .tup2 (.pred (idxO base ends)) (.val (.int .i64 0))
  | .error c => .tup2 (.val (.pointer none)) (.val (.int .i64 c))
theorem ret_readO {w : World} {base : Nat} {o : Except Int (List Int)} (en : Ending) (w' : World) (h : Ret w (readO base o) en w') : Ret w (readR o) en w' := by
  cases o with
  | error c => exact h
  | ok es => exact ret_tup1 (fun _ _ h => IdxO.i h) en w' h
theorem ret_readOb {w : World} {base base' : Nat} {o : Except Int (List Int)} (hb : base' ≤ base) (en : Ending) (w' : World) (h : Ret w (readO base o) en w') : Ret w (readO base' o) en w' := by
  cases o with
  | error c => exact h
  | ok es => exact ret_tup1 (fun _ _ h => IdxO.base h hb) en w' h
theorem RdI.base {base base' b at_ : Nat} {w : World} {sl : Value} {xs : List Int} (h : RdI base w b sl xs at_) (hb : base' ≤ base) : RdI base' w b sl xs at_ :=
  ⟨Nat.le_trans hb h.1, h.2.1, Own.base h.2.2.1 hb, h.2.2.2⟩
theorem RdI.kept {base b at_ : Nat} {w w' : World} {sl : Value} {xs : List Int} {row : Option Nat} (h : RdI base w b sl xs at_) (hg : w.grownBy w' row) (hb : some b ≠ row) (hs : sl.ownBlock = none ∨ sl.ownBlock ≠ row) : RdI base w' b sl xs at_ :=
  ⟨h.1, (hg.block b (Array.getElem?_eq_some_iff.1 h.2.1).1 hb).trans h.2.1, Own.kept h.2.2.1 hg hs, h.2.2.2⟩
theorem RdI.setRow {base b at_ c : Nat} {w : World} {sl : Value} {xs : List Int} (h : RdI base w b sl xs at_) (cur : Array Value) (hb : b ≠ c) (hs : sl.ownBlock ≠ some c) : RdI base (w.setRow c cur) b sl xs at_ :=
  ⟨h.1, by rw [setRow_other _ _ _ _ hb]; exact h.2.1, Own.setRow h.2.2.1 cur hs, h.2.2.2⟩
set_option maxHeartbeats 2000000 in
theorem read_o (w : World) (v : Value) (xs : List Int) (rows many : Int) (h : SlI .u8 w v xs) (hl : xs.length ≤ 140737488355327) (hx : ∀ x ∈ xs, 0 ≤ x ∧ x < 256) : Fc Try.prog 13 #[v, .int .i64 rows, .int .i64 many] w (Ret w (readO w.heap.size (readS xs rows many))) := by
  refine Fc.of (args := [_, _, _]) Try.func13 rfl rfl Try.ntmps13 (Nat.le_of_ble_eq_true rfl) ?_
  repeat' (first
    | (show LA _ _ _ _ _ _; first
      | refine LA_pass rfl ?_
      | (refine LA_stop (hK _ _ (LX_call1 rfl (by decide) rfl rfl (fun v w' => ∃ b sl, v = .pointer (some ⟨b, 0, none⟩) ∧ Ext w w' ∧ RdI w.heap.size w' b sl xs 0) (fun w2 e2 => (new_c w2 v xs (h.ext e2) hl).mono (fun en w' ⟨b, sl, h1, h2, h3⟩ => ⟨_, h1, b, sl, rfl, e2.trans h2, h3.base e2.size⟩)) (fun sub w3 hr => ?_))); clear hK K; obtain ⟨b, sl, rfl, hr1, hr2⟩ := hr; dsimp only [vals]; refine LX_la (by kernel_rfl) (fun K hK => ?_))
      | refine LA_build0 (c := .agg #[.slice none 0 0]) rfl build0 ?_
      | refine LA_box rfl rfl ?_
      | (show LA _ _ _ _ (⟨_, .move _, _, _, _, _⟩ :: _) _; first
          | refine LA_moveV rfl rfl ?_
          | refine LA_moveP rfl rfl ?_
          | refine LA_moveT rfl rfl ?_
          | refine LA_moveU rfl rfl ?_)
      | (show LA _ _ _ _ (⟨_, .assign _, _, _, _, _⟩ :: _) _; first
          | refine LA_assignV rfl rfl ?_
          | refine LA_assignP rfl rfl ?_
          | refine LA_assignT rfl rfl ?_)
      | (show LA _ _ _ _ (⟨_, .pick _ _ _, _, _, _, _⟩ :: _) _; first
          | refine LA_pickTV rfl rfl rfl ?_
          | refine LA_pickFV rfl rfl rfl ?_)
      | (show LA _ _ _ _ (⟨_, .unOp .not _ _, _, _, _, _⟩ :: _) _; first
          | refine LA_notT rfl rfl ?_
          | refine LA_notF rfl rfl ?_
          | refine LA_not rfl rfl ?_)
      | (show LA _ _ _ _ (⟨_, .extract _ _, _, _, _, _⟩ :: _) _; first
          | refine LA_ext0 rfl rfl ?_
          | refine LA_ext1 rfl rfl ?_
          | refine LA_ext30 rfl rfl ?_
          | refine LA_ext31 rfl rfl ?_
          | refine LA_ext32 rfl rfl ?_)
      | (show LA _ _ _ _ (⟨_, .binOp .add _ _ _ _, _, _, _, _⟩ :: _) _; first
          | refine LA_addF rfl rfl rfl (by dsimp only [fits]; omega) ?_
          | refine LA_addW rfl rfl rfl ?_)
      | (show LA _ _ _ _ (⟨_, .binOp .sub _ _ _ _, _, _, _, _⟩ :: _) _; first
          | refine LA_subF rfl rfl rfl (by dsimp only [fits]; omega) ?_
          | refine LA_subW rfl rfl rfl ?_)
      | (show LA _ _ _ _ (⟨_, .binOp .mul _ _ _ _, _, _, _, _⟩ :: _) _; first
          | refine LA_mulF rfl rfl rfl (by dsimp only [fits]; omega) ?_
          | refine LA_mulW rfl rfl rfl ?_)
      | (show LA _ _ _ _ (⟨_, .binOp .shr _ _ _ _, _, _, _, _⟩ :: _) _; first
          | (refine LA_shr rfl rfl rfl (by omega) (by dsimp only [IntKind.bits]; omega) ?_; try dsimp only [Int.reduceToNat, Int.reducePow]))
      | (show LA _ _ _ _ (⟨_, .binOp .shl _ _ _ _, _, _, _, _⟩ :: _) _; first
          | (refine LA_shl rfl rfl rfl (by omega) (by dsimp only [IntKind.bits]; omega) ?_; try dsimp only [Int.reduceToNat, Int.reducePow]))
      | (show LA _ _ _ _ (⟨_, .binOp _ _ _ _ _, _, _, _, _⟩ :: _) _; first
          | refine LA_cmpT rfl rfl rfl rfl (by first | (dsimp only [cmpP]; done) | (dsimp only [cmpP]; omega)) ?_
          | refine LA_cmpF rfl rfl rfl rfl (by dsimp only [cmpP]; omega) ?_
          | (refine LA_cmp rfl rfl rfl rfl (fun hc => ?_) (fun hc => ?_) <;> dsimp only [cmpP] at hc)
          | refine LA_boolEqT rfl rfl rfl rfl (by first | rfl | assumption) ?_
          | refine LA_boolEqF rfl rfl rfl rfl (by first | assumption | decide) ?_
          | refine LA_boolEq rfl rfl rfl rfl ?_
          | refine LA_boolNeT rfl rfl rfl rfl (by first | assumption | decide) ?_
          | refine LA_boolNeF rfl rfl rfl rfl (by first | rfl | assumption) ?_
          | refine LA_boolNe rfl rfl rfl rfl ?_)
      | (show LA _ _ _ _ (⟨_, .indexAddr _ _ _, _, _, _, _⟩ :: _) _; first
          | refine LA_indexN rfl _ rfl (fun _ => rfl) rfl (by first | exact HasI.val (by assumption) | exact HasI.pred | exact HasI.own | exact HasI.ownV (by assumption)) rfl (by omega) ?_
          | (refine LA_index rfl _ rfl (fun _ => rfl) rfl (by first | exact HasI.val (by assumption) | exact HasI.pred | exact HasI.own | exact HasI.ownV (by assumption)) rfl (by omega) (by omega) ?_; try dsimp only [Int.reduceToNat]))
      | (show LA _ _ _ _ (⟨_, .load _ _, _, _, _, _⟩ :: _) _; first
          | refine LA_load rfl (fun _ => rfl) rfl ?_)
      | (show LA _ _ _ _ (⟨_, .convert _ _ _, _, _, _, _⟩ :: _) _; first
          | refine LA_convF rfl rfl rfl rfl (by dsimp only [fits]; omega) ?_
          | refine LA_conv rfl rfl rfl rfl ?_)
      | (show LA _ _ _ _ (⟨_, .slice _ _ _ _ _, _, _, _, _⟩ :: _) _; first
          | (refine LA_sliceL rfl _ rfl rfl (by first | exact (HasI.val (by assumption)).c | exact HasI.pred.c | exact HasC.val (by assumption) | exact HasC.pred | exact HasI.own.c | exact HasC.own | exact (HasI.ownV (by assumption)).c | exact HasC.ownV (by assumption)) rfl (by omega) (by omega) (by exact fun _ => rfl) ?_; try dsimp only [Int.reduceToNat, Int.toNat_natCast])
          | (refine LA_sliceH rfl _ rfl rfl (by first | exact (HasI.val (by assumption)).c | exact HasI.pred.c | exact HasC.val (by assumption) | exact HasC.pred | exact HasI.own.c | exact HasC.own | exact (HasI.ownV (by assumption)).c | exact HasC.ownV (by assumption)) rfl (by omega) (by omega) (by exact fun _ => rfl) ?_; try dsimp only [Int.reduceToNat, Int.toNat_natCast])
          | (refine LA_sliceLH rfl _ rfl rfl (by first | exact (HasI.val (by assumption)).c | exact HasI.pred.c | exact HasC.val (by assumption) | exact HasC.pred | exact HasI.own.c | exact HasC.own | exact (HasI.ownV (by assumption)).c | exact HasC.ownV (by assumption)) rfl rfl (by omega) (by omega) (by omega) (by exact fun _ => rfl) ?_; try dsimp only [Int.reduceToNat, Int.toNat_natCast]))
      | (show LA _ _ _ _ (⟨_, .call ⟨.builtin .len, _, _⟩, _, _, _, _⟩ :: _) _; first
          | refine LA_len rfl _ rfl rfl (by first | exact (HasI.val (by assumption)).c | exact HasI.pred.c | exact HasC.val (by assumption) | exact HasC.pred | exact HasI.own.c | exact HasC.own | exact (HasI.ownV (by assumption)).c | exact HasC.ownV (by assumption)) ?_)
      | (refine LA_nil (hK [] _ (LX_nil ?_)); clear hK K)
      | (refine LA_nil (hK _ ?_); clear hK K))
    | (show CX _ _ _ _ _ _; first
      | refine CX_seq ?_
      | refine CX_skip ?_
      | refine CX_block ?_
      | refine CX_exit ?_
      | refine CX_ret ?_
      | refine CX_condT rfl ?_
      | refine CX_condF rfl ?_
      | refine CX_region (by kernel_rfl) (fun K hK => ?_)
      | refine CX_regionA (by kernel_rfl) (by kernel_rfl) (fun K hK => ?_)
      | refine CX_label ?_
      | refine CX_scope ?_)
    | (show PX _ _ _ _ _; first
      | refine PX_then ?_
      | refine PX_thenX ?_
      | refine PX_thenR ?_
      | refine PX_blockN ?_
      | refine PX_blockR ?_
      | refine PX_blockX ?_
      | refine PX_blockO (by decide) ?_
      | refine PX_scopeN ?_
      | refine PX_scopeR ?_
      | refine PX_scopeX ?_)
    | (show LX _ _ _ _ _ _ _; first
      | refine LX_nil ?_))
  all_goals first | (rw [show readS xs rows many = .error 2 by simp only [readS]; rw [if_pos (by omega)]]; exact PX_retE2 rfl rfl rfl (Ext.refl _) rfl rfl) | (rw [show readS xs rows many = .error 4 by simp only [readS]; rw [if_neg (by omega), if_pos (by omega)]]; exact PX_retE2 rfl rfl rfl (Ext.refl _) rfl rfl) | (rw [show readS xs rows many = .error 5 by simp only [readS]; rw [if_neg (by omega), if_neg (by omega), if_pos (by omega)]]; exact PX_retE2 rfl rfl rfl (Ext.refl _) rfl rfl) | skip
  refine CX_pick 9 rfl (fun v9 w9 e9 h9 => ?_)
  obtain ⟨c, hc0, rfl, hcb⟩ := h9
  have hcs := (Array.getElem?_eq_some_iff.1 hcb).1
  have hr3 := hr2.ext e9
  have hbl := (Array.getElem?_eq_some_iff.1 hr2.2.1).1
  have hsl : ∀ q, sl.ownBlock = some q → q < w3.heap.size := fun q hq => (Own.lt hr2.2.2.1 q hq).2
  have he9 := hr1.trans e9
  obtain ⟨m, rfl⟩ : ∃ m : Nat, many = m := ⟨many.toNat, by omega⟩
  refine CX_loopV (ι := Nat × List Int × Value) (fun i => [(1, .val (.int .i64 rows)), (8, .val (.pointer (some ⟨b, 0, none⟩))), (9, .val (.pointer (some ⟨c, 0, none⟩))), (10, .val (.int .i64 (beg i.2.1 i.2.1.length))), (43, .val (.int .i64 m)), (44, .val (.int .i64 i.1))])
    (fun i w' => Ext w w' ∧ w9.heap.size ≤ w'.heap.size ∧ i.1 ≤ m ∧ endsS xs i.1 = some i.2.1 ∧ i.2.1.length = i.1 ∧ RdI w.heap.size w' b sl xs (4 * i.1) ∧ w'.heap[c]? = some (.cells #[i.2.2] 43 (0, 0)) ∧ OwnI w9.heap.size 3 .i64 w' i.2.2 i.2.1)
    (fun i => m - i.1) (fun w2 e2 => ⟨(0, [], .slice none 0 0), ⟨he9.trans e2, e2.size, Nat.zero_le _, rfl, rfl, hr3.ext e2, e2.block hcb, OwnI.nil⟩, (by repeat' (first | exact Sub.nil | refine Sub.val rfl (by first | with_reducible rfl | (congr 1; omega)) ?_ | refine Sub.same rfl ?_))⟩) ?_
  rintro ⟨k, es, so⟩ w1 ⟨he, hsz, hk, hes, hlen, hrd, hcl, ho⟩
  dsimp only at hk hes hlen hrd hcl ho ⊢
  have hv : k < m → 0 ≤ valS ((xs.take (4 * k + 4)).drop (4 * k)) ∧ valS ((xs.take (4 * k + 4)).drop (4 * k)) < 4294967296 := fun hkm => by
    have h1 := valS_lt ((xs.take (4 * k + 4)).drop (4 * k)) (fun x hx' => hx x (List.mem_of_mem_take (List.mem_of_mem_drop hx')))
    rw [show ((xs.take (4 * k + 4)).drop (4 * k)).length = 4 by simp; omega] at h1
    exact ⟨h1.1, h1.2⟩
  repeat' (first
    | (show LA _ _ _ _ _ _; first
      | refine LA_pass rfl ?_
      | (refine LA_stop (hK _ _ (LX_call1 rfl (by decide) rfl rfl (fun v w' => v = .int .u32 (valS ((xs.take (4 * k + 4)).drop (4 * k))) ∧ RdI w.heap.size w' b sl xs (4 * k + 4) ∧ w1.grownBy w' (some b)) (fun w2 e2 => (u32_c w2 _ b sl xs (4 * k) (hrd.ext e2) (by omega) hx).mono (fun en w' ⟨h1, h2, h3⟩ => ⟨_, h1, rfl, h2, grown_ext e2 h3⟩)) (fun sub w4 hr => ?_))); clear hK K; obtain ⟨rfl, hrd4, hg4⟩ := hr; have hcl4 := (hg4.block c (by omega) (fun q => by have := Option.some.inj q; omega)).trans hcl; have ho4 : OwnI w9.heap.size _ _ w4 so es := Own.kept ho hg4 (.inr (fun q => by have := (Own.lt ho b q).1; omega)); have he4 : Ext w w4 := he.grown hg4 (fun q hq => by cases hq; exact hrd.1); have hs4 := hg4.size; dsimp only [vals]; refine LX_la (by kernel_rfl) (fun K hK => ?_))
      | refine LA_nilCheck rfl rfl ?_
      | refine LA_fieldAddr (a' := ⟨c, 0, none⟩) rfl rfl (fun _ => rfl) ?_
      | refine LA_loadB (c := so) rfl (fun _ => rfl) rfl hcl4 rfl ?_
      | refine LA_loadB (c := so) rfl (fun _ => rfl) rfl hcl rfl ?_
      | refine LA_one rfl i64_el rfl rfl ?_
      | (refine LA_stop (hK _ _ (LX_append rfl (by decide) i64_el rfl ho4 rfl HasC.pred (by simp [Value.oneCell']) (by unfold maxLen; omega) (by omega) (by omega) (fun v' w5 w6 e5 ho6 hg6 => ?_))); clear hK K; have ho7 : OwnI w9.heap.size 3 .i64 w6 v' (es ++ [valS ((xs.take (4 * k + 4)).drop (4 * k))]) := (by unfold OwnI; simpa using ho6); have hs5 := e5.size; have hs6 := hg6.size; have hcl6 := (hg6.block c (by omega) (fun q => by have := (Own.lt ho4 c q.symm).1; omega)).trans (e5.block hcl4); have he6 : Ext w w6 := (he4.trans e5).grown hg6 (fun q hq => by have := (Own.lt ho4 q hq).1; have := he9.size; omega); have hrd6 := (hrd4.ext e5).kept hg6 (fun q => by have := (Own.lt ho4 b q.symm).1; omega) (by by_cases hn : sl.ownBlock = none; exact .inl hn; exact .inr (fun q => by obtain ⟨y, hy⟩ := Option.ne_none_iff_exists'.1 hn; have := hsl y hy; have := (Own.lt ho4 y (q ▸ hy)).1; have := e9.size; omega)); dsimp only [vals]; refine LX_la (by kernel_rfl) (fun K hK => ?_))
      | (refine LA_stop (hK _ _ (LX_store1 rfl rfl rfl hcl6 (fun _ => rfl) (Nat.lt_succ_self 0) (OwnI.cells ho7) (OwnI.one ho7) (fun w7 e7 => ?_))); clear hK K; dsimp only [vals]; refine LX_la (by kernel_rfl) (fun K hK => ?_))
      | (show LA _ _ _ _ (⟨_, .move _, _, _, _, _⟩ :: _) _; first
          | refine LA_moveV rfl rfl ?_
          | refine LA_moveP rfl rfl ?_
          | refine LA_moveT rfl rfl ?_
          | refine LA_moveU rfl rfl ?_)
      | (show LA _ _ _ _ (⟨_, .assign _, _, _, _, _⟩ :: _) _; first
          | refine LA_assignV rfl rfl ?_
          | refine LA_assignP rfl rfl ?_
          | refine LA_assignT rfl rfl ?_)
      | (show LA _ _ _ _ (⟨_, .pick _ _ _, _, _, _, _⟩ :: _) _; first
          | refine LA_pickTV rfl rfl rfl ?_
          | refine LA_pickFV rfl rfl rfl ?_)
      | (show LA _ _ _ _ (⟨_, .unOp .not _ _, _, _, _, _⟩ :: _) _; first
          | refine LA_notT rfl rfl ?_
          | refine LA_notF rfl rfl ?_
          | refine LA_not rfl rfl ?_)
      | (show LA _ _ _ _ (⟨_, .extract _ _, _, _, _, _⟩ :: _) _; first
          | refine LA_ext0 rfl rfl ?_
          | refine LA_ext1 rfl rfl ?_
          | refine LA_ext30 rfl rfl ?_
          | refine LA_ext31 rfl rfl ?_
          | refine LA_ext32 rfl rfl ?_)
      | (show LA _ _ _ _ (⟨_, .binOp .add _ _ _ _, _, _, _, _⟩ :: _) _; first
          | refine LA_addF rfl rfl rfl (by dsimp only [fits]; omega) ?_
          | refine LA_addW rfl rfl rfl ?_)
      | (show LA _ _ _ _ (⟨_, .binOp .sub _ _ _ _, _, _, _, _⟩ :: _) _; first
          | refine LA_subF rfl rfl rfl (by dsimp only [fits]; omega) ?_
          | refine LA_subW rfl rfl rfl ?_)
      | (show LA _ _ _ _ (⟨_, .binOp .mul _ _ _ _, _, _, _, _⟩ :: _) _; first
          | refine LA_mulF rfl rfl rfl (by dsimp only [fits]; omega) ?_
          | refine LA_mulW rfl rfl rfl ?_)
      | (show LA _ _ _ _ (⟨_, .binOp .shr _ _ _ _, _, _, _, _⟩ :: _) _; first
          | (refine LA_shr rfl rfl rfl (by omega) (by dsimp only [IntKind.bits]; omega) ?_; try dsimp only [Int.reduceToNat, Int.reducePow]))
      | (show LA _ _ _ _ (⟨_, .binOp .shl _ _ _ _, _, _, _, _⟩ :: _) _; first
          | (refine LA_shl rfl rfl rfl (by omega) (by dsimp only [IntKind.bits]; omega) ?_; try dsimp only [Int.reduceToNat, Int.reducePow]))
      | (show LA _ _ _ _ (⟨_, .binOp _ _ _ _ _, _, _, _, _⟩ :: _) _; first
          | refine LA_cmpT rfl rfl rfl rfl (by first | (dsimp only [cmpP]; done) | (dsimp only [cmpP]; omega)) ?_
          | refine LA_cmpF rfl rfl rfl rfl (by dsimp only [cmpP]; omega) ?_
          | (refine LA_cmp rfl rfl rfl rfl (fun hc => ?_) (fun hc => ?_) <;> dsimp only [cmpP] at hc)
          | refine LA_boolEqT rfl rfl rfl rfl (by first | rfl | assumption) ?_
          | refine LA_boolEqF rfl rfl rfl rfl (by first | assumption | decide) ?_
          | refine LA_boolEq rfl rfl rfl rfl ?_
          | refine LA_boolNeT rfl rfl rfl rfl (by first | assumption | decide) ?_
          | refine LA_boolNeF rfl rfl rfl rfl (by first | rfl | assumption) ?_
          | refine LA_boolNe rfl rfl rfl rfl ?_)
      | (show LA _ _ _ _ (⟨_, .indexAddr _ _ _, _, _, _, _⟩ :: _) _; first
          | refine LA_indexN rfl _ rfl (fun _ => rfl) rfl (by first | exact HasI.val (by assumption) | exact HasI.pred | exact HasI.own | exact HasI.ownV (by assumption)) rfl (by omega) ?_
          | (refine LA_index rfl _ rfl (fun _ => rfl) rfl (by first | exact HasI.val (by assumption) | exact HasI.pred | exact HasI.own | exact HasI.ownV (by assumption)) rfl (by omega) (by omega) ?_; try dsimp only [Int.reduceToNat]))
      | (show LA _ _ _ _ (⟨_, .load _ _, _, _, _, _⟩ :: _) _; first
          | refine LA_load rfl (fun _ => rfl) rfl ?_)
      | (show LA _ _ _ _ (⟨_, .convert _ _ _, _, _, _, _⟩ :: _) _; first
          | refine LA_convF rfl rfl rfl rfl (by dsimp only [fits]; omega) ?_
          | refine LA_conv rfl rfl rfl rfl ?_)
      | (show LA _ _ _ _ (⟨_, .slice _ _ _ _ _, _, _, _, _⟩ :: _) _; first
          | (refine LA_sliceL rfl _ rfl rfl (by first | exact (HasI.val (by assumption)).c | exact HasI.pred.c | exact HasC.val (by assumption) | exact HasC.pred | exact HasI.own.c | exact HasC.own | exact (HasI.ownV (by assumption)).c | exact HasC.ownV (by assumption)) rfl (by omega) (by omega) (by exact fun _ => rfl) ?_; try dsimp only [Int.reduceToNat, Int.toNat_natCast])
          | (refine LA_sliceH rfl _ rfl rfl (by first | exact (HasI.val (by assumption)).c | exact HasI.pred.c | exact HasC.val (by assumption) | exact HasC.pred | exact HasI.own.c | exact HasC.own | exact (HasI.ownV (by assumption)).c | exact HasC.ownV (by assumption)) rfl (by omega) (by omega) (by exact fun _ => rfl) ?_; try dsimp only [Int.reduceToNat, Int.toNat_natCast])
          | (refine LA_sliceLH rfl _ rfl rfl (by first | exact (HasI.val (by assumption)).c | exact HasI.pred.c | exact HasC.val (by assumption) | exact HasC.pred | exact HasI.own.c | exact HasC.own | exact (HasI.ownV (by assumption)).c | exact HasC.ownV (by assumption)) rfl rfl (by omega) (by omega) (by omega) (by exact fun _ => rfl) ?_; try dsimp only [Int.reduceToNat, Int.toNat_natCast]))
      | (show LA _ _ _ _ (⟨_, .call ⟨.builtin .len, _, _⟩, _, _, _, _⟩ :: _) _; first
          | refine LA_len rfl _ rfl rfl (by first | exact (HasI.val (by assumption)).c | exact HasI.pred.c | exact HasC.val (by assumption) | exact HasC.pred | exact HasI.own.c | exact HasC.own | exact (HasI.ownV (by assumption)).c | exact HasC.ownV (by assumption)) ?_)
      | (refine LA_nil (hK [] _ (LX_nil ?_)); clear hK K)
      | (refine LA_nil (hK _ ?_); clear hK K))
    | (show CX _ _ _ _ _ _; first
      | refine CX_seq ?_
      | refine CX_skip ?_
      | refine CX_block ?_
      | refine CX_exit ?_
      | refine CX_ret ?_
      | refine CX_condT rfl ?_
      | refine CX_condF rfl ?_
      | refine CX_region (by kernel_rfl) (fun K hK => ?_)
      | refine CX_regionA (by kernel_rfl) (by kernel_rfl) (fun K hK => ?_)
      | refine CX_label ?_
      | refine CX_scope ?_)
    | (show PX _ _ _ _ _; first
      | refine PX_then ?_
      | refine PX_thenX ?_
      | refine PX_thenR ?_
      | refine PX_blockN ?_
      | refine PX_blockR ?_
      | refine PX_blockX ?_
      | refine PX_blockO (by decide) ?_
      | refine PX_scopeN ?_
      | refine PX_scopeR ?_
      | refine PX_scopeX ?_)
    | (show LX _ _ _ _ _ _ _; first
      | refine LX_nil ?_))
  · have hen : endsS xs (k + 1) = none := by simp only [endsS, hes, Option.bind_some]; rw [if_pos (by omega)]
    rw [show readS xs rows m = .error 5 by simp only [readS]; rw [if_neg (by omega), if_neg (by omega), if_neg (by omega), Int.toNat_natCast, endsS_none hen m (by omega)]]
    exact PX_retE2 rfl rfl rfl he4 rfl rfl
  · have hsc : ∀ q, sl.ownBlock = some q → q ≠ c := fun q hq => by have := hsl q hq; omega
    have hbc : b ≠ c := by omega
    refine PX_rndV (k + 1, es ++ [valS ((xs.take (4 * k + 4)).drop (4 * k))], v') (fun w8 e8 => ⟨((he6.trans e7).setRow (by have := hr1.size; omega) _).trans e8, ?_, ?_, ?_, ?_, ?_, e8.block (setRow_heap w7 c _ _ _ (0, 0) (e7.block hcl6)), ?_⟩) ?_ ?_
    · have h8 := e8.size; have h7 := e7.size; simp at h8; omega
    · dsimp only; omega
    · dsimp only; simp only [endsS, hes, Option.bind_some]; rw [if_neg (by omega)]
    · dsimp only; simp; omega
    · exact ((hrd6.ext e7).setRow _ hbc (fun q => hsc c q rfl)).ext e8
    · exact OwnI.ext (Own.setRow (OwnI.ext ho7 e7) _ (fun q => by have := (Own.lt ho7 c q).1; omega)) e8
    · dsimp only; omega
    · have hbe : beg (es ++ [valS ((xs.take (4 * k + 4)).drop (4 * k))]) (es ++ [valS ((xs.take (4 * k + 4)).drop (4 * k))]).length = valS ((xs.take (4 * k + 4)).drop (4 * k)) := by
        simp only [List.length_append, List.length_cons, List.length_nil, Nat.zero_add, beg_succ, getD_last]
      dsimp only
      rw [hbe]
      exact (by repeat' (first | exact Sub.nil | refine Sub.val rfl (by first | with_reducible rfl | (congr 1; omega)) ?_ | refine Sub.same rfl ?_))
  · obtain rfl : k = m := by omega
    rw [show readS xs rows k = .error 5 by simp only [readS]; rw [if_neg (by omega), if_neg (by omega), if_neg (by omega), Int.toNat_natCast, hes]; dsimp only; rw [if_neg (by omega)]]
    exact PX_retE2 rfl rfl rfl he rfl rfl
  · obtain rfl : k = m := by omega
    rw [show readS xs rows k = .ok es by simp only [readS]; rw [if_neg (by omega), if_neg (by omega), if_neg (by omega), Int.toNat_natCast, hes]; dsimp only; rw [if_pos (by omega)]]
    refine PX_ret2 rfl (fun x y w5 e5 hx hy => ⟨_, rfl, he.trans e5, x, y, rfl, ?_, hy⟩)
    obtain rfl : x = _ := hx
    exact ⟨c, so, rfl, Nat.le_trans hr1.size hc0, e5.block hcl, Own.base (OwnI.ext ho e5) he9.size, fun q => by have := (Own.lt ho c q).1; omega⟩
theorem read_c (w : World) (v : Value) (xs : List Int) (rows many : Int) (h : SlI .u8 w v xs) (hl : xs.length ≤ 140737488355327) (hx : ∀ x ∈ xs, 0 ≤ x ∧ x < 256) : Fc Try.prog 13 #[v, .int .i64 rows, .int .i64 many] w (Ret w (readR (readS xs rows many))) := (read_o w v xs rows many h hl hx).mono ret_readO
end Go.Proofs.Ytjllghcgomphaaa
