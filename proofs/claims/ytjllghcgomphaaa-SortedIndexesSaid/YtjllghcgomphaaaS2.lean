import Derived.Test.YtjllghcgomphaaaS1
import Derived.Laws.Tables
set_option linter.unusedSimpArgs false
set_option linter.unusedVariables false
namespace Go.Proofs.Ytjllghcgomphaaa
open Go.LA Go.RowKit Go.SrtP

theorem build0 (w : World) : (Instr.build 43 #[]).run Try.prog w = .ok (.agg #[.slice none 0 0]) w := run_build w _ _ _ (by kernel_rfl)
def ofR (o : Option (List Int)) : AD := match o with
  | some ends => .tup2 (.pred (idxI ends)) (.val (.int .i64 0))
  | none => .tup2 (.val (.pointer none)) (.val (.int .i64 2))
def ofO (base : Nat) (o : Option (List Int)) : AD := match o with
  | some ends => .tup2 (.pred (idxO base ends)) (.val (.int .i64 0))
  | none => .tup2 (.val (.pointer none)) (.val (.int .i64 2))
theorem ret_ofO {w : World} {base : Nat} {o : Option (List Int)} (en : Ending) (w' : World) (h : Ret w (ofO base o) en w') : Ret w (ofR o) en w' := by
  cases o with
  | none => exact h
  | some es => exact ret_tup1 (fun _ _ h => IdxO.i h) en w' h
theorem ret_ofOb {w : World} {base base' : Nat} {o : Option (List Int)} (hb : base' ≤ base) (en : Ending) (w' : World) (h : Ret w (ofO base o) en w') : Ret w (ofO base' o) en w' := by
  cases o with
  | none => exact h
  | some es => exact ret_tup1 (fun _ _ h => IdxO.base h hb) en w' h
theorem i64_el : El Try.prog 22 3 (.int .i64 0) 1 8 := ⟨rfl, rfl, rfl, by decide⟩
set_option maxHeartbeats 2000000 in
theorem of_o (w : World) (v : Value) (ids : List Int) (many : Int) (h : SlI .i64 w v ids) : Fc Try.prog 8 #[v, .int .i64 many] w (Ret w (ofO w.heap.size (ofS ids many))) := by
  have hl := h.len
  refine Fc.of (args := [_, _]) Try.func8 rfl rfl Try.ntmps8 (Nat.le_of_ble_eq_true rfl) ?_
  repeat' (first
    | (show LA _ _ _ _ _ _; first
      | refine LA_pass rfl ?_
      | refine LA_nilCheck rfl rfl ?_
      | refine LA_fieldAddr rfl rfl (fun _ => rfl) ?_
      | refine LA_alloc rfl (fun _ => rfl) ?_
      | refine LA_build0 (c := .agg #[.slice none 0 0]) rfl build0 ?_
      | refine LA_box rfl rfl ?_
      | (refine LA_stop (hK _ _ (LX_pick 21 rfl (fun v9 w9 e9 h9 => ?_))); clear hK K; obtain ⟨b, hb0, rfl, hb⟩ := h9; have hh9 := h.ext e9; refine LX_la (by kernel_rfl) (fun K hK => ?_))
      | (show LA _ _ _ _ (⟨_, .move _, _, _, _, _⟩ :: _) _; first
          | refine LA_moveV rfl rfl ?_
          | refine LA_moveP rfl rfl ?_
          | refine LA_moveT rfl rfl ?_
          | refine LA_moveU rfl rfl ?_)
      | (show LA _ _ _ _ (⟨_, .assign _, _, _, _, _⟩ :: _) _; first
          | refine LA_assignV rfl rfl ?_
          | refine LA_assignP rfl rfl ?_
          | refine LA_assignT rfl rfl ?_)
      | (show LA _ _ _ _ (⟨_, .pick _ _ _, _, _, _, _⟩ :: _) _; first
          | refine LA_pickTV rfl rfl rfl ?_
          | refine LA_pickFV rfl rfl rfl ?_)
      | (show LA _ _ _ _ (⟨_, .unOp .not _ _, _, _, _, _⟩ :: _) _; first
          | refine LA_notT rfl rfl ?_
          | refine LA_notF rfl rfl ?_
          | refine LA_not rfl rfl ?_)
      | (show LA _ _ _ _ (⟨_, .extract _ _, _, _, _, _⟩ :: _) _; first
          | refine LA_ext0 rfl rfl ?_
          | refine LA_ext1 rfl rfl ?_
          | refine LA_ext30 rfl rfl ?_
          | refine LA_ext31 rfl rfl ?_
          | refine LA_ext32 rfl rfl ?_)
      | (show LA _ _ _ _ (⟨_, .binOp .add _ _ _ _, _, _, _, _⟩ :: _) _; first
          | refine LA_addF rfl rfl rfl (by dsimp only [fits]; omega) ?_
          | refine LA_addW rfl rfl rfl ?_)
      | (show LA _ _ _ _ (⟨_, .binOp .sub _ _ _ _, _, _, _, _⟩ :: _) _; first
          | refine LA_subF rfl rfl rfl (by dsimp only [fits]; omega) ?_
          | refine LA_subW rfl rfl rfl ?_)
      | (show LA _ _ _ _ (⟨_, .binOp .mul _ _ _ _, _, _, _, _⟩ :: _) _; first
          | refine LA_mulF rfl rfl rfl (by dsimp only [fits]; omega) ?_
          | refine LA_mulW rfl rfl rfl ?_)
      | (show LA _ _ _ _ (⟨_, .binOp .shr _ _ _ _, _, _, _, _⟩ :: _) _; first
          | (refine LA_shr rfl rfl rfl (by omega) (by dsimp only [IntKind.bits]; omega) ?_; try dsimp only [Int.reduceToNat, Int.reducePow]))
      | (show LA _ _ _ _ (⟨_, .binOp .shl _ _ _ _, _, _, _, _⟩ :: _) _; first
          | (refine LA_shl rfl rfl rfl (by omega) (by dsimp only [IntKind.bits]; omega) ?_; try dsimp only [Int.reduceToNat, Int.reducePow]))
      | (show LA _ _ _ _ (⟨_, .binOp _ _ _ _ _, _, _, _, _⟩ :: _) _; first
          | refine LA_cmpT rfl rfl rfl rfl (by first | (dsimp only [cmpP]; done) | (dsimp only [cmpP]; omega)) ?_
          | refine LA_cmpF rfl rfl rfl rfl (by dsimp only [cmpP]; omega) ?_
          | (refine LA_cmp rfl rfl rfl rfl (fun hc => ?_) (fun hc => ?_) <;> dsimp only [cmpP] at hc)
          | refine LA_boolEqT rfl rfl rfl rfl (by first | rfl | assumption) ?_
          | refine LA_boolEqF rfl rfl rfl rfl (by first | assumption | decide) ?_
          | refine LA_boolEq rfl rfl rfl rfl ?_
          | refine LA_boolNeT rfl rfl rfl rfl (by first | assumption | decide) ?_
          | refine LA_boolNeF rfl rfl rfl rfl (by first | rfl | assumption) ?_
          | refine LA_boolNe rfl rfl rfl rfl ?_)
      | (show LA _ _ _ _ (⟨_, .indexAddr _ _ _, _, _, _, _⟩ :: _) _; first
          | refine LA_indexN rfl _ rfl (fun _ => rfl) rfl (by first | exact HasI.val (by assumption) | exact HasI.pred | exact HasI.own | exact HasI.ownV (by assumption)) rfl (by omega) ?_
          | (refine LA_index rfl _ rfl (fun _ => rfl) rfl (by first | exact HasI.val (by assumption) | exact HasI.pred | exact HasI.own | exact HasI.ownV (by assumption)) rfl (by omega) (by omega) ?_; try dsimp only [Int.reduceToNat]))
      | (show LA _ _ _ _ (⟨_, .load _ _, _, _, _, _⟩ :: _) _; first
          | refine LA_load rfl (fun _ => rfl) rfl ?_)
      | (show LA _ _ _ _ (⟨_, .convert _ _ _, _, _, _, _⟩ :: _) _; first
          | refine LA_convF rfl rfl rfl rfl (by dsimp only [fits]; omega) ?_
          | refine LA_conv rfl rfl rfl rfl ?_)
      | (show LA _ _ _ _ (⟨_, .slice _ _ _ _ _, _, _, _, _⟩ :: _) _; first
          | (refine LA_sliceL rfl _ rfl rfl (by first | exact (HasI.val (by assumption)).c | exact HasI.pred.c | exact HasC.val (by assumption) | exact HasC.pred | exact HasI.own.c | exact HasC.own | exact (HasI.ownV (by assumption)).c | exact HasC.ownV (by assumption)) rfl (by omega) (by omega) (by exact fun _ => rfl) ?_; try dsimp only [Int.reduceToNat, Int.toNat_natCast])
          | (refine LA_sliceH rfl _ rfl rfl (by first | exact (HasI.val (by assumption)).c | exact HasI.pred.c | exact HasC.val (by assumption) | exact HasC.pred | exact HasI.own.c | exact HasC.own | exact (HasI.ownV (by assumption)).c | exact HasC.ownV (by assumption)) rfl (by omega) (by omega) (by exact fun _ => rfl) ?_; try dsimp only [Int.reduceToNat, Int.toNat_natCast])
          | (refine LA_sliceLH rfl _ rfl rfl (by first | exact (HasI.val (by assumption)).c | exact HasI.pred.c | exact HasC.val (by assumption) | exact HasC.pred | exact HasI.own.c | exact HasC.own | exact (HasI.ownV (by assumption)).c | exact HasC.ownV (by assumption)) rfl rfl (by omega) (by omega) (by omega) (by exact fun _ => rfl) ?_; try dsimp only [Int.reduceToNat, Int.toNat_natCast]))
      | (show LA _ _ _ _ (⟨_, .call ⟨.builtin .len, _, _⟩, _, _, _, _⟩ :: _) _; first
          | refine LA_len rfl _ rfl rfl (by first | exact (HasI.val (by assumption)).c | exact HasI.pred.c | exact HasC.val (by assumption) | exact HasC.pred | exact HasI.own.c | exact HasC.own | exact (HasI.ownV (by assumption)).c | exact HasC.ownV (by assumption)) ?_)
      | (refine LA_nil (hK [] _ (LX_nil ?_)); clear hK K)
      | (refine LA_nil (hK _ ?_); clear hK K))
    | (show CX _ _ _ _ _ _; first
      | refine CX_seq ?_
      | refine CX_skip ?_
      | refine CX_block ?_
      | refine CX_exit ?_
      | refine CX_ret ?_
      | refine CX_condT rfl ?_
      | refine CX_condF rfl ?_
      | refine CX_region (by kernel_rfl) (fun K hK => ?_)
      | refine CX_regionA (by kernel_rfl) (by kernel_rfl) (fun K hK => ?_)
      | refine CX_label ?_
      | refine CX_scope ?_)
    | (show PX _ _ _ _ _; first
      | refine PX_then ?_
      | refine PX_thenX ?_
      | refine PX_thenR ?_
      | refine PX_blockN ?_
      | refine PX_blockR ?_
      | refine PX_blockX ?_
      | refine PX_blockO (by decide) ?_
      | refine PX_scopeN ?_
      | refine PX_scopeR ?_
      | refine PX_scopeX ?_)
    | (show LX _ _ _ _ _ _ _; first
      | refine LX_nil ?_))
  · rw [show ofS ids many = none by simp only [ofS]; rw [if_pos (by omega)]]; exact PX_retE2 rfl rfl rfl (Ext.refl _) rfl rfl
  · rw [show ofS ids many = none by simp only [ofS]; rw [if_pos (by omega)]]; exact PX_retE2 rfl rfl rfl (Ext.refl _) rfl rfl
  · rw [show ofS ids many = none by simp only [ofS]; rw [if_pos (by omega)]]; exact PX_retE2 rfl rfl rfl (Ext.refl _) rfl rfl
  · have hbs := (Array.getElem?_eq_some_iff.1 hb).1
    refine CX_loopV (ι := Nat × List Int × Value) (fun i => [(1, .val (.int .i64 many)), (6, .val (.pointer (some ⟨b, 0, none⟩))), (22, .val v), (23, .val (.int .i64 ids.length)), (24, .val (.int .i64 i.1))])
      (fun i w' => Ext w w' ∧ w9.heap.size ≤ w'.heap.size ∧ i.1 ≤ ids.length ∧ runS many ids i.1 = some i.2.1 ∧ w'.heap[b]? = some (.cells #[i.2.2] 43 (0, 0)) ∧ OwnI w9.heap.size 3 .i64 w' i.2.2 i.2.1)
      (fun i => ids.length - i.1) (fun w2 e2 => ⟨(0, [], .slice none 0 0), ⟨e9.trans e2, e2.size, Nat.zero_le _, rfl, e2.block hb, OwnI.nil⟩, (by repeat' (first | exact Sub.nil | refine Sub.val rfl (by first | with_reducible rfl | (congr 1; omega)) ?_ | refine Sub.same rfl ?_))⟩) ?_
    rintro ⟨k, es, sl⟩ w1 ⟨he, hsz, hk, hr, hbl, ho⟩
    dsimp only at hk hr hbl ho ⊢
    have h1 := h.ext he
    have hlen := runS_len hr
    repeat' (first
      | (show LA _ _ _ _ _ _; first
        | refine LA_pass rfl ?_
        | refine LA_nilCheck rfl rfl ?_
        | refine LA_fieldAddr (a' := ⟨b, 0, none⟩) rfl rfl (fun _ => rfl) ?_
        | refine LA_loadB (c := sl) rfl (fun _ => rfl) rfl hbl rfl ?_
        | refine LA_one rfl i64_el rfl rfl ?_
        | (refine LA_stop (hK _ _ (LX_append rfl (by decide) i64_el rfl ho rfl HasC.pred (by simp [Value.oneCell']) (by unfold maxLen; omega) (by omega) hsz (fun v' w2 w3 he2 ho3 hg3 => ?_))); clear hK K; have ho4 : OwnI w9.heap.size 3 .i64 w3 v' (es ++ [(k : Int) + 1]) := (by unfold OwnI; simpa using ho3); have hb3 := (hg3.block b (by have := he2.size; omega) (fun q => by have := (Own.lt ho b q.symm).1; omega)).trans (he2.block hbl); have x3 : Ext w w3 := (he.trans he2).grown hg3 (fun q hq => by have := (Own.lt ho q hq).1; have := e9.size; omega); have s3 := he2.size; have s4 := hg3.size; dsimp only [vals]; refine LX_la (by kernel_rfl) (fun K hK => ?_))
        | (refine LA_stop (hK _ _ (LX_store1 rfl rfl rfl hb3 (fun _ => rfl) (Nat.lt_succ_self 0) (OwnI.cells ho4) (OwnI.one ho4) (fun w4 e4 => ?_))); clear hK K; dsimp only [vals]; refine LX_la (by kernel_rfl) (fun K hK => ?_))
        | (obtain ⟨gb, cap, cur, rfl, hgb, hgc, hgn, hgm, hgs, hgt⟩ := ho.row (by omega); refine LA_indexS (s := 1) rfl rfl (fun _ => rfl) rfl rfl (by omega) (by omega) ?_)
        | (refine LA_stop (hK _ _ (LX_store1 (o := 0 + (ids.getD k 0).toNat * 1) rfl rfl rfl hgc (fun _ => rfl) (by omega) rfl rfl (fun w4 e4 => ?_))); clear hK K; dsimp only [vals]; refine LX_la (by kernel_rfl) (fun K hK => ?_))
        | (show LA _ _ _ _ (⟨_, .move _, _, _, _, _⟩ :: _) _; first
            | refine LA_moveV rfl rfl ?_
            | refine LA_moveP rfl rfl ?_
            | refine LA_moveT rfl rfl ?_
            | refine LA_moveU rfl rfl ?_)
        | (show LA _ _ _ _ (⟨_, .assign _, _, _, _, _⟩ :: _) _; first
            | refine LA_assignV rfl rfl ?_
            | refine LA_assignP rfl rfl ?_
            | refine LA_assignT rfl rfl ?_)
        | (show LA _ _ _ _ (⟨_, .pick _ _ _, _, _, _, _⟩ :: _) _; first
            | refine LA_pickTV rfl rfl rfl ?_
            | refine LA_pickFV rfl rfl rfl ?_)
        | (show LA _ _ _ _ (⟨_, .unOp .not _ _, _, _, _, _⟩ :: _) _; first
            | refine LA_notT rfl rfl ?_
            | refine LA_notF rfl rfl ?_
            | refine LA_not rfl rfl ?_)
        | (show LA _ _ _ _ (⟨_, .extract _ _, _, _, _, _⟩ :: _) _; first
            | refine LA_ext0 rfl rfl ?_
            | refine LA_ext1 rfl rfl ?_
            | refine LA_ext30 rfl rfl ?_
            | refine LA_ext31 rfl rfl ?_
            | refine LA_ext32 rfl rfl ?_)
        | (show LA _ _ _ _ (⟨_, .binOp .add _ _ _ _, _, _, _, _⟩ :: _) _; first
            | refine LA_addF rfl rfl rfl (by dsimp only [fits]; omega) ?_
            | refine LA_addW rfl rfl rfl ?_)
        | (show LA _ _ _ _ (⟨_, .binOp .sub _ _ _ _, _, _, _, _⟩ :: _) _; first
            | refine LA_subF rfl rfl rfl (by dsimp only [fits]; omega) ?_
            | refine LA_subW rfl rfl rfl ?_)
        | (show LA _ _ _ _ (⟨_, .binOp .mul _ _ _ _, _, _, _, _⟩ :: _) _; first
            | refine LA_mulF rfl rfl rfl (by dsimp only [fits]; omega) ?_
            | refine LA_mulW rfl rfl rfl ?_)
        | (show LA _ _ _ _ (⟨_, .binOp .shr _ _ _ _, _, _, _, _⟩ :: _) _; first
            | (refine LA_shr rfl rfl rfl (by omega) (by dsimp only [IntKind.bits]; omega) ?_; try dsimp only [Int.reduceToNat, Int.reducePow]))
        | (show LA _ _ _ _ (⟨_, .binOp .shl _ _ _ _, _, _, _, _⟩ :: _) _; first
            | (refine LA_shl rfl rfl rfl (by omega) (by dsimp only [IntKind.bits]; omega) ?_; try dsimp only [Int.reduceToNat, Int.reducePow]))
        | (show LA _ _ _ _ (⟨_, .binOp _ _ _ _ _, _, _, _, _⟩ :: _) _; first
            | refine LA_cmpT rfl rfl rfl rfl (by first | (dsimp only [cmpP]; done) | (dsimp only [cmpP]; omega)) ?_
            | refine LA_cmpF rfl rfl rfl rfl (by dsimp only [cmpP]; omega) ?_
            | (refine LA_cmp rfl rfl rfl rfl (fun hc => ?_) (fun hc => ?_) <;> dsimp only [cmpP] at hc)
            | refine LA_boolEqT rfl rfl rfl rfl (by first | rfl | assumption) ?_
            | refine LA_boolEqF rfl rfl rfl rfl (by first | assumption | decide) ?_
            | refine LA_boolEq rfl rfl rfl rfl ?_
            | refine LA_boolNeT rfl rfl rfl rfl (by first | assumption | decide) ?_
            | refine LA_boolNeF rfl rfl rfl rfl (by first | rfl | assumption) ?_
            | refine LA_boolNe rfl rfl rfl rfl ?_)
        | (show LA _ _ _ _ (⟨_, .indexAddr _ _ _, _, _, _, _⟩ :: _) _; first
            | refine LA_indexN rfl _ rfl (fun _ => rfl) rfl (by first | exact HasI.val (by assumption) | exact HasI.pred | exact HasI.own | exact HasI.ownV (by assumption)) rfl (by omega) ?_
            | (refine LA_index rfl _ rfl (fun _ => rfl) rfl (by first | exact HasI.val (by assumption) | exact HasI.pred | exact HasI.own | exact HasI.ownV (by assumption)) rfl (by omega) (by omega) ?_; try dsimp only [Int.reduceToNat]))
        | (show LA _ _ _ _ (⟨_, .load _ _, _, _, _, _⟩ :: _) _; first
            | refine LA_load rfl (fun _ => rfl) rfl ?_)
        | (show LA _ _ _ _ (⟨_, .convert _ _ _, _, _, _, _⟩ :: _) _; first
            | refine LA_convF rfl rfl rfl rfl (by dsimp only [fits]; omega) ?_
            | refine LA_conv rfl rfl rfl rfl ?_)
        | (show LA _ _ _ _ (⟨_, .slice _ _ _ _ _, _, _, _, _⟩ :: _) _; first
            | (refine LA_sliceL rfl _ rfl rfl (by first | exact (HasI.val (by assumption)).c | exact HasI.pred.c | exact HasC.val (by assumption) | exact HasC.pred | exact HasI.own.c | exact HasC.own | exact (HasI.ownV (by assumption)).c | exact HasC.ownV (by assumption)) rfl (by omega) (by omega) (by exact fun _ => rfl) ?_; try dsimp only [Int.reduceToNat, Int.toNat_natCast])
            | (refine LA_sliceH rfl _ rfl rfl (by first | exact (HasI.val (by assumption)).c | exact HasI.pred.c | exact HasC.val (by assumption) | exact HasC.pred | exact HasI.own.c | exact HasC.own | exact (HasI.ownV (by assumption)).c | exact HasC.ownV (by assumption)) rfl (by omega) (by omega) (by exact fun _ => rfl) ?_; try dsimp only [Int.reduceToNat, Int.toNat_natCast])
            | (refine LA_sliceLH rfl _ rfl rfl (by first | exact (HasI.val (by assumption)).c | exact HasI.pred.c | exact HasC.val (by assumption) | exact HasC.pred | exact HasI.own.c | exact HasC.own | exact (HasI.ownV (by assumption)).c | exact HasC.ownV (by assumption)) rfl rfl (by omega) (by omega) (by omega) (by exact fun _ => rfl) ?_; try dsimp only [Int.reduceToNat, Int.toNat_natCast]))
        | (show LA _ _ _ _ (⟨_, .call ⟨.builtin .len, _, _⟩, _, _, _, _⟩ :: _) _; first
            | refine LA_len rfl _ rfl rfl (by first | exact (HasI.val (by assumption)).c | exact HasI.pred.c | exact HasC.val (by assumption) | exact HasC.pred | exact HasI.own.c | exact HasC.own | exact (HasI.ownV (by assumption)).c | exact HasC.ownV (by assumption)) ?_)
        | (refine LA_nil (hK [] _ (LX_nil ?_)); clear hK K)
        | (refine LA_nil (hK _ ?_); clear hK K))
      | (show CX _ _ _ _ _ _; first
        | refine CX_seq ?_
        | refine CX_skip ?_
        | refine CX_block ?_
        | refine CX_exit ?_
        | refine CX_ret ?_
        | refine CX_condT rfl ?_
        | refine CX_condF rfl ?_
        | refine CX_region (by kernel_rfl) (fun K hK => ?_)
        | refine CX_regionA (by kernel_rfl) (by kernel_rfl) (fun K hK => ?_)
        | refine CX_label ?_
        | refine CX_scope ?_)
      | (show PX _ _ _ _ _; first
        | refine PX_then ?_
        | refine PX_thenX ?_
        | refine PX_thenR ?_
        | refine PX_blockN ?_
        | refine PX_blockR ?_
        | refine PX_blockX ?_
        | refine PX_blockO (by decide) ?_
        | refine PX_scopeN ?_
        | refine PX_scopeR ?_
        | refine PX_scopeX ?_)
      | (show LX _ _ _ _ _ _ _; first
        | refine LX_nil ?_))
    · rename_i hc1 hc2 hc3
      refine PX_rndV (k + 1, es ++ [(k : Int) + 1], v') (fun w5 e5 => ⟨((x3.trans e4).setRow hb0 _).trans e5, ?_, ?_, ?_, e5.block (setRow_heap w4 b _ _ _ (0, 0) (e4.block hb3)), ?_⟩) ?_ (by repeat' (first | exact Sub.nil | refine Sub.val rfl (by first | with_reducible rfl | (congr 1; omega)) ?_ | refine Sub.same rfl ?_))
      · have h5 := e5.size; have h6 := e4.size; simp at h5; omega
      · dsimp only; omega
      · dsimp only; simp only [runS, hr, Option.bind_some, stepS]; rw [if_pos (by omega)]
      · exact OwnI.ext (Own.setRow (OwnI.ext ho4 e4) _ (fun q => by have := (Own.lt ho4 b q).1; omega)) e5
      · dsimp only; omega
    · rw [ofS_none (k := k + 1) (by omega) (by simp only [runS, hr, Option.bind_some, stepS]; rw [if_neg (by omega), if_neg (by omega)])]; exact PX_retE2 rfl rfl rfl he rfl rfl
    · refine PX_rndV (k + 1, es.set (ids.getD k 0).toNat ((k : Int) + 1), .slice (some ⟨gb, 0, none⟩) es.length cap) (fun w5 e5 => ⟨((he.trans e4).setRow (by have := e9.size; omega) _).trans e5, ?_, ?_, ?_, ?_, ?_⟩) ?_ (by repeat' (first | exact Sub.nil | refine Sub.val rfl (by first | with_reducible rfl | (congr 1; omega)) ?_ | refine Sub.same rfl ?_))
      · have h5 := e5.size; have h6 := e4.size; simp at h5; omega
      · dsimp only; omega
      · dsimp only; simp only [runS, hr, Option.bind_some, stepS]; rw [if_neg (by omega), if_pos (by omega)]
      · refine e5.block ?_
        rw [setRow_other _ _ _ _ (by omega)]
        exact e4.block hbl
      · have hh := OwnI.set hgb (e4.block hgc) hgn hgm hgs hgt (ids.getD k 0).toNat (by omega) ((k : Int) + 1)
        have e0 : 0 + (ids.getD k 0).toNat * 1 = (ids.getD k 0).toNat := by omega
        rw [e0] at e5
        exact OwnI.ext hh e5
      · dsimp only; omega
    · rw [ofS_none (k := k + 1) (by omega) (by simp only [runS, hr, Option.bind_some, stepS]; rw [if_neg (by omega), if_neg (by omega)])]; exact PX_retE2 rfl rfl rfl he rfl rfl
    · rw [ofS_none (k := k + 1) (by omega) (by simp only [runS, hr, Option.bind_some, stepS]; rw [if_neg (by omega), if_neg (by omega)])]; exact PX_retE2 rfl rfl rfl he rfl rfl
    · obtain rfl : k = ids.length := by omega
      rw [show ofS ids many = none by simp only [ofS]; rw [if_neg (by omega), hr]; simp only [Option.bind_some]; rw [if_neg (by omega)]]; exact PX_retE2 rfl rfl rfl he rfl rfl
    · obtain rfl : k = ids.length := by omega
      rw [show ofS ids many = some es by simp only [ofS]; rw [if_neg (by omega), hr]; simp only [Option.bind_some]; rw [if_pos (by omega)]]
      refine PX_ret2 rfl (fun x y w5 e5 hx hy => ⟨_, rfl, he.trans e5, x, y, rfl, ?_, hy⟩)
      obtain rfl : x = _ := hx
      exact ⟨b, sl, rfl, hb0, e5.block hbl, Own.base (OwnI.ext ho e5) e9.size, fun q => by have := (Own.lt ho b q).1; omega⟩
theorem of_c (w : World) (v : Value) (ids : List Int) (many : Int) (h : SlI .i64 w v ids) : Fc Try.prog 8 #[v, .int .i64 many] w (Ret w (ofR (ofS ids many))) := (of_o w v ids many h).mono ret_ofO
theorem of_ao {w : World} {v : Value} {ids : List Int} {many : Int} (h : SlI .i64 w v ids) {o : Option (List Int)} (ho : ofS ids many = o) : Fc Try.prog 8 #[v, .int .i64 many] w (Ret w (ofO w.heap.size o)) := ho ▸ of_o w v ids many h
theorem of_at {w : World} {v : Value} {ids : List Int} {many : Int} (h : SlI .i64 w v ids) {o : Option (List Int)} (ho : ofS ids many = o) : Fc Try.prog 8 #[v, .int .i64 many] w (Ret w (ofR o)) := ho ▸ of_c w v ids many h
end Go.Proofs.Ytjllghcgomphaaa
