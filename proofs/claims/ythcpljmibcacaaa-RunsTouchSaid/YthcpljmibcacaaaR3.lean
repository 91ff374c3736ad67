import Derived.Test.YthcpljmibcacaaaR2
import Derived.Laws.StructEq

set_option linter.unusedSimpArgs false
set_option linter.unusedVariables false
namespace Go.Proofs.Ythcpljmibcacaaa
open Go.LA Go.ArrP Go.RowKit
theorem eqR_run (f m f' m' : Int) (w : World) : (Op.equalIn 10000 25 (runV f m) (runV f' m')).run Try.prog w = .ok (decide (f = f') && decide (m = m')) w := by
  unfold runV
  rw [run_equalIn_agg w 9999 25 _ _ (by kernel_rfl) (by kernel_rfl)]
  have hp : ∀ (f m : Int) (w : World), (part 22 #[.int .u16 f, .int .u16 m] 0).run Try.prog w = .ok (.int .u16 f) w := fun f m w => by kernel_rfl
  have hq : ∀ (f m : Int) (w : World), (part 22 #[.int .u16 f, .int .u16 m] 1).run Try.prog w = .ok (.int .u16 m) w := fun f m w => by kernel_rfl
  have he : ∀ (a b : Int) (w : World), (Op.equalIn 9999 22 (.int .u16 a) (.int .u16 b)).run Try.prog w = .ok (a == b) w := fun a b w => run_equalIn_int w 9998 _ _ _ a b (by kernel_rfl : Try.prog.underlying 22 = some (.int .u16))
  simp only [Program.fieldsOf, Try.underlying25]
  simp only [Op.eqFields, Sem.run_bind, Sem.run_ite, hp, hq, he, Result.andThen_ok, Sem.run_pure]
  by_cases h1 : f = f' <;> by_cases h2 : m = m' <;> simp [h1, h2]
theorem neR_op (f m f' m' : Int) (x y : Operand) (w : World) : (do eqGuard .neq 25 x y (runV f m) (runV f' m'); binOp .neq 25 (runV f m) (runV f' m') : Sem Value).run Try.prog w = .ok (.bool (!(decide (f = f') && decide (m = m')))) w := by
  have h := eqR_run f m f' m' w
  unfold runV at h ⊢
  rw [Sem.run_bind, run_eqGuard_agg w _ _ _ _ _ _ (by kernel_rfl)]
  simp only [Result.andThen_ok, run_neq_struct, h]
theorem eqR_op (f m f' m' : Int) (x y : Operand) (w : World) : (do eqGuard .eql 25 x y (runV f m) (runV f' m'); binOp .eql 25 (runV f m) (runV f' m') : Sem Value).run Try.prog w = .ok (.bool (decide (f = f') && decide (m = m'))) w := by
  have h := eqR_run f m f' m' w
  unfold runV at h ⊢
  rw [Sem.run_bind, run_eqGuard_agg w _ _ _ _ _ _ (by kernel_rfl)]
  simp only [Result.andThen_ok, run_eql_struct, h]
/-! ### Same -/
theorem runs_ext {a b : List Rn} (hl : a.length = b.length) (h : ∀ k, k < a.length → fst a k = fst b k ∧ mor a k = mor b k) : a = b :=
  List.ext_getElem hl fun i h1 h2 => by
    obtain ⟨e1, e2⟩ := h i h1
    unfold fst at e1; unfold mor at e2
    have g1 : a.getD i (0, 0) = a[i] := by simp [List.getD, h1]
    have g2 : b.getD i (0, 0) = b[i] := by simp [List.getD, h2]
    rw [g1, g2] at e1 e2
    exact Prod.ext e1 e2
theorem rsameR_c (w : World) (v u : Value) (a b : List Rn) (h : SlR w v a) (h' : SlR w u b) : Fc Try.prog 11 #[v, u] w (Ret w (.val (.bool (decide (a = b))))) := by
  have hl := h.len
  have hl' := h'.len
  refine Fc.of (args := [_, _]) Try.func11 rfl rfl Try.ntmps11 (Nat.le_of_ble_eq_true rfl) ?_
  by_cases hlen : a.length = b.length
  · skip
    repeat' (first
      | (show LA _ _ _ _ _ _; first
        | refine LA_pass rfl ?_
        | (show LA _ _ _ _ (⟨_, .indexAddr _ _ _, _, _, _, _⟩ :: _) _; refine LA_indexR rfl _ rfl (fun _ => rfl) rfl (by first | exact HasR.val (by assumption) | exact HasR.own | exact HasR.ownV (by assumption)) rfl (by omega) ?_)
        | (show LA _ _ _ _ (⟨_, .load 25 _, _, _, _, _⟩ :: _) _; refine LA_loadC rfl (fun _ => rfl) (fun _ => rfl) rfl ?_)
        | (show LA _ _ _ _ (⟨some 99, .alloc _, _, _, _, _⟩ :: _) _; refine LA_stop (hK _ _ (LX_var rfl rfl (by decide) (fun _ => rfl) (fun _ => rfl) (fun _ => rfl) rfl (by intro u hu; simp [Value.cells] at hu; rcases hu with rfl | rfl <;> rfl) (fun bx wx ex hbx hbc => ?_))); clear hK K; refine LX_la (by kernel_rfl) (fun K hK => ?_))
        | (show LA _ _ _ _ (⟨_, .fieldAddr _ _ 0, _, _, _, _⟩ :: _) _; refine LA_fieldAddr (a := ⟨bx, 0, none⟩) (a' := ⟨bx, 0, none⟩) rfl rfl (fun _ => rfl) ?_)
        | (show LA _ _ _ _ (⟨_, .fieldAddr _ _ 1, _, _, _, _⟩ :: _) _; refine LA_fieldAddr (a := ⟨bx, 0, none⟩) (a' := ⟨bx, 1, none⟩) rfl rfl (fun _ => rfl) ?_)
        | (show LA _ _ _ _ (⟨_, .load 25 _, _, _, _, _⟩ :: _) _; refine LA_loadBN rfl (fun _ => rfl) (fun _ => rfl) rfl hbc ?_)
        | (show LA _ _ _ _ (⟨_, .load 22 _, _, _, _, _⟩ :: _) _; refine LA_loadB rfl (fun _ => rfl) rfl hbc rfl ?_)
        | (show LA _ _ _ _ (⟨_, .call ⟨.builtin .len, _, _⟩, _, _, _, _⟩ :: _) _; refine LA_lenR rfl _ rfl rfl (by first | exact HasR.val (by assumption) | exact HasR.own | exact HasR.ownV (by assumption)) ?_)
        | (show LA _ _ _ _ (⟨_, .move _, _, _, _, _⟩ :: _) _; first
            | refine LA_moveV rfl rfl ?_
            | refine LA_moveP rfl rfl ?_
            | refine LA_moveT rfl rfl ?_
            | refine LA_moveU rfl rfl ?_)
        | (show LA _ _ _ _ (⟨_, .assign _, _, _, _, _⟩ :: _) _; first
            | refine LA_assignV rfl rfl ?_
            | refine LA_assignP rfl rfl ?_
            | refine LA_assignT rfl rfl ?_)
        | (show LA _ _ _ _ (⟨_, .pick _ _ _, _, _, _, _⟩ :: _) _; first
            | refine LA_pickTV rfl rfl rfl ?_
            | refine LA_pickFV rfl rfl rfl ?_)
        | (show LA _ _ _ _ (⟨_, .unOp .not _ _, _, _, _, _⟩ :: _) _; first
            | refine LA_notT rfl rfl ?_
            | refine LA_notF rfl rfl ?_
            | refine LA_not rfl rfl ?_)
        | (show LA _ _ _ _ (⟨_, .extract _ _, _, _, _, _⟩ :: _) _; first
            | refine LA_ext0 rfl rfl ?_
            | refine LA_ext1 rfl rfl ?_
            | refine LA_ext30 rfl rfl ?_
            | refine LA_ext31 rfl rfl ?_
            | refine LA_ext32 rfl rfl ?_)
        | (show LA _ _ _ _ (⟨_, .binOp .add _ _ _ _, _, _, _, _⟩ :: _) _; first
            | refine LA_addF rfl rfl rfl (by dsimp only [fits]; omega) ?_
            | refine LA_addW rfl rfl rfl ?_)
        | (show LA _ _ _ _ (⟨_, .binOp .sub _ _ _ _, _, _, _, _⟩ :: _) _; first
            | refine LA_subF rfl rfl rfl (by dsimp only [fits]; omega) ?_
            | refine LA_subW rfl rfl rfl ?_)
        | (show LA _ _ _ _ (⟨_, .binOp .mul _ _ _ _, _, _, _, _⟩ :: _) _; first
            | refine LA_mulF rfl rfl rfl (by dsimp only [fits]; omega) ?_
            | refine LA_mulW rfl rfl rfl ?_)
        | (show LA _ _ _ _ (⟨_, .binOp .quo _ _ _ _, _, _, _, _⟩ :: _) _; first
            | refine LA_quo rfl rfl rfl (by omega) (by omega) (by dsimp only [fits]; omega) ?_)
        | (show LA _ _ _ _ (⟨_, .binOp .rem _ _ _ _, _, _, _, _⟩ :: _) _; first
            | refine LA_rem rfl rfl rfl (by omega) (by omega) (by dsimp only [fits]; omega) ?_)
        | (show LA _ _ _ _ (⟨_, .binOp .shr _ _ _ _, _, _, _, _⟩ :: _) _; first
            | (refine LA_shr rfl rfl rfl (by omega) (by dsimp only [IntKind.bits]; omega) ?_; try dsimp only [Int.reduceToNat, Int.reducePow]))
        | (show LA _ _ _ _ (⟨_, .binOp .shl _ _ _ _, _, _, _, _⟩ :: _) _; first
            | (refine LA_shl rfl rfl rfl (by omega) (by dsimp only [IntKind.bits]; omega) ?_; try dsimp only [Int.reduceToNat, Int.reducePow]))
        | (show LA _ _ _ _ (⟨_, .binOp _ _ _ _ _, _, _, _, _⟩ :: _) _; first
            | refine LA_cmpT rfl rfl rfl rfl (by first | (dsimp only [cmpP]; done) | (dsimp only [cmpP]; omega)) ?_
            | refine LA_cmpF rfl rfl rfl rfl (by dsimp only [cmpP]; omega) ?_
            | (refine LA_cmp rfl rfl rfl rfl (fun hc => ?_) (fun hc => ?_) <;> dsimp only [cmpP] at hc)
            | refine LA_boolEqT rfl rfl rfl rfl (by first | rfl | assumption) ?_
            | refine LA_boolEqF rfl rfl rfl rfl (by first | assumption | decide) ?_
            | refine LA_boolEq rfl rfl rfl rfl ?_
            | refine LA_boolNeT rfl rfl rfl rfl (by first | assumption | decide) ?_
            | refine LA_boolNeF rfl rfl rfl rfl (by first | rfl | assumption) ?_
            | refine LA_boolNe rfl rfl rfl rfl ?_)
        | (show LA _ _ _ _ (⟨_, .indexAddr _ _ _, _, _, _, _⟩ :: _) _; first
            | refine LA_indexN rfl _ rfl (fun _ => rfl) rfl (by first | exact HasI.val (by assumption) | exact HasI.pred | exact HasI.own | exact HasI.ownV (by assumption)) rfl (by omega) ?_
            | (refine LA_index rfl _ rfl (fun _ => rfl) rfl (by first | exact HasI.val (by assumption) | exact HasI.pred | exact HasI.own | exact HasI.ownV (by assumption)) rfl (by omega) (by omega) ?_; try dsimp only [Int.reduceToNat]))
        | (show LA _ _ _ _ (⟨_, .load _ _, _, _, _, _⟩ :: _) _; first
            | refine LA_load rfl (fun _ => rfl) rfl ?_)
        | (show LA _ _ _ _ (⟨_, .convert _ _ _, _, _, _, _⟩ :: _) _; first
            | refine LA_convF rfl rfl rfl rfl (by dsimp only [fits]; omega) ?_
            | refine LA_conv rfl rfl rfl rfl ?_)
        | (show LA _ _ _ _ (⟨_, .slice _ _ _ _ _, _, _, _, _⟩ :: _) _; first
            | (refine LA_sliceL rfl _ rfl rfl (by first | exact (HasI.val (by assumption)).c | exact HasI.pred.c | exact HasC.val (by assumption) | exact HasC.pred | exact HasI.own.c | exact HasC.own | exact (HasI.ownV (by assumption)).c | exact HasC.ownV (by assumption)) rfl (by omega) (by omega) (by exact fun _ => rfl) ?_; try dsimp only [Int.reduceToNat, Int.toNat_natCast])
            | (refine LA_sliceH rfl _ rfl rfl (by first | exact (HasI.val (by assumption)).c | exact HasI.pred.c | exact HasC.val (by assumption) | exact HasC.pred | exact HasI.own.c | exact HasC.own | exact (HasI.ownV (by assumption)).c | exact HasC.ownV (by assumption)) rfl (by omega) (by omega) (by exact fun _ => rfl) ?_; try dsimp only [Int.reduceToNat, Int.toNat_natCast])
            | (refine LA_sliceLH rfl _ rfl rfl (by first | exact (HasI.val (by assumption)).c | exact HasI.pred.c | exact HasC.val (by assumption) | exact HasC.pred | exact HasI.own.c | exact HasC.own | exact (HasI.ownV (by assumption)).c | exact HasC.ownV (by assumption)) rfl rfl (by omega) (by omega) (by omega) (by exact fun _ => rfl) ?_; try dsimp only [Int.reduceToNat, Int.toNat_natCast]))
        | (show LA _ _ _ _ (⟨_, .call ⟨.builtin .len, _, _⟩, _, _, _, _⟩ :: _) _; first
            | refine LA_len rfl _ rfl rfl (by first | exact (HasI.val (by assumption)).c | exact HasI.pred.c | exact HasC.val (by assumption) | exact HasC.pred | exact HasI.own.c | exact HasC.own | exact (HasI.ownV (by assumption)).c | exact HasC.ownV (by assumption)) ?_)
        | (refine LA_nil (hK [] _ (LX_nil ?_)); clear hK K)
        | (refine LA_nil (hK _ ?_); clear hK K))
      | (show CX _ _ _ _ _ _; first
        | refine CX_seq ?_
        | refine CX_skip ?_
        | refine CX_block ?_
        | refine CX_exit ?_
        | refine CX_ret ?_
        | refine CX_condT rfl ?_
        | refine CX_condF rfl ?_
        | refine CX_region (by kernel_rfl) (fun K hK => ?_)
        | refine CX_regionA (by kernel_rfl) (by kernel_rfl) (fun K hK => ?_)
        | refine CX_label ?_
        | refine CX_scope ?_)
      | (show PX _ _ _ _ _; first
        | refine PX_then ?_
        | refine PX_thenX ?_
        | refine PX_thenR ?_
        | refine PX_blockN ?_
        | refine PX_blockR ?_
        | refine PX_blockX ?_
        | refine PX_blockO (by decide) ?_
        | refine PX_scopeN ?_
        | refine PX_scopeR ?_
        | refine PX_scopeX ?_)
      | (show LX _ _ _ _ _ _ _; first
        | refine LX_nil ?_))
    refine CX_loop (ι := Nat) (fun k => [(0, .val v), (1, .val u), (5, .val (.int .i64 k))]) (fun k => k ≤ a.length ∧ ∀ i, i < k → fst a i = fst b i ∧ mor a i = mor b i) (fun k => a.length - k) 0 ⟨Nat.zero_le _, fun i h1 => by omega⟩ (by repeat' (first | exact Sub.nil | refine Sub.val rfl (by first | with_reducible rfl | (congr 1; omega)) ?_ | refine Sub.same rfl ?_)) ?_
    rintro k ⟨hk, hin⟩
    by_cases hkl : k < a.length
    · by_cases he : fst a k = fst b k ∧ mor a k = mor b k
      · have hb : (!(decide (fst a k = fst b k) && decide (mor a k = mor b k))) = false := by simp [he.1, he.2]
        repeat' (first
          | (show LA _ _ _ _ _ _; first
            | refine LA_pass rfl ?_
            | (refine LA_binV (c := .bool false) rfl rfl rfl (fun w => (neR_op _ _ _ _ _ _ w).trans (by rw [hb])) ?_)
            | (show LA _ _ _ _ (⟨_, .indexAddr _ _ _, _, _, _, _⟩ :: _) _; refine LA_indexR rfl _ rfl (fun _ => rfl) rfl (by first | exact HasR.val (by assumption) | exact HasR.own | exact HasR.ownV (by assumption)) rfl (by omega) ?_)
            | (show LA _ _ _ _ (⟨_, .load 25 _, _, _, _, _⟩ :: _) _; refine LA_loadC rfl (fun _ => rfl) (fun _ => rfl) rfl ?_)
            | (show LA _ _ _ _ (⟨some 99, .alloc _, _, _, _, _⟩ :: _) _; refine LA_stop (hK _ _ (LX_var rfl rfl (by decide) (fun _ => rfl) (fun _ => rfl) (fun _ => rfl) rfl (by intro u hu; simp [Value.cells] at hu; rcases hu with rfl | rfl <;> rfl) (fun bx wx ex hbx hbc => ?_))); clear hK K; refine LX_la (by kernel_rfl) (fun K hK => ?_))
            | (show LA _ _ _ _ (⟨_, .fieldAddr _ _ 0, _, _, _, _⟩ :: _) _; refine LA_fieldAddr (a := ⟨bx, 0, none⟩) (a' := ⟨bx, 0, none⟩) rfl rfl (fun _ => rfl) ?_)
            | (show LA _ _ _ _ (⟨_, .fieldAddr _ _ 1, _, _, _, _⟩ :: _) _; refine LA_fieldAddr (a := ⟨bx, 0, none⟩) (a' := ⟨bx, 1, none⟩) rfl rfl (fun _ => rfl) ?_)
            | (show LA _ _ _ _ (⟨_, .load 25 _, _, _, _, _⟩ :: _) _; refine LA_loadBN rfl (fun _ => rfl) (fun _ => rfl) rfl hbc ?_)
            | (show LA _ _ _ _ (⟨_, .load 22 _, _, _, _, _⟩ :: _) _; refine LA_loadB rfl (fun _ => rfl) rfl hbc rfl ?_)
            | (show LA _ _ _ _ (⟨_, .call ⟨.builtin .len, _, _⟩, _, _, _, _⟩ :: _) _; refine LA_lenR rfl _ rfl rfl (by first | exact HasR.val (by assumption) | exact HasR.own | exact HasR.ownV (by assumption)) ?_)
            | (show LA _ _ _ _ (⟨_, .move _, _, _, _, _⟩ :: _) _; first
                | refine LA_moveV rfl rfl ?_
                | refine LA_moveP rfl rfl ?_
                | refine LA_moveT rfl rfl ?_
                | refine LA_moveU rfl rfl ?_)
            | (show LA _ _ _ _ (⟨_, .assign _, _, _, _, _⟩ :: _) _; first
                | refine LA_assignV rfl rfl ?_
                | refine LA_assignP rfl rfl ?_
                | refine LA_assignT rfl rfl ?_)
            | (show LA _ _ _ _ (⟨_, .pick _ _ _, _, _, _, _⟩ :: _) _; first
                | refine LA_pickTV rfl rfl rfl ?_
                | refine LA_pickFV rfl rfl rfl ?_)
            | (show LA _ _ _ _ (⟨_, .unOp .not _ _, _, _, _, _⟩ :: _) _; first
                | refine LA_notT rfl rfl ?_
                | refine LA_notF rfl rfl ?_
                | refine LA_not rfl rfl ?_)
            | (show LA _ _ _ _ (⟨_, .extract _ _, _, _, _, _⟩ :: _) _; first
                | refine LA_ext0 rfl rfl ?_
                | refine LA_ext1 rfl rfl ?_
                | refine LA_ext30 rfl rfl ?_
                | refine LA_ext31 rfl rfl ?_
                | refine LA_ext32 rfl rfl ?_)
            | (show LA _ _ _ _ (⟨_, .binOp .add _ _ _ _, _, _, _, _⟩ :: _) _; first
                | refine LA_addF rfl rfl rfl (by dsimp only [fits]; omega) ?_
                | refine LA_addW rfl rfl rfl ?_)
            | (show LA _ _ _ _ (⟨_, .binOp .sub _ _ _ _, _, _, _, _⟩ :: _) _; first
                | refine LA_subF rfl rfl rfl (by dsimp only [fits]; omega) ?_
                | refine LA_subW rfl rfl rfl ?_)
            | (show LA _ _ _ _ (⟨_, .binOp .mul _ _ _ _, _, _, _, _⟩ :: _) _; first
                | refine LA_mulF rfl rfl rfl (by dsimp only [fits]; omega) ?_
                | refine LA_mulW rfl rfl rfl ?_)
            | (show LA _ _ _ _ (⟨_, .binOp .quo _ _ _ _, _, _, _, _⟩ :: _) _; first
                | refine LA_quo rfl rfl rfl (by omega) (by omega) (by dsimp only [fits]; omega) ?_)
            | (show LA _ _ _ _ (⟨_, .binOp .rem _ _ _ _, _, _, _, _⟩ :: _) _; first
                | refine LA_rem rfl rfl rfl (by omega) (by omega) (by dsimp only [fits]; omega) ?_)
            | (show LA _ _ _ _ (⟨_, .binOp .shr _ _ _ _, _, _, _, _⟩ :: _) _; first
                | (refine LA_shr rfl rfl rfl (by omega) (by dsimp only [IntKind.bits]; omega) ?_; try dsimp only [Int.reduceToNat, Int.reducePow]))
            | (show LA _ _ _ _ (⟨_, .binOp .shl _ _ _ _, _, _, _, _⟩ :: _) _; first
                | (refine LA_shl rfl rfl rfl (by omega) (by dsimp only [IntKind.bits]; omega) ?_; try dsimp only [Int.reduceToNat, Int.reducePow]))
            | (show LA _ _ _ _ (⟨_, .binOp _ _ _ _ _, _, _, _, _⟩ :: _) _; first
                | refine LA_cmpT rfl rfl rfl rfl (by first | (dsimp only [cmpP]; done) | (dsimp only [cmpP]; omega)) ?_
                | refine LA_cmpF rfl rfl rfl rfl (by dsimp only [cmpP]; omega) ?_
                | (refine LA_cmp rfl rfl rfl rfl (fun hc => ?_) (fun hc => ?_) <;> dsimp only [cmpP] at hc)
                | refine LA_boolEqT rfl rfl rfl rfl (by first | rfl | assumption) ?_
                | refine LA_boolEqF rfl rfl rfl rfl (by first | assumption | decide) ?_
                | refine LA_boolEq rfl rfl rfl rfl ?_
                | refine LA_boolNeT rfl rfl rfl rfl (by first | assumption | decide) ?_
                | refine LA_boolNeF rfl rfl rfl rfl (by first | rfl | assumption) ?_
                | refine LA_boolNe rfl rfl rfl rfl ?_)
            | (show LA _ _ _ _ (⟨_, .indexAddr _ _ _, _, _, _, _⟩ :: _) _; first
                | refine LA_indexN rfl _ rfl (fun _ => rfl) rfl (by first | exact HasI.val (by assumption) | exact HasI.pred | exact HasI.own | exact HasI.ownV (by assumption)) rfl (by omega) ?_
                | (refine LA_index rfl _ rfl (fun _ => rfl) rfl (by first | exact HasI.val (by assumption) | exact HasI.pred | exact HasI.own | exact HasI.ownV (by assumption)) rfl (by omega) (by omega) ?_; try dsimp only [Int.reduceToNat]))
            | (show LA _ _ _ _ (⟨_, .load _ _, _, _, _, _⟩ :: _) _; first
                | refine LA_load rfl (fun _ => rfl) rfl ?_)
            | (show LA _ _ _ _ (⟨_, .convert _ _ _, _, _, _, _⟩ :: _) _; first
                | refine LA_convF rfl rfl rfl rfl (by dsimp only [fits]; omega) ?_
                | refine LA_conv rfl rfl rfl rfl ?_)
            | (show LA _ _ _ _ (⟨_, .slice _ _ _ _ _, _, _, _, _⟩ :: _) _; first
                | (refine LA_sliceL rfl _ rfl rfl (by first | exact (HasI.val (by assumption)).c | exact HasI.pred.c | exact HasC.val (by assumption) | exact HasC.pred | exact HasI.own.c | exact HasC.own | exact (HasI.ownV (by assumption)).c | exact HasC.ownV (by assumption)) rfl (by omega) (by omega) (by exact fun _ => rfl) ?_; try dsimp only [Int.reduceToNat, Int.toNat_natCast])
                | (refine LA_sliceH rfl _ rfl rfl (by first | exact (HasI.val (by assumption)).c | exact HasI.pred.c | exact HasC.val (by assumption) | exact HasC.pred | exact HasI.own.c | exact HasC.own | exact (HasI.ownV (by assumption)).c | exact HasC.ownV (by assumption)) rfl (by omega) (by omega) (by exact fun _ => rfl) ?_; try dsimp only [Int.reduceToNat, Int.toNat_natCast])
                | (refine LA_sliceLH rfl _ rfl rfl (by first | exact (HasI.val (by assumption)).c | exact HasI.pred.c | exact HasC.val (by assumption) | exact HasC.pred | exact HasI.own.c | exact HasC.own | exact (HasI.ownV (by assumption)).c | exact HasC.ownV (by assumption)) rfl rfl (by omega) (by omega) (by omega) (by exact fun _ => rfl) ?_; try dsimp only [Int.reduceToNat, Int.toNat_natCast]))
            | (show LA _ _ _ _ (⟨_, .call ⟨.builtin .len, _, _⟩, _, _, _, _⟩ :: _) _; first
                | refine LA_len rfl _ rfl rfl (by first | exact (HasI.val (by assumption)).c | exact HasI.pred.c | exact HasC.val (by assumption) | exact HasC.pred | exact HasI.own.c | exact HasC.own | exact (HasI.ownV (by assumption)).c | exact HasC.ownV (by assumption)) ?_)
            | (refine LA_nil (hK [] _ (LX_nil ?_)); clear hK K)
            | (refine LA_nil (hK _ ?_); clear hK K))
          | (show CX _ _ _ _ _ _; first
            | refine CX_seq ?_
            | refine CX_skip ?_
            | refine CX_block ?_
            | refine CX_exit ?_
            | refine CX_ret ?_
            | refine CX_condT rfl ?_
            | refine CX_condF rfl ?_
            | refine CX_region (by kernel_rfl) (fun K hK => ?_)
            | refine CX_regionA (by kernel_rfl) (by kernel_rfl) (fun K hK => ?_)
            | refine CX_label ?_
            | refine CX_scope ?_)
          | (show PX _ _ _ _ _; first
            | refine PX_then ?_
            | refine PX_thenX ?_
            | refine PX_thenR ?_
            | refine PX_blockN ?_
            | refine PX_blockR ?_
            | refine PX_blockX ?_
            | refine PX_blockO (by decide) ?_
            | refine PX_scopeN ?_
            | refine PX_scopeR ?_
            | refine PX_scopeX ?_)
          | (show LX _ _ _ _ _ _ _; first
            | refine LX_nil ?_))
        refine PX_rnd (k + 1) ⟨hkl, fun i h1 => ?_⟩ (by omega) (by repeat' (first | exact Sub.nil | refine Sub.val rfl (by first | with_reducible rfl | (congr 1; omega)) ?_ | refine Sub.same rfl ?_))
        by_cases e : i = k
        · subst e; exact he
        · exact hin i (by omega)
      · have hb : (!(decide (fst a k = fst b k) && decide (mor a k = mor b k))) = true := by
          by_cases h1 : fst a k = fst b k
          · rw [decide_eq_true h1, decide_eq_false (fun h2 => he ⟨h1, h2⟩)]; rfl
          · simp [h1]
        have hne : a ≠ b := fun e => he (by rw [e]; exact ⟨rfl, rfl⟩)
        repeat' (first
          | (show LA _ _ _ _ _ _; first
            | refine LA_pass rfl ?_
            | (refine LA_binV (c := .bool true) rfl rfl rfl (fun w => (neR_op _ _ _ _ _ _ w).trans (by rw [hb])) ?_)
            | (show LA _ _ _ _ (⟨_, .indexAddr _ _ _, _, _, _, _⟩ :: _) _; refine LA_indexR rfl _ rfl (fun _ => rfl) rfl (by first | exact HasR.val (by assumption) | exact HasR.own | exact HasR.ownV (by assumption)) rfl (by omega) ?_)
            | (show LA _ _ _ _ (⟨_, .load 25 _, _, _, _, _⟩ :: _) _; refine LA_loadC rfl (fun _ => rfl) (fun _ => rfl) rfl ?_)
            | (show LA _ _ _ _ (⟨some 99, .alloc _, _, _, _, _⟩ :: _) _; refine LA_stop (hK _ _ (LX_var rfl rfl (by decide) (fun _ => rfl) (fun _ => rfl) (fun _ => rfl) rfl (by intro u hu; simp [Value.cells] at hu; rcases hu with rfl | rfl <;> rfl) (fun bx wx ex hbx hbc => ?_))); clear hK K; refine LX_la (by kernel_rfl) (fun K hK => ?_))
            | (show LA _ _ _ _ (⟨_, .fieldAddr _ _ 0, _, _, _, _⟩ :: _) _; refine LA_fieldAddr (a := ⟨bx, 0, none⟩) (a' := ⟨bx, 0, none⟩) rfl rfl (fun _ => rfl) ?_)
            | (show LA _ _ _ _ (⟨_, .fieldAddr _ _ 1, _, _, _, _⟩ :: _) _; refine LA_fieldAddr (a := ⟨bx, 0, none⟩) (a' := ⟨bx, 1, none⟩) rfl rfl (fun _ => rfl) ?_)
            | (show LA _ _ _ _ (⟨_, .load 25 _, _, _, _, _⟩ :: _) _; refine LA_loadBN rfl (fun _ => rfl) (fun _ => rfl) rfl hbc ?_)
            | (show LA _ _ _ _ (⟨_, .load 22 _, _, _, _, _⟩ :: _) _; refine LA_loadB rfl (fun _ => rfl) rfl hbc rfl ?_)
            | (show LA _ _ _ _ (⟨_, .call ⟨.builtin .len, _, _⟩, _, _, _, _⟩ :: _) _; refine LA_lenR rfl _ rfl rfl (by first | exact HasR.val (by assumption) | exact HasR.own | exact HasR.ownV (by assumption)) ?_)
            | (show LA _ _ _ _ (⟨_, .move _, _, _, _, _⟩ :: _) _; first
                | refine LA_moveV rfl rfl ?_
                | refine LA_moveP rfl rfl ?_
                | refine LA_moveT rfl rfl ?_
                | refine LA_moveU rfl rfl ?_)
            | (show LA _ _ _ _ (⟨_, .assign _, _, _, _, _⟩ :: _) _; first
                | refine LA_assignV rfl rfl ?_
                | refine LA_assignP rfl rfl ?_
                | refine LA_assignT rfl rfl ?_)
            | (show LA _ _ _ _ (⟨_, .pick _ _ _, _, _, _, _⟩ :: _) _; first
                | refine LA_pickTV rfl rfl rfl ?_
                | refine LA_pickFV rfl rfl rfl ?_)
            | (show LA _ _ _ _ (⟨_, .unOp .not _ _, _, _, _, _⟩ :: _) _; first
                | refine LA_notT rfl rfl ?_
                | refine LA_notF rfl rfl ?_
                | refine LA_not rfl rfl ?_)
            | (show LA _ _ _ _ (⟨_, .extract _ _, _, _, _, _⟩ :: _) _; first
                | refine LA_ext0 rfl rfl ?_
                | refine LA_ext1 rfl rfl ?_
                | refine LA_ext30 rfl rfl ?_
                | refine LA_ext31 rfl rfl ?_
                | refine LA_ext32 rfl rfl ?_)
            | (show LA _ _ _ _ (⟨_, .binOp .add _ _ _ _, _, _, _, _⟩ :: _) _; first
                | refine LA_addF rfl rfl rfl (by dsimp only [fits]; omega) ?_
                | refine LA_addW rfl rfl rfl ?_)
            | (show LA _ _ _ _ (⟨_, .binOp .sub _ _ _ _, _, _, _, _⟩ :: _) _; first
                | refine LA_subF rfl rfl rfl (by dsimp only [fits]; omega) ?_
                | refine LA_subW rfl rfl rfl ?_)
            | (show LA _ _ _ _ (⟨_, .binOp .mul _ _ _ _, _, _, _, _⟩ :: _) _; first
                | refine LA_mulF rfl rfl rfl (by dsimp only [fits]; omega) ?_
                | refine LA_mulW rfl rfl rfl ?_)
            | (show LA _ _ _ _ (⟨_, .binOp .quo _ _ _ _, _, _, _, _⟩ :: _) _; first
                | refine LA_quo rfl rfl rfl (by omega) (by omega) (by dsimp only [fits]; omega) ?_)
            | (show LA _ _ _ _ (⟨_, .binOp .rem _ _ _ _, _, _, _, _⟩ :: _) _; first
                | refine LA_rem rfl rfl rfl (by omega) (by omega) (by dsimp only [fits]; omega) ?_)
            | (show LA _ _ _ _ (⟨_, .binOp .shr _ _ _ _, _, _, _, _⟩ :: _) _; first
                | (refine LA_shr rfl rfl rfl (by omega) (by dsimp only [IntKind.bits]; omega) ?_; try dsimp only [Int.reduceToNat, Int.reducePow]))
            | (show LA _ _ _ _ (⟨_, .binOp .shl _ _ _ _, _, _, _, _⟩ :: _) _; first
                | (refine LA_shl rfl rfl rfl (by omega) (by dsimp only [IntKind.bits]; omega) ?_; try dsimp only [Int.reduceToNat, Int.reducePow]))
            | (show LA _ _ _ _ (⟨_, .binOp _ _ _ _ _, _, _, _, _⟩ :: _) _; first
                | refine LA_cmpT rfl rfl rfl rfl (by first | (dsimp only [cmpP]; done) | (dsimp only [cmpP]; omega)) ?_
                | refine LA_cmpF rfl rfl rfl rfl (by dsimp only [cmpP]; omega) ?_
                | (refine LA_cmp rfl rfl rfl rfl (fun hc => ?_) (fun hc => ?_) <;> dsimp only [cmpP] at hc)
                | refine LA_boolEqT rfl rfl rfl rfl (by first | rfl | assumption) ?_
                | refine LA_boolEqF rfl rfl rfl rfl (by first | assumption | decide) ?_
                | refine LA_boolEq rfl rfl rfl rfl ?_
                | refine LA_boolNeT rfl rfl rfl rfl (by first | assumption | decide) ?_
                | refine LA_boolNeF rfl rfl rfl rfl (by first | rfl | assumption) ?_
                | refine LA_boolNe rfl rfl rfl rfl ?_)
            | (show LA _ _ _ _ (⟨_, .indexAddr _ _ _, _, _, _, _⟩ :: _) _; first
                | refine LA_indexN rfl _ rfl (fun _ => rfl) rfl (by first | exact HasI.val (by assumption) | exact HasI.pred | exact HasI.own | exact HasI.ownV (by assumption)) rfl (by omega) ?_
                | (refine LA_index rfl _ rfl (fun _ => rfl) rfl (by first | exact HasI.val (by assumption) | exact HasI.pred | exact HasI.own | exact HasI.ownV (by assumption)) rfl (by omega) (by omega) ?_; try dsimp only [Int.reduceToNat]))
            | (show LA _ _ _ _ (⟨_, .load _ _, _, _, _, _⟩ :: _) _; first
                | refine LA_load rfl (fun _ => rfl) rfl ?_)
            | (show LA _ _ _ _ (⟨_, .convert _ _ _, _, _, _, _⟩ :: _) _; first
                | refine LA_convF rfl rfl rfl rfl (by dsimp only [fits]; omega) ?_
                | refine LA_conv rfl rfl rfl rfl ?_)
            | (show LA _ _ _ _ (⟨_, .slice _ _ _ _ _, _, _, _, _⟩ :: _) _; first
                | (refine LA_sliceL rfl _ rfl rfl (by first | exact (HasI.val (by assumption)).c | exact HasI.pred.c | exact HasC.val (by assumption) | exact HasC.pred | exact HasI.own.c | exact HasC.own | exact (HasI.ownV (by assumption)).c | exact HasC.ownV (by assumption)) rfl (by omega) (by omega) (by exact fun _ => rfl) ?_; try dsimp only [Int.reduceToNat, Int.toNat_natCast])
                | (refine LA_sliceH rfl _ rfl rfl (by first | exact (HasI.val (by assumption)).c | exact HasI.pred.c | exact HasC.val (by assumption) | exact HasC.pred | exact HasI.own.c | exact HasC.own | exact (HasI.ownV (by assumption)).c | exact HasC.ownV (by assumption)) rfl (by omega) (by omega) (by exact fun _ => rfl) ?_; try dsimp only [Int.reduceToNat, Int.toNat_natCast])
                | (refine LA_sliceLH rfl _ rfl rfl (by first | exact (HasI.val (by assumption)).c | exact HasI.pred.c | exact HasC.val (by assumption) | exact HasC.pred | exact HasI.own.c | exact HasC.own | exact (HasI.ownV (by assumption)).c | exact HasC.ownV (by assumption)) rfl rfl (by omega) (by omega) (by omega) (by exact fun _ => rfl) ?_; try dsimp only [Int.reduceToNat, Int.toNat_natCast]))
            | (show LA _ _ _ _ (⟨_, .call ⟨.builtin .len, _, _⟩, _, _, _, _⟩ :: _) _; first
                | refine LA_len rfl _ rfl rfl (by first | exact (HasI.val (by assumption)).c | exact HasI.pred.c | exact HasC.val (by assumption) | exact HasC.pred | exact HasI.own.c | exact HasC.own | exact (HasI.ownV (by assumption)).c | exact HasC.ownV (by assumption)) ?_)
            | (refine LA_nil (hK [] _ (LX_nil ?_)); clear hK K)
            | (refine LA_nil (hK _ ?_); clear hK K))
          | (show CX _ _ _ _ _ _; first
            | refine CX_seq ?_
            | refine CX_skip ?_
            | refine CX_block ?_
            | refine CX_exit ?_
            | refine CX_ret ?_
            | refine CX_condT rfl ?_
            | refine CX_condF rfl ?_
            | refine CX_region (by kernel_rfl) (fun K hK => ?_)
            | refine CX_regionA (by kernel_rfl) (by kernel_rfl) (fun K hK => ?_)
            | refine CX_label ?_
            | refine CX_scope ?_)
          | (show PX _ _ _ _ _; first
            | refine PX_then ?_
            | refine PX_thenX ?_
            | refine PX_thenR ?_
            | refine PX_blockN ?_
            | refine PX_blockR ?_
            | refine PX_blockX ?_
            | refine PX_blockO (by decide) ?_
            | refine PX_scopeN ?_
            | refine PX_scopeR ?_
            | refine PX_scopeX ?_)
          | (show LX _ _ _ _ _ _ _; first
            | refine LX_nil ?_))
        exact PX_retE rfl rfl (Ext.refl _) (by rw [decide_eq_false hne])
    · obtain rfl : k = a.length := by omega
      have : a = b := runs_ext hlen hin
      repeat' (first
        | (show LA _ _ _ _ _ _; first
          | refine LA_pass rfl ?_
          | (show LA _ _ _ _ (⟨_, .indexAddr _ _ _, _, _, _, _⟩ :: _) _; refine LA_indexR rfl _ rfl (fun _ => rfl) rfl (by first | exact HasR.val (by assumption) | exact HasR.own | exact HasR.ownV (by assumption)) rfl (by omega) ?_)
          | (show LA _ _ _ _ (⟨_, .load 25 _, _, _, _, _⟩ :: _) _; refine LA_loadC rfl (fun _ => rfl) (fun _ => rfl) rfl ?_)
          | (show LA _ _ _ _ (⟨some 99, .alloc _, _, _, _, _⟩ :: _) _; refine LA_stop (hK _ _ (LX_var rfl rfl (by decide) (fun _ => rfl) (fun _ => rfl) (fun _ => rfl) rfl (by intro u hu; simp [Value.cells] at hu; rcases hu with rfl | rfl <;> rfl) (fun bx wx ex hbx hbc => ?_))); clear hK K; refine LX_la (by kernel_rfl) (fun K hK => ?_))
          | (show LA _ _ _ _ (⟨_, .fieldAddr _ _ 0, _, _, _, _⟩ :: _) _; refine LA_fieldAddr (a := ⟨bx, 0, none⟩) (a' := ⟨bx, 0, none⟩) rfl rfl (fun _ => rfl) ?_)
          | (show LA _ _ _ _ (⟨_, .fieldAddr _ _ 1, _, _, _, _⟩ :: _) _; refine LA_fieldAddr (a := ⟨bx, 0, none⟩) (a' := ⟨bx, 1, none⟩) rfl rfl (fun _ => rfl) ?_)
          | (show LA _ _ _ _ (⟨_, .load 25 _, _, _, _, _⟩ :: _) _; refine LA_loadBN rfl (fun _ => rfl) (fun _ => rfl) rfl hbc ?_)
          | (show LA _ _ _ _ (⟨_, .load 22 _, _, _, _, _⟩ :: _) _; refine LA_loadB rfl (fun _ => rfl) rfl hbc rfl ?_)
          | (show LA _ _ _ _ (⟨_, .call ⟨.builtin .len, _, _⟩, _, _, _, _⟩ :: _) _; refine LA_lenR rfl _ rfl rfl (by first | exact HasR.val (by assumption) | exact HasR.own | exact HasR.ownV (by assumption)) ?_)
          | (show LA _ _ _ _ (⟨_, .move _, _, _, _, _⟩ :: _) _; first
              | refine LA_moveV rfl rfl ?_
              | refine LA_moveP rfl rfl ?_
              | refine LA_moveT rfl rfl ?_
              | refine LA_moveU rfl rfl ?_)
          | (show LA _ _ _ _ (⟨_, .assign _, _, _, _, _⟩ :: _) _; first
              | refine LA_assignV rfl rfl ?_
              | refine LA_assignP rfl rfl ?_
              | refine LA_assignT rfl rfl ?_)
          | (show LA _ _ _ _ (⟨_, .pick _ _ _, _, _, _, _⟩ :: _) _; first
              | refine LA_pickTV rfl rfl rfl ?_
              | refine LA_pickFV rfl rfl rfl ?_)
          | (show LA _ _ _ _ (⟨_, .unOp .not _ _, _, _, _, _⟩ :: _) _; first
              | refine LA_notT rfl rfl ?_
              | refine LA_notF rfl rfl ?_
              | refine LA_not rfl rfl ?_)
          | (show LA _ _ _ _ (⟨_, .extract _ _, _, _, _, _⟩ :: _) _; first
              | refine LA_ext0 rfl rfl ?_
              | refine LA_ext1 rfl rfl ?_
              | refine LA_ext30 rfl rfl ?_
              | refine LA_ext31 rfl rfl ?_
              | refine LA_ext32 rfl rfl ?_)
          | (show LA _ _ _ _ (⟨_, .binOp .add _ _ _ _, _, _, _, _⟩ :: _) _; first
              | refine LA_addF rfl rfl rfl (by dsimp only [fits]; omega) ?_
              | refine LA_addW rfl rfl rfl ?_)
          | (show LA _ _ _ _ (⟨_, .binOp .sub _ _ _ _, _, _, _, _⟩ :: _) _; first
              | refine LA_subF rfl rfl rfl (by dsimp only [fits]; omega) ?_
              | refine LA_subW rfl rfl rfl ?_)
          | (show LA _ _ _ _ (⟨_, .binOp .mul _ _ _ _, _, _, _, _⟩ :: _) _; first
              | refine LA_mulF rfl rfl rfl (by dsimp only [fits]; omega) ?_
              | refine LA_mulW rfl rfl rfl ?_)
          | (show LA _ _ _ _ (⟨_, .binOp .quo _ _ _ _, _, _, _, _⟩ :: _) _; first
              | refine LA_quo rfl rfl rfl (by omega) (by omega) (by dsimp only [fits]; omega) ?_)
          | (show LA _ _ _ _ (⟨_, .binOp .rem _ _ _ _, _, _, _, _⟩ :: _) _; first
              | refine LA_rem rfl rfl rfl (by omega) (by omega) (by dsimp only [fits]; omega) ?_)
          | (show LA _ _ _ _ (⟨_, .binOp .shr _ _ _ _, _, _, _, _⟩ :: _) _; first
              | (refine LA_shr rfl rfl rfl (by omega) (by dsimp only [IntKind.bits]; omega) ?_; try dsimp only [Int.reduceToNat, Int.reducePow]))
          | (show LA _ _ _ _ (⟨_, .binOp .shl _ _ _ _, _, _, _, _⟩ :: _) _; first
              | (refine LA_shl rfl rfl rfl (by omega) (by dsimp only [IntKind.bits]; omega) ?_; try dsimp only [Int.reduceToNat, Int.reducePow]))
          | (show LA _ _ _ _ (⟨_, .binOp _ _ _ _ _, _, _, _, _⟩ :: _) _; first
              | refine LA_cmpT rfl rfl rfl rfl (by first | (dsimp only [cmpP]; done) | (dsimp only [cmpP]; omega)) ?_
              | refine LA_cmpF rfl rfl rfl rfl (by dsimp only [cmpP]; omega) ?_
              | (refine LA_cmp rfl rfl rfl rfl (fun hc => ?_) (fun hc => ?_) <;> dsimp only [cmpP] at hc)
              | refine LA_boolEqT rfl rfl rfl rfl (by first | rfl | assumption) ?_
              | refine LA_boolEqF rfl rfl rfl rfl (by first | assumption | decide) ?_
              | refine LA_boolEq rfl rfl rfl rfl ?_
              | refine LA_boolNeT rfl rfl rfl rfl (by first | assumption | decide) ?_
              | refine LA_boolNeF rfl rfl rfl rfl (by first | rfl | assumption) ?_
              | refine LA_boolNe rfl rfl rfl rfl ?_)
          | (show LA _ _ _ _ (⟨_, .indexAddr _ _ _, _, _, _, _⟩ :: _) _; first
              | refine LA_indexN rfl _ rfl (fun _ => rfl) rfl (by first | exact HasI.val (by assumption) | exact HasI.pred | exact HasI.own | exact HasI.ownV (by assumption)) rfl (by omega) ?_
              | (refine LA_index rfl _ rfl (fun _ => rfl) rfl (by first | exact HasI.val (by assumption) | exact HasI.pred | exact HasI.own | exact HasI.ownV (by assumption)) rfl (by omega) (by omega) ?_; try dsimp only [Int.reduceToNat]))
          | (show LA _ _ _ _ (⟨_, .load _ _, _, _, _, _⟩ :: _) _; first
              | refine LA_load rfl (fun _ => rfl) rfl ?_)
          | (show LA _ _ _ _ (⟨_, .convert _ _ _, _, _, _, _⟩ :: _) _; first
              | refine LA_convF rfl rfl rfl rfl (by dsimp only [fits]; omega) ?_
              | refine LA_conv rfl rfl rfl rfl ?_)
          | (show LA _ _ _ _ (⟨_, .slice _ _ _ _ _, _, _, _, _⟩ :: _) _; first
              | (refine LA_sliceL rfl _ rfl rfl (by first | exact (HasI.val (by assumption)).c | exact HasI.pred.c | exact HasC.val (by assumption) | exact HasC.pred | exact HasI.own.c | exact HasC.own | exact (HasI.ownV (by assumption)).c | exact HasC.ownV (by assumption)) rfl (by omega) (by omega) (by exact fun _ => rfl) ?_; try dsimp only [Int.reduceToNat, Int.toNat_natCast])
              | (refine LA_sliceH rfl _ rfl rfl (by first | exact (HasI.val (by assumption)).c | exact HasI.pred.c | exact HasC.val (by assumption) | exact HasC.pred | exact HasI.own.c | exact HasC.own | exact (HasI.ownV (by assumption)).c | exact HasC.ownV (by assumption)) rfl (by omega) (by omega) (by exact fun _ => rfl) ?_; try dsimp only [Int.reduceToNat, Int.toNat_natCast])
              | (refine LA_sliceLH rfl _ rfl rfl (by first | exact (HasI.val (by assumption)).c | exact HasI.pred.c | exact HasC.val (by assumption) | exact HasC.pred | exact HasI.own.c | exact HasC.own | exact (HasI.ownV (by assumption)).c | exact HasC.ownV (by assumption)) rfl rfl (by omega) (by omega) (by omega) (by exact fun _ => rfl) ?_; try dsimp only [Int.reduceToNat, Int.toNat_natCast]))
          | (show LA _ _ _ _ (⟨_, .call ⟨.builtin .len, _, _⟩, _, _, _, _⟩ :: _) _; first
              | refine LA_len rfl _ rfl rfl (by first | exact (HasI.val (by assumption)).c | exact HasI.pred.c | exact HasC.val (by assumption) | exact HasC.pred | exact HasI.own.c | exact HasC.own | exact (HasI.ownV (by assumption)).c | exact HasC.ownV (by assumption)) ?_)
          | (refine LA_nil (hK [] _ (LX_nil ?_)); clear hK K)
          | (refine LA_nil (hK _ ?_); clear hK K))
        | (show CX _ _ _ _ _ _; first
          | refine CX_seq ?_
          | refine CX_skip ?_
          | refine CX_block ?_
          | refine CX_exit ?_
          | refine CX_ret ?_
          | refine CX_condT rfl ?_
          | refine CX_condF rfl ?_
          | refine CX_region (by kernel_rfl) (fun K hK => ?_)
          | refine CX_regionA (by kernel_rfl) (by kernel_rfl) (fun K hK => ?_)
          | refine CX_label ?_
          | refine CX_scope ?_)
        | (show PX _ _ _ _ _; first
          | refine PX_then ?_
          | refine PX_thenX ?_
          | refine PX_thenR ?_
          | refine PX_blockN ?_
          | refine PX_blockR ?_
          | refine PX_blockX ?_
          | refine PX_blockO (by decide) ?_
          | refine PX_scopeN ?_
          | refine PX_scopeR ?_
          | refine PX_scopeX ?_)
        | (show LX _ _ _ _ _ _ _; first
          | refine LX_nil ?_))
      exact PX_retE rfl rfl (Ext.refl _) (by rw [decide_eq_true this])
  · have hne : a ≠ b := fun e => hlen (by rw [e])
    repeat' (first
      | (show LA _ _ _ _ _ _; first
        | refine LA_pass rfl ?_
        | (show LA _ _ _ _ (⟨_, .indexAddr _ _ _, _, _, _, _⟩ :: _) _; refine LA_indexR rfl _ rfl (fun _ => rfl) rfl (by first | exact HasR.val (by assumption) | exact HasR.own | exact HasR.ownV (by assumption)) rfl (by omega) ?_)
        | (show LA _ _ _ _ (⟨_, .load 25 _, _, _, _, _⟩ :: _) _; refine LA_loadC rfl (fun _ => rfl) (fun _ => rfl) rfl ?_)
        | (show LA _ _ _ _ (⟨some 99, .alloc _, _, _, _, _⟩ :: _) _; refine LA_stop (hK _ _ (LX_var rfl rfl (by decide) (fun _ => rfl) (fun _ => rfl) (fun _ => rfl) rfl (by intro u hu; simp [Value.cells] at hu; rcases hu with rfl | rfl <;> rfl) (fun bx wx ex hbx hbc => ?_))); clear hK K; refine LX_la (by kernel_rfl) (fun K hK => ?_))
        | (show LA _ _ _ _ (⟨_, .fieldAddr _ _ 0, _, _, _, _⟩ :: _) _; refine LA_fieldAddr (a := ⟨bx, 0, none⟩) (a' := ⟨bx, 0, none⟩) rfl rfl (fun _ => rfl) ?_)
        | (show LA _ _ _ _ (⟨_, .fieldAddr _ _ 1, _, _, _, _⟩ :: _) _; refine LA_fieldAddr (a := ⟨bx, 0, none⟩) (a' := ⟨bx, 1, none⟩) rfl rfl (fun _ => rfl) ?_)
        | (show LA _ _ _ _ (⟨_, .load 25 _, _, _, _, _⟩ :: _) _; refine LA_loadBN rfl (fun _ => rfl) (fun _ => rfl) rfl hbc ?_)
        | (show LA _ _ _ _ (⟨_, .load 22 _, _, _, _, _⟩ :: _) _; refine LA_loadB rfl (fun _ => rfl) rfl hbc rfl ?_)
        | (show LA _ _ _ _ (⟨_, .call ⟨.builtin .len, _, _⟩, _, _, _, _⟩ :: _) _; refine LA_lenR rfl _ rfl rfl (by first | exact HasR.val (by assumption) | exact HasR.own | exact HasR.ownV (by assumption)) ?_)
        | (show LA _ _ _ _ (⟨_, .move _, _, _, _, _⟩ :: _) _; first
            | refine LA_moveV rfl rfl ?_
            | refine LA_moveP rfl rfl ?_
            | refine LA_moveT rfl rfl ?_
            | refine LA_moveU rfl rfl ?_)
        | (show LA _ _ _ _ (⟨_, .assign _, _, _, _, _⟩ :: _) _; first
            | refine LA_assignV rfl rfl ?_
            | refine LA_assignP rfl rfl ?_
            | refine LA_assignT rfl rfl ?_)
        | (show LA _ _ _ _ (⟨_, .pick _ _ _, _, _, _, _⟩ :: _) _; first
            | refine LA_pickTV rfl rfl rfl ?_
            | refine LA_pickFV rfl rfl rfl ?_)
        | (show LA _ _ _ _ (⟨_, .unOp .not _ _, _, _, _, _⟩ :: _) _; first
            | refine LA_notT rfl rfl ?_
            | refine LA_notF rfl rfl ?_
            | refine LA_not rfl rfl ?_)
        | (show LA _ _ _ _ (⟨_, .extract _ _, _, _, _, _⟩ :: _) _; first
            | refine LA_ext0 rfl rfl ?_
            | refine LA_ext1 rfl rfl ?_
            | refine LA_ext30 rfl rfl ?_
            | refine LA_ext31 rfl rfl ?_
            | refine LA_ext32 rfl rfl ?_)
        | (show LA _ _ _ _ (⟨_, .binOp .add _ _ _ _, _, _, _, _⟩ :: _) _; first
            | refine LA_addF rfl rfl rfl (by dsimp only [fits]; omega) ?_
            | refine LA_addW rfl rfl rfl ?_)
        | (show LA _ _ _ _ (⟨_, .binOp .sub _ _ _ _, _, _, _, _⟩ :: _) _; first
            | refine LA_subF rfl rfl rfl (by dsimp only [fits]; omega) ?_
            | refine LA_subW rfl rfl rfl ?_)
        | (show LA _ _ _ _ (⟨_, .binOp .mul _ _ _ _, _, _, _, _⟩ :: _) _; first
            | refine LA_mulF rfl rfl rfl (by dsimp only [fits]; omega) ?_
            | refine LA_mulW rfl rfl rfl ?_)
        | (show LA _ _ _ _ (⟨_, .binOp .quo _ _ _ _, _, _, _, _⟩ :: _) _; first
            | refine LA_quo rfl rfl rfl (by omega) (by omega) (by dsimp only [fits]; omega) ?_)
        | (show LA _ _ _ _ (⟨_, .binOp .rem _ _ _ _, _, _, _, _⟩ :: _) _; first
            | refine LA_rem rfl rfl rfl (by omega) (by omega) (by dsimp only [fits]; omega) ?_)
        | (show LA _ _ _ _ (⟨_, .binOp .shr _ _ _ _, _, _, _, _⟩ :: _) _; first
            | (refine LA_shr rfl rfl rfl (by omega) (by dsimp only [IntKind.bits]; omega) ?_; try dsimp only [Int.reduceToNat, Int.reducePow]))
        | (show LA _ _ _ _ (⟨_, .binOp .shl _ _ _ _, _, _, _, _⟩ :: _) _; first
            | (refine LA_shl rfl rfl rfl (by omega) (by dsimp only [IntKind.bits]; omega) ?_; try dsimp only [Int.reduceToNat, Int.reducePow]))
        | (show LA _ _ _ _ (⟨_, .binOp _ _ _ _ _, _, _, _, _⟩ :: _) _; first
            | refine LA_cmpT rfl rfl rfl rfl (by first | (dsimp only [cmpP]; done) | (dsimp only [cmpP]; omega)) ?_
            | refine LA_cmpF rfl rfl rfl rfl (by dsimp only [cmpP]; omega) ?_
            | (refine LA_cmp rfl rfl rfl rfl (fun hc => ?_) (fun hc => ?_) <;> dsimp only [cmpP] at hc)
            | refine LA_boolEqT rfl rfl rfl rfl (by first | rfl | assumption) ?_
            | refine LA_boolEqF rfl rfl rfl rfl (by first | assumption | decide) ?_
            | refine LA_boolEq rfl rfl rfl rfl ?_
            | refine LA_boolNeT rfl rfl rfl rfl (by first | assumption | decide) ?_
            | refine LA_boolNeF rfl rfl rfl rfl (by first | rfl | assumption) ?_
            | refine LA_boolNe rfl rfl rfl rfl ?_)
        | (show LA _ _ _ _ (⟨_, .indexAddr _ _ _, _, _, _, _⟩ :: _) _; first
            | refine LA_indexN rfl _ rfl (fun _ => rfl) rfl (by first | exact HasI.val (by assumption) | exact HasI.pred | exact HasI.own | exact HasI.ownV (by assumption)) rfl (by omega) ?_
            | (refine LA_index rfl _ rfl (fun _ => rfl) rfl (by first | exact HasI.val (by assumption) | exact HasI.pred | exact HasI.own | exact HasI.ownV (by assumption)) rfl (by omega) (by omega) ?_; try dsimp only [Int.reduceToNat]))
        | (show LA _ _ _ _ (⟨_, .load _ _, _, _, _, _⟩ :: _) _; first
            | refine LA_load rfl (fun _ => rfl) rfl ?_)
        | (show LA _ _ _ _ (⟨_, .convert _ _ _, _, _, _, _⟩ :: _) _; first
            | refine LA_convF rfl rfl rfl rfl (by dsimp only [fits]; omega) ?_
            | refine LA_conv rfl rfl rfl rfl ?_)
        | (show LA _ _ _ _ (⟨_, .slice _ _ _ _ _, _, _, _, _⟩ :: _) _; first
            | (refine LA_sliceL rfl _ rfl rfl (by first | exact (HasI.val (by assumption)).c | exact HasI.pred.c | exact HasC.val (by assumption) | exact HasC.pred | exact HasI.own.c | exact HasC.own | exact (HasI.ownV (by assumption)).c | exact HasC.ownV (by assumption)) rfl (by omega) (by omega) (by exact fun _ => rfl) ?_; try dsimp only [Int.reduceToNat, Int.toNat_natCast])
            | (refine LA_sliceH rfl _ rfl rfl (by first | exact (HasI.val (by assumption)).c | exact HasI.pred.c | exact HasC.val (by assumption) | exact HasC.pred | exact HasI.own.c | exact HasC.own | exact (HasI.ownV (by assumption)).c | exact HasC.ownV (by assumption)) rfl (by omega) (by omega) (by exact fun _ => rfl) ?_; try dsimp only [Int.reduceToNat, Int.toNat_natCast])
            | (refine LA_sliceLH rfl _ rfl rfl (by first | exact (HasI.val (by assumption)).c | exact HasI.pred.c | exact HasC.val (by assumption) | exact HasC.pred | exact HasI.own.c | exact HasC.own | exact (HasI.ownV (by assumption)).c | exact HasC.ownV (by assumption)) rfl rfl (by omega) (by omega) (by omega) (by exact fun _ => rfl) ?_; try dsimp only [Int.reduceToNat, Int.toNat_natCast]))
        | (show LA _ _ _ _ (⟨_, .call ⟨.builtin .len, _, _⟩, _, _, _, _⟩ :: _) _; first
            | refine LA_len rfl _ rfl rfl (by first | exact (HasI.val (by assumption)).c | exact HasI.pred.c | exact HasC.val (by assumption) | exact HasC.pred | exact HasI.own.c | exact HasC.own | exact (HasI.ownV (by assumption)).c | exact HasC.ownV (by assumption)) ?_)
        | (refine LA_nil (hK [] _ (LX_nil ?_)); clear hK K)
        | (refine LA_nil (hK _ ?_); clear hK K))
      | (show CX _ _ _ _ _ _; first
        | refine CX_seq ?_
        | refine CX_skip ?_
        | refine CX_block ?_
        | refine CX_exit ?_
        | refine CX_ret ?_
        | refine CX_condT rfl ?_
        | refine CX_condF rfl ?_
        | refine CX_region (by kernel_rfl) (fun K hK => ?_)
        | refine CX_regionA (by kernel_rfl) (by kernel_rfl) (fun K hK => ?_)
        | refine CX_label ?_
        | refine CX_scope ?_)
      | (show PX _ _ _ _ _; first
        | refine PX_then ?_
        | refine PX_thenX ?_
        | refine PX_thenR ?_
        | refine PX_blockN ?_
        | refine PX_blockR ?_
        | refine PX_blockX ?_
        | refine PX_blockO (by decide) ?_
        | refine PX_scopeN ?_
        | refine PX_scopeR ?_
        | refine PX_scopeX ?_)
      | (show LX _ _ _ _ _ _ _; first
        | refine LX_nil ?_))
    exact PX_retE rfl rfl (Ext.refl _) (by rw [decide_eq_false hne])
/-! ### Both, either, the rest, just one -/
theorem ror1_c (x y : Bool) (w : World) : Fc Try.prog 20 #[.bool x, .bool y] w (Ret w (.val (.bool (x || y)))) := by
  cases x <;> cases y
  all_goals
    refine Fc.of (args := [_, _]) Try.func20 rfl rfl Try.ntmps20 (Nat.le_of_ble_eq_true rfl) ?_
    repeat' (first
      | (show LA _ _ _ _ _ _; first
        | refine LA_pass rfl ?_
        | (show LA _ _ _ _ (⟨_, .move _, _, _, _, _⟩ :: _) _; first
            | refine LA_moveV rfl rfl ?_
            | refine LA_moveP rfl rfl ?_
            | refine LA_moveT rfl rfl ?_
            | refine LA_moveU rfl rfl ?_)
        | (show LA _ _ _ _ (⟨_, .assign _, _, _, _, _⟩ :: _) _; first
            | refine LA_assignV rfl rfl ?_
            | refine LA_assignP rfl rfl ?_
            | refine LA_assignT rfl rfl ?_)
        | (show LA _ _ _ _ (⟨_, .pick _ _ _, _, _, _, _⟩ :: _) _; first
            | refine LA_pickTV rfl rfl rfl ?_
            | refine LA_pickFV rfl rfl rfl ?_)
        | (show LA _ _ _ _ (⟨_, .unOp .not _ _, _, _, _, _⟩ :: _) _; first
            | refine LA_notT rfl rfl ?_
            | refine LA_notF rfl rfl ?_
            | refine LA_not rfl rfl ?_)
        | (show LA _ _ _ _ (⟨_, .extract _ _, _, _, _, _⟩ :: _) _; first
            | refine LA_ext0 rfl rfl ?_
            | refine LA_ext1 rfl rfl ?_
            | refine LA_ext30 rfl rfl ?_
            | refine LA_ext31 rfl rfl ?_
            | refine LA_ext32 rfl rfl ?_)
        | (show LA _ _ _ _ (⟨_, .binOp .add _ _ _ _, _, _, _, _⟩ :: _) _; first
            | refine LA_addF rfl rfl rfl (by dsimp only [fits]; omega) ?_
            | refine LA_addW rfl rfl rfl ?_)
        | (show LA _ _ _ _ (⟨_, .binOp .sub _ _ _ _, _, _, _, _⟩ :: _) _; first
            | refine LA_subF rfl rfl rfl (by dsimp only [fits]; omega) ?_
            | refine LA_subW rfl rfl rfl ?_)
        | (show LA _ _ _ _ (⟨_, .binOp .mul _ _ _ _, _, _, _, _⟩ :: _) _; first
            | refine LA_mulF rfl rfl rfl (by dsimp only [fits]; omega) ?_
            | refine LA_mulW rfl rfl rfl ?_)
        | (show LA _ _ _ _ (⟨_, .binOp .quo _ _ _ _, _, _, _, _⟩ :: _) _; first
            | refine LA_quo rfl rfl rfl (by omega) (by omega) (by dsimp only [fits]; omega) ?_)
        | (show LA _ _ _ _ (⟨_, .binOp .rem _ _ _ _, _, _, _, _⟩ :: _) _; first
            | refine LA_rem rfl rfl rfl (by omega) (by omega) (by dsimp only [fits]; omega) ?_)
        | (show LA _ _ _ _ (⟨_, .binOp .shr _ _ _ _, _, _, _, _⟩ :: _) _; first
            | (refine LA_shr rfl rfl rfl (by omega) (by dsimp only [IntKind.bits]; omega) ?_; try dsimp only [Int.reduceToNat, Int.reducePow]))
        | (show LA _ _ _ _ (⟨_, .binOp .shl _ _ _ _, _, _, _, _⟩ :: _) _; first
            | (refine LA_shl rfl rfl rfl (by omega) (by dsimp only [IntKind.bits]; omega) ?_; try dsimp only [Int.reduceToNat, Int.reducePow]))
        | (show LA _ _ _ _ (⟨_, .binOp _ _ _ _ _, _, _, _, _⟩ :: _) _; first
            | refine LA_cmpT rfl rfl rfl rfl (by first | (dsimp only [cmpP]; done) | (dsimp only [cmpP]; omega)) ?_
            | refine LA_cmpF rfl rfl rfl rfl (by dsimp only [cmpP]; omega) ?_
            | (refine LA_cmp rfl rfl rfl rfl (fun hc => ?_) (fun hc => ?_) <;> dsimp only [cmpP] at hc)
            | refine LA_boolEqT rfl rfl rfl rfl (by first | rfl | assumption) ?_
            | refine LA_boolEqF rfl rfl rfl rfl (by first | assumption | decide) ?_
            | refine LA_boolEq rfl rfl rfl rfl ?_
            | refine LA_boolNeT rfl rfl rfl rfl (by first | assumption | decide) ?_
            | refine LA_boolNeF rfl rfl rfl rfl (by first | rfl | assumption) ?_
            | refine LA_boolNe rfl rfl rfl rfl ?_)
        | (show LA _ _ _ _ (⟨_, .indexAddr _ _ _, _, _, _, _⟩ :: _) _; first
            | refine LA_indexN rfl _ rfl (fun _ => rfl) rfl (by first | exact HasI.val (by assumption) | exact HasI.pred | exact HasI.own | exact HasI.ownV (by assumption)) rfl (by omega) ?_
            | (refine LA_index rfl _ rfl (fun _ => rfl) rfl (by first | exact HasI.val (by assumption) | exact HasI.pred | exact HasI.own | exact HasI.ownV (by assumption)) rfl (by omega) (by omega) ?_; try dsimp only [Int.reduceToNat]))
        | (show LA _ _ _ _ (⟨_, .load _ _, _, _, _, _⟩ :: _) _; first
            | refine LA_load rfl (fun _ => rfl) rfl ?_)
        | (show LA _ _ _ _ (⟨_, .convert _ _ _, _, _, _, _⟩ :: _) _; first
            | refine LA_convF rfl rfl rfl rfl (by dsimp only [fits]; omega) ?_
            | refine LA_conv rfl rfl rfl rfl ?_)
        | (show LA _ _ _ _ (⟨_, .slice _ _ _ _ _, _, _, _, _⟩ :: _) _; first
            | (refine LA_sliceL rfl _ rfl rfl (by first | exact (HasI.val (by assumption)).c | exact HasI.pred.c | exact HasC.val (by assumption) | exact HasC.pred | exact HasI.own.c | exact HasC.own | exact (HasI.ownV (by assumption)).c | exact HasC.ownV (by assumption)) rfl (by omega) (by omega) (by exact fun _ => rfl) ?_; try dsimp only [Int.reduceToNat, Int.toNat_natCast])
            | (refine LA_sliceH rfl _ rfl rfl (by first | exact (HasI.val (by assumption)).c | exact HasI.pred.c | exact HasC.val (by assumption) | exact HasC.pred | exact HasI.own.c | exact HasC.own | exact (HasI.ownV (by assumption)).c | exact HasC.ownV (by assumption)) rfl (by omega) (by omega) (by exact fun _ => rfl) ?_; try dsimp only [Int.reduceToNat, Int.toNat_natCast])
            | (refine LA_sliceLH rfl _ rfl rfl (by first | exact (HasI.val (by assumption)).c | exact HasI.pred.c | exact HasC.val (by assumption) | exact HasC.pred | exact HasI.own.c | exact HasC.own | exact (HasI.ownV (by assumption)).c | exact HasC.ownV (by assumption)) rfl rfl (by omega) (by omega) (by omega) (by exact fun _ => rfl) ?_; try dsimp only [Int.reduceToNat, Int.toNat_natCast]))
        | (show LA _ _ _ _ (⟨_, .call ⟨.builtin .len, _, _⟩, _, _, _, _⟩ :: _) _; first
            | refine LA_len rfl _ rfl rfl (by first | exact (HasI.val (by assumption)).c | exact HasI.pred.c | exact HasC.val (by assumption) | exact HasC.pred | exact HasI.own.c | exact HasC.own | exact (HasI.ownV (by assumption)).c | exact HasC.ownV (by assumption)) ?_)
        | (refine LA_nil (hK [] _ (LX_nil ?_)); clear hK K)
        | (refine LA_nil (hK _ ?_); clear hK K))
      | (show CX _ _ _ _ _ _; first
        | refine CX_seq ?_
        | refine CX_skip ?_
        | refine CX_block ?_
        | refine CX_exit ?_
        | refine CX_ret ?_
        | refine CX_condT rfl ?_
        | refine CX_condF rfl ?_
        | refine CX_region (by kernel_rfl) (fun K hK => ?_)
        | refine CX_regionA (by kernel_rfl) (by kernel_rfl) (fun K hK => ?_)
        | refine CX_label ?_
        | refine CX_scope ?_)
      | (show PX _ _ _ _ _; first
        | refine PX_then ?_
        | refine PX_thenX ?_
        | refine PX_thenR ?_
        | refine PX_blockN ?_
        | refine PX_blockR ?_
        | refine PX_blockX ?_
        | refine PX_blockO (by decide) ?_
        | refine PX_scopeN ?_
        | refine PX_scopeR ?_
        | refine PX_scopeX ?_)
      | (show LX _ _ _ _ _ _ _; first
        | refine LX_nil ?_))
    exact PX_retE rfl rfl (Ext.refl _) rfl
theorem rand1_c (x y : Bool) (w : World) : Fc Try.prog 23 #[.bool x, .bool y] w (Ret w (.val (.bool (x && y)))) := by
  cases x <;> cases y
  all_goals
    refine Fc.of (args := [_, _]) Try.func23 rfl rfl Try.ntmps23 (Nat.le_of_ble_eq_true rfl) ?_
    repeat' (first
      | (show LA _ _ _ _ _ _; first
        | refine LA_pass rfl ?_
        | (show LA _ _ _ _ (⟨_, .move _, _, _, _, _⟩ :: _) _; first
            | refine LA_moveV rfl rfl ?_
            | refine LA_moveP rfl rfl ?_
            | refine LA_moveT rfl rfl ?_
            | refine LA_moveU rfl rfl ?_)
        | (show LA _ _ _ _ (⟨_, .assign _, _, _, _, _⟩ :: _) _; first
            | refine LA_assignV rfl rfl ?_
            | refine LA_assignP rfl rfl ?_
            | refine LA_assignT rfl rfl ?_)
        | (show LA _ _ _ _ (⟨_, .pick _ _ _, _, _, _, _⟩ :: _) _; first
            | refine LA_pickTV rfl rfl rfl ?_
            | refine LA_pickFV rfl rfl rfl ?_)
        | (show LA _ _ _ _ (⟨_, .unOp .not _ _, _, _, _, _⟩ :: _) _; first
            | refine LA_notT rfl rfl ?_
            | refine LA_notF rfl rfl ?_
            | refine LA_not rfl rfl ?_)
        | (show LA _ _ _ _ (⟨_, .extract _ _, _, _, _, _⟩ :: _) _; first
            | refine LA_ext0 rfl rfl ?_
            | refine LA_ext1 rfl rfl ?_
            | refine LA_ext30 rfl rfl ?_
            | refine LA_ext31 rfl rfl ?_
            | refine LA_ext32 rfl rfl ?_)
        | (show LA _ _ _ _ (⟨_, .binOp .add _ _ _ _, _, _, _, _⟩ :: _) _; first
            | refine LA_addF rfl rfl rfl (by dsimp only [fits]; omega) ?_
            | refine LA_addW rfl rfl rfl ?_)
        | (show LA _ _ _ _ (⟨_, .binOp .sub _ _ _ _, _, _, _, _⟩ :: _) _; first
            | refine LA_subF rfl rfl rfl (by dsimp only [fits]; omega) ?_
            | refine LA_subW rfl rfl rfl ?_)
        | (show LA _ _ _ _ (⟨_, .binOp .mul _ _ _ _, _, _, _, _⟩ :: _) _; first
            | refine LA_mulF rfl rfl rfl (by dsimp only [fits]; omega) ?_
            | refine LA_mulW rfl rfl rfl ?_)
        | (show LA _ _ _ _ (⟨_, .binOp .quo _ _ _ _, _, _, _, _⟩ :: _) _; first
            | refine LA_quo rfl rfl rfl (by omega) (by omega) (by dsimp only [fits]; omega) ?_)
        | (show LA _ _ _ _ (⟨_, .binOp .rem _ _ _ _, _, _, _, _⟩ :: _) _; first
            | refine LA_rem rfl rfl rfl (by omega) (by omega) (by dsimp only [fits]; omega) ?_)
        | (show LA _ _ _ _ (⟨_, .binOp .shr _ _ _ _, _, _, _, _⟩ :: _) _; first
            | (refine LA_shr rfl rfl rfl (by omega) (by dsimp only [IntKind.bits]; omega) ?_; try dsimp only [Int.reduceToNat, Int.reducePow]))
        | (show LA _ _ _ _ (⟨_, .binOp .shl _ _ _ _, _, _, _, _⟩ :: _) _; first
            | (refine LA_shl rfl rfl rfl (by omega) (by dsimp only [IntKind.bits]; omega) ?_; try dsimp only [Int.reduceToNat, Int.reducePow]))
        | (show LA _ _ _ _ (⟨_, .binOp _ _ _ _ _, _, _, _, _⟩ :: _) _; first
            | refine LA_cmpT rfl rfl rfl rfl (by first | (dsimp only [cmpP]; done) | (dsimp only [cmpP]; omega)) ?_
            | refine LA_cmpF rfl rfl rfl rfl (by dsimp only [cmpP]; omega) ?_
            | (refine LA_cmp rfl rfl rfl rfl (fun hc => ?_) (fun hc => ?_) <;> dsimp only [cmpP] at hc)
            | refine LA_boolEqT rfl rfl rfl rfl (by first | rfl | assumption) ?_
            | refine LA_boolEqF rfl rfl rfl rfl (by first | assumption | decide) ?_
            | refine LA_boolEq rfl rfl rfl rfl ?_
            | refine LA_boolNeT rfl rfl rfl rfl (by first | assumption | decide) ?_
            | refine LA_boolNeF rfl rfl rfl rfl (by first | rfl | assumption) ?_
            | refine LA_boolNe rfl rfl rfl rfl ?_)
        | (show LA _ _ _ _ (⟨_, .indexAddr _ _ _, _, _, _, _⟩ :: _) _; first
            | refine LA_indexN rfl _ rfl (fun _ => rfl) rfl (by first | exact HasI.val (by assumption) | exact HasI.pred | exact HasI.own | exact HasI.ownV (by assumption)) rfl (by omega) ?_
            | (refine LA_index rfl _ rfl (fun _ => rfl) rfl (by first | exact HasI.val (by assumption) | exact HasI.pred | exact HasI.own | exact HasI.ownV (by assumption)) rfl (by omega) (by omega) ?_; try dsimp only [Int.reduceToNat]))
        | (show LA _ _ _ _ (⟨_, .load _ _, _, _, _, _⟩ :: _) _; first
            | refine LA_load rfl (fun _ => rfl) rfl ?_)
        | (show LA _ _ _ _ (⟨_, .convert _ _ _, _, _, _, _⟩ :: _) _; first
            | refine LA_convF rfl rfl rfl rfl (by dsimp only [fits]; omega) ?_
            | refine LA_conv rfl rfl rfl rfl ?_)
        | (show LA _ _ _ _ (⟨_, .slice _ _ _ _ _, _, _, _, _⟩ :: _) _; first
            | (refine LA_sliceL rfl _ rfl rfl (by first | exact (HasI.val (by assumption)).c | exact HasI.pred.c | exact HasC.val (by assumption) | exact HasC.pred | exact HasI.own.c | exact HasC.own | exact (HasI.ownV (by assumption)).c | exact HasC.ownV (by assumption)) rfl (by omega) (by omega) (by exact fun _ => rfl) ?_; try dsimp only [Int.reduceToNat, Int.toNat_natCast])
            | (refine LA_sliceH rfl _ rfl rfl (by first | exact (HasI.val (by assumption)).c | exact HasI.pred.c | exact HasC.val (by assumption) | exact HasC.pred | exact HasI.own.c | exact HasC.own | exact (HasI.ownV (by assumption)).c | exact HasC.ownV (by assumption)) rfl (by omega) (by omega) (by exact fun _ => rfl) ?_; try dsimp only [Int.reduceToNat, Int.toNat_natCast])
            | (refine LA_sliceLH rfl _ rfl rfl (by first | exact (HasI.val (by assumption)).c | exact HasI.pred.c | exact HasC.val (by assumption) | exact HasC.pred | exact HasI.own.c | exact HasC.own | exact (HasI.ownV (by assumption)).c | exact HasC.ownV (by assumption)) rfl rfl (by omega) (by omega) (by omega) (by exact fun _ => rfl) ?_; try dsimp only [Int.reduceToNat, Int.toNat_natCast]))
        | (show LA _ _ _ _ (⟨_, .call ⟨.builtin .len, _, _⟩, _, _, _, _⟩ :: _) _; first
            | refine LA_len rfl _ rfl rfl (by first | exact (HasI.val (by assumption)).c | exact HasI.pred.c | exact HasC.val (by assumption) | exact HasC.pred | exact HasI.own.c | exact HasC.own | exact (HasI.ownV (by assumption)).c | exact HasC.ownV (by assumption)) ?_)
        | (refine LA_nil (hK [] _ (LX_nil ?_)); clear hK K)
        | (refine LA_nil (hK _ ?_); clear hK K))
      | (show CX _ _ _ _ _ _; first
        | refine CX_seq ?_
        | refine CX_skip ?_
        | refine CX_block ?_
        | refine CX_exit ?_
        | refine CX_ret ?_
        | refine CX_condT rfl ?_
        | refine CX_condF rfl ?_
        | refine CX_region (by kernel_rfl) (fun K hK => ?_)
        | refine CX_regionA (by kernel_rfl) (by kernel_rfl) (fun K hK => ?_)
        | refine CX_label ?_
        | refine CX_scope ?_)
      | (show PX _ _ _ _ _; first
        | refine PX_then ?_
        | refine PX_thenX ?_
        | refine PX_thenR ?_
        | refine PX_blockN ?_
        | refine PX_blockR ?_
        | refine PX_blockX ?_
        | refine PX_blockO (by decide) ?_
        | refine PX_scopeN ?_
        | refine PX_scopeR ?_
        | refine PX_scopeX ?_)
      | (show LX _ _ _ _ _ _ _; first
        | refine LX_nil ?_))
    exact PX_retE rfl rfl (Ext.refl _) rfl
theorem rnot1_c (x y : Bool) (w : World) : Fc Try.prog 22 #[.bool x, .bool y] w (Ret w (.val (.bool (x && !y)))) := by
  cases x <;> cases y
  all_goals
    refine Fc.of (args := [_, _]) Try.func22 rfl rfl Try.ntmps22 (Nat.le_of_ble_eq_true rfl) ?_
    repeat' (first
      | (show LA _ _ _ _ _ _; first
        | refine LA_pass rfl ?_
        | (show LA _ _ _ _ (⟨_, .move _, _, _, _, _⟩ :: _) _; first
            | refine LA_moveV rfl rfl ?_
            | refine LA_moveP rfl rfl ?_
            | refine LA_moveT rfl rfl ?_
            | refine LA_moveU rfl rfl ?_)
        | (show LA _ _ _ _ (⟨_, .assign _, _, _, _, _⟩ :: _) _; first
            | refine LA_assignV rfl rfl ?_
            | refine LA_assignP rfl rfl ?_
            | refine LA_assignT rfl rfl ?_)
        | (show LA _ _ _ _ (⟨_, .pick _ _ _, _, _, _, _⟩ :: _) _; first
            | refine LA_pickTV rfl rfl rfl ?_
            | refine LA_pickFV rfl rfl rfl ?_)
        | (show LA _ _ _ _ (⟨_, .unOp .not _ _, _, _, _, _⟩ :: _) _; first
            | refine LA_notT rfl rfl ?_
            | refine LA_notF rfl rfl ?_
            | refine LA_not rfl rfl ?_)
        | (show LA _ _ _ _ (⟨_, .extract _ _, _, _, _, _⟩ :: _) _; first
            | refine LA_ext0 rfl rfl ?_
            | refine LA_ext1 rfl rfl ?_
            | refine LA_ext30 rfl rfl ?_
            | refine LA_ext31 rfl rfl ?_
            | refine LA_ext32 rfl rfl ?_)
        | (show LA _ _ _ _ (⟨_, .binOp .add _ _ _ _, _, _, _, _⟩ :: _) _; first
            | refine LA_addF rfl rfl rfl (by dsimp only [fits]; omega) ?_
            | refine LA_addW rfl rfl rfl ?_)
        | (show LA _ _ _ _ (⟨_, .binOp .sub _ _ _ _, _, _, _, _⟩ :: _) _; first
            | refine LA_subF rfl rfl rfl (by dsimp only [fits]; omega) ?_
            | refine LA_subW rfl rfl rfl ?_)
        | (show LA _ _ _ _ (⟨_, .binOp .mul _ _ _ _, _, _, _, _⟩ :: _) _; first
            | refine LA_mulF rfl rfl rfl (by dsimp only [fits]; omega) ?_
            | refine LA_mulW rfl rfl rfl ?_)
        | (show LA _ _ _ _ (⟨_, .binOp .quo _ _ _ _, _, _, _, _⟩ :: _) _; first
            | refine LA_quo rfl rfl rfl (by omega) (by omega) (by dsimp only [fits]; omega) ?_)
        | (show LA _ _ _ _ (⟨_, .binOp .rem _ _ _ _, _, _, _, _⟩ :: _) _; first
            | refine LA_rem rfl rfl rfl (by omega) (by omega) (by dsimp only [fits]; omega) ?_)
        | (show LA _ _ _ _ (⟨_, .binOp .shr _ _ _ _, _, _, _, _⟩ :: _) _; first
            | (refine LA_shr rfl rfl rfl (by omega) (by dsimp only [IntKind.bits]; omega) ?_; try dsimp only [Int.reduceToNat, Int.reducePow]))
        | (show LA _ _ _ _ (⟨_, .binOp .shl _ _ _ _, _, _, _, _⟩ :: _) _; first
            | (refine LA_shl rfl rfl rfl (by omega) (by dsimp only [IntKind.bits]; omega) ?_; try dsimp only [Int.reduceToNat, Int.reducePow]))
        | (show LA _ _ _ _ (⟨_, .binOp _ _ _ _ _, _, _, _, _⟩ :: _) _; first
            | refine LA_cmpT rfl rfl rfl rfl (by first | (dsimp only [cmpP]; done) | (dsimp only [cmpP]; omega)) ?_
            | refine LA_cmpF rfl rfl rfl rfl (by dsimp only [cmpP]; omega) ?_
            | (refine LA_cmp rfl rfl rfl rfl (fun hc => ?_) (fun hc => ?_) <;> dsimp only [cmpP] at hc)
            | refine LA_boolEqT rfl rfl rfl rfl (by first | rfl | assumption) ?_
            | refine LA_boolEqF rfl rfl rfl rfl (by first | assumption | decide) ?_
            | refine LA_boolEq rfl rfl rfl rfl ?_
            | refine LA_boolNeT rfl rfl rfl rfl (by first | assumption | decide) ?_
            | refine LA_boolNeF rfl rfl rfl rfl (by first | rfl | assumption) ?_
            | refine LA_boolNe rfl rfl rfl rfl ?_)
        | (show LA _ _ _ _ (⟨_, .indexAddr _ _ _, _, _, _, _⟩ :: _) _; first
            | refine LA_indexN rfl _ rfl (fun _ => rfl) rfl (by first | exact HasI.val (by assumption) | exact HasI.pred | exact HasI.own | exact HasI.ownV (by assumption)) rfl (by omega) ?_
            | (refine LA_index rfl _ rfl (fun _ => rfl) rfl (by first | exact HasI.val (by assumption) | exact HasI.pred | exact HasI.own | exact HasI.ownV (by assumption)) rfl (by omega) (by omega) ?_; try dsimp only [Int.reduceToNat]))
        | (show LA _ _ _ _ (⟨_, .load _ _, _, _, _, _⟩ :: _) _; first
            | refine LA_load rfl (fun _ => rfl) rfl ?_)
        | (show LA _ _ _ _ (⟨_, .convert _ _ _, _, _, _, _⟩ :: _) _; first
            | refine LA_convF rfl rfl rfl rfl (by dsimp only [fits]; omega) ?_
            | refine LA_conv rfl rfl rfl rfl ?_)
        | (show LA _ _ _ _ (⟨_, .slice _ _ _ _ _, _, _, _, _⟩ :: _) _; first
            | (refine LA_sliceL rfl _ rfl rfl (by first | exact (HasI.val (by assumption)).c | exact HasI.pred.c | exact HasC.val (by assumption) | exact HasC.pred | exact HasI.own.c | exact HasC.own | exact (HasI.ownV (by assumption)).c | exact HasC.ownV (by assumption)) rfl (by omega) (by omega) (by exact fun _ => rfl) ?_; try dsimp only [Int.reduceToNat, Int.toNat_natCast])
            | (refine LA_sliceH rfl _ rfl rfl (by first | exact (HasI.val (by assumption)).c | exact HasI.pred.c | exact HasC.val (by assumption) | exact HasC.pred | exact HasI.own.c | exact HasC.own | exact (HasI.ownV (by assumption)).c | exact HasC.ownV (by assumption)) rfl (by omega) (by omega) (by exact fun _ => rfl) ?_; try dsimp only [Int.reduceToNat, Int.toNat_natCast])
            | (refine LA_sliceLH rfl _ rfl rfl (by first | exact (HasI.val (by assumption)).c | exact HasI.pred.c | exact HasC.val (by assumption) | exact HasC.pred | exact HasI.own.c | exact HasC.own | exact (HasI.ownV (by assumption)).c | exact HasC.ownV (by assumption)) rfl rfl (by omega) (by omega) (by omega) (by exact fun _ => rfl) ?_; try dsimp only [Int.reduceToNat, Int.toNat_natCast]))
        | (show LA _ _ _ _ (⟨_, .call ⟨.builtin .len, _, _⟩, _, _, _, _⟩ :: _) _; first
            | refine LA_len rfl _ rfl rfl (by first | exact (HasI.val (by assumption)).c | exact HasI.pred.c | exact HasC.val (by assumption) | exact HasC.pred | exact HasI.own.c | exact HasC.own | exact (HasI.ownV (by assumption)).c | exact HasC.ownV (by assumption)) ?_)
        | (refine LA_nil (hK [] _ (LX_nil ?_)); clear hK K)
        | (refine LA_nil (hK _ ?_); clear hK K))
      | (show CX _ _ _ _ _ _; first
        | refine CX_seq ?_
        | refine CX_skip ?_
        | refine CX_block ?_
        | refine CX_exit ?_
        | refine CX_ret ?_
        | refine CX_condT rfl ?_
        | refine CX_condF rfl ?_
        | refine CX_region (by kernel_rfl) (fun K hK => ?_)
        | refine CX_regionA (by kernel_rfl) (by kernel_rfl) (fun K hK => ?_)
        | refine CX_label ?_
        | refine CX_scope ?_)
      | (show PX _ _ _ _ _; first
        | refine PX_then ?_
        | refine PX_thenX ?_
        | refine PX_thenR ?_
        | refine PX_blockN ?_
        | refine PX_blockR ?_
        | refine PX_blockX ?_
        | refine PX_blockO (by decide) ?_
        | refine PX_scopeN ?_
        | refine PX_scopeR ?_
        | refine PX_scopeX ?_)
      | (show LX _ _ _ _ _ _ _; first
        | refine LX_nil ?_))
    exact PX_retE rfl rfl (Ext.refl _) rfl
theorem rxor1_c (x y : Bool) (w : World) : Fc Try.prog 24 #[.bool x, .bool y] w (Ret w (.val (.bool (!(x == y))))) := by
  cases x <;> cases y
  all_goals
    refine Fc.of (args := [_, _]) Try.func24 rfl rfl Try.ntmps24 (Nat.le_of_ble_eq_true rfl) ?_
    repeat' (first
      | (show LA _ _ _ _ _ _; first
        | refine LA_pass rfl ?_
        | (show LA _ _ _ _ (⟨_, .move _, _, _, _, _⟩ :: _) _; first
            | refine LA_moveV rfl rfl ?_
            | refine LA_moveP rfl rfl ?_
            | refine LA_moveT rfl rfl ?_
            | refine LA_moveU rfl rfl ?_)
        | (show LA _ _ _ _ (⟨_, .assign _, _, _, _, _⟩ :: _) _; first
            | refine LA_assignV rfl rfl ?_
            | refine LA_assignP rfl rfl ?_
            | refine LA_assignT rfl rfl ?_)
        | (show LA _ _ _ _ (⟨_, .pick _ _ _, _, _, _, _⟩ :: _) _; first
            | refine LA_pickTV rfl rfl rfl ?_
            | refine LA_pickFV rfl rfl rfl ?_)
        | (show LA _ _ _ _ (⟨_, .unOp .not _ _, _, _, _, _⟩ :: _) _; first
            | refine LA_notT rfl rfl ?_
            | refine LA_notF rfl rfl ?_
            | refine LA_not rfl rfl ?_)
        | (show LA _ _ _ _ (⟨_, .extract _ _, _, _, _, _⟩ :: _) _; first
            | refine LA_ext0 rfl rfl ?_
            | refine LA_ext1 rfl rfl ?_
            | refine LA_ext30 rfl rfl ?_
            | refine LA_ext31 rfl rfl ?_
            | refine LA_ext32 rfl rfl ?_)
        | (show LA _ _ _ _ (⟨_, .binOp .add _ _ _ _, _, _, _, _⟩ :: _) _; first
            | refine LA_addF rfl rfl rfl (by dsimp only [fits]; omega) ?_
            | refine LA_addW rfl rfl rfl ?_)
        | (show LA _ _ _ _ (⟨_, .binOp .sub _ _ _ _, _, _, _, _⟩ :: _) _; first
            | refine LA_subF rfl rfl rfl (by dsimp only [fits]; omega) ?_
            | refine LA_subW rfl rfl rfl ?_)
        | (show LA _ _ _ _ (⟨_, .binOp .mul _ _ _ _, _, _, _, _⟩ :: _) _; first
            | refine LA_mulF rfl rfl rfl (by dsimp only [fits]; omega) ?_
            | refine LA_mulW rfl rfl rfl ?_)
        | (show LA _ _ _ _ (⟨_, .binOp .quo _ _ _ _, _, _, _, _⟩ :: _) _; first
            | refine LA_quo rfl rfl rfl (by omega) (by omega) (by dsimp only [fits]; omega) ?_)
        | (show LA _ _ _ _ (⟨_, .binOp .rem _ _ _ _, _, _, _, _⟩ :: _) _; first
            | refine LA_rem rfl rfl rfl (by omega) (by omega) (by dsimp only [fits]; omega) ?_)
        | (show LA _ _ _ _ (⟨_, .binOp .shr _ _ _ _, _, _, _, _⟩ :: _) _; first
            | (refine LA_shr rfl rfl rfl (by omega) (by dsimp only [IntKind.bits]; omega) ?_; try dsimp only [Int.reduceToNat, Int.reducePow]))
        | (show LA _ _ _ _ (⟨_, .binOp .shl _ _ _ _, _, _, _, _⟩ :: _) _; first
            | (refine LA_shl rfl rfl rfl (by omega) (by dsimp only [IntKind.bits]; omega) ?_; try dsimp only [Int.reduceToNat, Int.reducePow]))
        | (show LA _ _ _ _ (⟨_, .binOp _ _ _ _ _, _, _, _, _⟩ :: _) _; first
            | refine LA_cmpT rfl rfl rfl rfl (by first | (dsimp only [cmpP]; done) | (dsimp only [cmpP]; omega)) ?_
            | refine LA_cmpF rfl rfl rfl rfl (by dsimp only [cmpP]; omega) ?_
            | (refine LA_cmp rfl rfl rfl rfl (fun hc => ?_) (fun hc => ?_) <;> dsimp only [cmpP] at hc)
            | refine LA_boolEqT rfl rfl rfl rfl (by first | rfl | assumption) ?_
            | refine LA_boolEqF rfl rfl rfl rfl (by first | assumption | decide) ?_
            | refine LA_boolEq rfl rfl rfl rfl ?_
            | refine LA_boolNeT rfl rfl rfl rfl (by first | assumption | decide) ?_
            | refine LA_boolNeF rfl rfl rfl rfl (by first | rfl | assumption) ?_
            | refine LA_boolNe rfl rfl rfl rfl ?_)
        | (show LA _ _ _ _ (⟨_, .indexAddr _ _ _, _, _, _, _⟩ :: _) _; first
            | refine LA_indexN rfl _ rfl (fun _ => rfl) rfl (by first | exact HasI.val (by assumption) | exact HasI.pred | exact HasI.own | exact HasI.ownV (by assumption)) rfl (by omega) ?_
            | (refine LA_index rfl _ rfl (fun _ => rfl) rfl (by first | exact HasI.val (by assumption) | exact HasI.pred | exact HasI.own | exact HasI.ownV (by assumption)) rfl (by omega) (by omega) ?_; try dsimp only [Int.reduceToNat]))
        | (show LA _ _ _ _ (⟨_, .load _ _, _, _, _, _⟩ :: _) _; first
            | refine LA_load rfl (fun _ => rfl) rfl ?_)
        | (show LA _ _ _ _ (⟨_, .convert _ _ _, _, _, _, _⟩ :: _) _; first
            | refine LA_convF rfl rfl rfl rfl (by dsimp only [fits]; omega) ?_
            | refine LA_conv rfl rfl rfl rfl ?_)
        | (show LA _ _ _ _ (⟨_, .slice _ _ _ _ _, _, _, _, _⟩ :: _) _; first
            | (refine LA_sliceL rfl _ rfl rfl (by first | exact (HasI.val (by assumption)).c | exact HasI.pred.c | exact HasC.val (by assumption) | exact HasC.pred | exact HasI.own.c | exact HasC.own | exact (HasI.ownV (by assumption)).c | exact HasC.ownV (by assumption)) rfl (by omega) (by omega) (by exact fun _ => rfl) ?_; try dsimp only [Int.reduceToNat, Int.toNat_natCast])
            | (refine LA_sliceH rfl _ rfl rfl (by first | exact (HasI.val (by assumption)).c | exact HasI.pred.c | exact HasC.val (by assumption) | exact HasC.pred | exact HasI.own.c | exact HasC.own | exact (HasI.ownV (by assumption)).c | exact HasC.ownV (by assumption)) rfl (by omega) (by omega) (by exact fun _ => rfl) ?_; try dsimp only [Int.reduceToNat, Int.toNat_natCast])
            | (refine LA_sliceLH rfl _ rfl rfl (by first | exact (HasI.val (by assumption)).c | exact HasI.pred.c | exact HasC.val (by assumption) | exact HasC.pred | exact HasI.own.c | exact HasC.own | exact (HasI.ownV (by assumption)).c | exact HasC.ownV (by assumption)) rfl rfl (by omega) (by omega) (by omega) (by exact fun _ => rfl) ?_; try dsimp only [Int.reduceToNat, Int.toNat_natCast]))
        | (show LA _ _ _ _ (⟨_, .call ⟨.builtin .len, _, _⟩, _, _, _, _⟩ :: _) _; first
            | refine LA_len rfl _ rfl rfl (by first | exact (HasI.val (by assumption)).c | exact HasI.pred.c | exact HasC.val (by assumption) | exact HasC.pred | exact HasI.own.c | exact HasC.own | exact (HasI.ownV (by assumption)).c | exact HasC.ownV (by assumption)) ?_)
        | (refine LA_nil (hK [] _ (LX_nil ?_)); clear hK K)
        | (refine LA_nil (hK _ ?_); clear hK K))
      | (show CX _ _ _ _ _ _; first
        | refine CX_seq ?_
        | refine CX_skip ?_
        | refine CX_block ?_
        | refine CX_exit ?_
        | refine CX_ret ?_
        | refine CX_condT rfl ?_
        | refine CX_condF rfl ?_
        | refine CX_region (by kernel_rfl) (fun K hK => ?_)
        | refine CX_regionA (by kernel_rfl) (by kernel_rfl) (fun K hK => ?_)
        | refine CX_label ?_
        | refine CX_scope ?_)
      | (show PX _ _ _ _ _; first
        | refine PX_then ?_
        | refine PX_thenX ?_
        | refine PX_thenR ?_
        | refine PX_blockN ?_
        | refine PX_blockR ?_
        | refine PX_blockX ?_
        | refine PX_blockO (by decide) ?_
        | refine PX_scopeN ?_
        | refine PX_scopeR ?_
        | refine PX_scopeX ?_)
      | (show LX _ _ _ _ _ _ _; first
        | refine LX_nil ?_))
    exact PX_retE rfl rfl (Ext.refl _) rfl
theorem rflip1_c (x y : Bool) (w : World) : Fc Try.prog 26 #[.bool x, .bool y] w (Ret w (.val (.bool (!(x == y))))) := by
  cases x <;> cases y
  all_goals
    refine Fc.of (args := [_, _]) Try.func26 rfl rfl Try.ntmps26 (Nat.le_of_ble_eq_true rfl) ?_
    repeat' (first
      | (show LA _ _ _ _ _ _; first
        | refine LA_pass rfl ?_
        | (show LA _ _ _ _ (⟨_, .move _, _, _, _, _⟩ :: _) _; first
            | refine LA_moveV rfl rfl ?_
            | refine LA_moveP rfl rfl ?_
            | refine LA_moveT rfl rfl ?_
            | refine LA_moveU rfl rfl ?_)
        | (show LA _ _ _ _ (⟨_, .assign _, _, _, _, _⟩ :: _) _; first
            | refine LA_assignV rfl rfl ?_
            | refine LA_assignP rfl rfl ?_
            | refine LA_assignT rfl rfl ?_)
        | (show LA _ _ _ _ (⟨_, .pick _ _ _, _, _, _, _⟩ :: _) _; first
            | refine LA_pickTV rfl rfl rfl ?_
            | refine LA_pickFV rfl rfl rfl ?_)
        | (show LA _ _ _ _ (⟨_, .unOp .not _ _, _, _, _, _⟩ :: _) _; first
            | refine LA_notT rfl rfl ?_
            | refine LA_notF rfl rfl ?_
            | refine LA_not rfl rfl ?_)
        | (show LA _ _ _ _ (⟨_, .extract _ _, _, _, _, _⟩ :: _) _; first
            | refine LA_ext0 rfl rfl ?_
            | refine LA_ext1 rfl rfl ?_
            | refine LA_ext30 rfl rfl ?_
            | refine LA_ext31 rfl rfl ?_
            | refine LA_ext32 rfl rfl ?_)
        | (show LA _ _ _ _ (⟨_, .binOp .add _ _ _ _, _, _, _, _⟩ :: _) _; first
            | refine LA_addF rfl rfl rfl (by dsimp only [fits]; omega) ?_
            | refine LA_addW rfl rfl rfl ?_)
        | (show LA _ _ _ _ (⟨_, .binOp .sub _ _ _ _, _, _, _, _⟩ :: _) _; first
            | refine LA_subF rfl rfl rfl (by dsimp only [fits]; omega) ?_
            | refine LA_subW rfl rfl rfl ?_)
        | (show LA _ _ _ _ (⟨_, .binOp .mul _ _ _ _, _, _, _, _⟩ :: _) _; first
            | refine LA_mulF rfl rfl rfl (by dsimp only [fits]; omega) ?_
            | refine LA_mulW rfl rfl rfl ?_)
        | (show LA _ _ _ _ (⟨_, .binOp .quo _ _ _ _, _, _, _, _⟩ :: _) _; first
            | refine LA_quo rfl rfl rfl (by omega) (by omega) (by dsimp only [fits]; omega) ?_)
        | (show LA _ _ _ _ (⟨_, .binOp .rem _ _ _ _, _, _, _, _⟩ :: _) _; first
            | refine LA_rem rfl rfl rfl (by omega) (by omega) (by dsimp only [fits]; omega) ?_)
        | (show LA _ _ _ _ (⟨_, .binOp .shr _ _ _ _, _, _, _, _⟩ :: _) _; first
            | (refine LA_shr rfl rfl rfl (by omega) (by dsimp only [IntKind.bits]; omega) ?_; try dsimp only [Int.reduceToNat, Int.reducePow]))
        | (show LA _ _ _ _ (⟨_, .binOp .shl _ _ _ _, _, _, _, _⟩ :: _) _; first
            | (refine LA_shl rfl rfl rfl (by omega) (by dsimp only [IntKind.bits]; omega) ?_; try dsimp only [Int.reduceToNat, Int.reducePow]))
        | (show LA _ _ _ _ (⟨_, .binOp _ _ _ _ _, _, _, _, _⟩ :: _) _; first
            | refine LA_cmpT rfl rfl rfl rfl (by first | (dsimp only [cmpP]; done) | (dsimp only [cmpP]; omega)) ?_
            | refine LA_cmpF rfl rfl rfl rfl (by dsimp only [cmpP]; omega) ?_
            | (refine LA_cmp rfl rfl rfl rfl (fun hc => ?_) (fun hc => ?_) <;> dsimp only [cmpP] at hc)
            | refine LA_boolEqT rfl rfl rfl rfl (by first | rfl | assumption) ?_
            | refine LA_boolEqF rfl rfl rfl rfl (by first | assumption | decide) ?_
            | refine LA_boolEq rfl rfl rfl rfl ?_
            | refine LA_boolNeT rfl rfl rfl rfl (by first | assumption | decide) ?_
            | refine LA_boolNeF rfl rfl rfl rfl (by first | rfl | assumption) ?_
            | refine LA_boolNe rfl rfl rfl rfl ?_)
        | (show LA _ _ _ _ (⟨_, .indexAddr _ _ _, _, _, _, _⟩ :: _) _; first
            | refine LA_indexN rfl _ rfl (fun _ => rfl) rfl (by first | exact HasI.val (by assumption) | exact HasI.pred | exact HasI.own | exact HasI.ownV (by assumption)) rfl (by omega) ?_
            | (refine LA_index rfl _ rfl (fun _ => rfl) rfl (by first | exact HasI.val (by assumption) | exact HasI.pred | exact HasI.own | exact HasI.ownV (by assumption)) rfl (by omega) (by omega) ?_; try dsimp only [Int.reduceToNat]))
        | (show LA _ _ _ _ (⟨_, .load _ _, _, _, _, _⟩ :: _) _; first
            | refine LA_load rfl (fun _ => rfl) rfl ?_)
        | (show LA _ _ _ _ (⟨_, .convert _ _ _, _, _, _, _⟩ :: _) _; first
            | refine LA_convF rfl rfl rfl rfl (by dsimp only [fits]; omega) ?_
            | refine LA_conv rfl rfl rfl rfl ?_)
        | (show LA _ _ _ _ (⟨_, .slice _ _ _ _ _, _, _, _, _⟩ :: _) _; first
            | (refine LA_sliceL rfl _ rfl rfl (by first | exact (HasI.val (by assumption)).c | exact HasI.pred.c | exact HasC.val (by assumption) | exact HasC.pred | exact HasI.own.c | exact HasC.own | exact (HasI.ownV (by assumption)).c | exact HasC.ownV (by assumption)) rfl (by omega) (by omega) (by exact fun _ => rfl) ?_; try dsimp only [Int.reduceToNat, Int.toNat_natCast])
            | (refine LA_sliceH rfl _ rfl rfl (by first | exact (HasI.val (by assumption)).c | exact HasI.pred.c | exact HasC.val (by assumption) | exact HasC.pred | exact HasI.own.c | exact HasC.own | exact (HasI.ownV (by assumption)).c | exact HasC.ownV (by assumption)) rfl (by omega) (by omega) (by exact fun _ => rfl) ?_; try dsimp only [Int.reduceToNat, Int.toNat_natCast])
            | (refine LA_sliceLH rfl _ rfl rfl (by first | exact (HasI.val (by assumption)).c | exact HasI.pred.c | exact HasC.val (by assumption) | exact HasC.pred | exact HasI.own.c | exact HasC.own | exact (HasI.ownV (by assumption)).c | exact HasC.ownV (by assumption)) rfl rfl (by omega) (by omega) (by omega) (by exact fun _ => rfl) ?_; try dsimp only [Int.reduceToNat, Int.toNat_natCast]))
        | (show LA _ _ _ _ (⟨_, .call ⟨.builtin .len, _, _⟩, _, _, _, _⟩ :: _) _; first
            | refine LA_len rfl _ rfl rfl (by first | exact (HasI.val (by assumption)).c | exact HasI.pred.c | exact HasC.val (by assumption) | exact HasC.pred | exact HasI.own.c | exact HasC.own | exact (HasI.ownV (by assumption)).c | exact HasC.ownV (by assumption)) ?_)
        | (refine LA_nil (hK [] _ (LX_nil ?_)); clear hK K)
        | (refine LA_nil (hK _ ?_); clear hK K))
      | (show CX _ _ _ _ _ _; first
        | refine CX_seq ?_
        | refine CX_skip ?_
        | refine CX_block ?_
        | refine CX_exit ?_
        | refine CX_ret ?_
        | refine CX_condT rfl ?_
        | refine CX_condF rfl ?_
        | refine CX_region (by kernel_rfl) (fun K hK => ?_)
        | refine CX_regionA (by kernel_rfl) (by kernel_rfl) (fun K hK => ?_)
        | refine CX_label ?_
        | refine CX_scope ?_)
      | (show PX _ _ _ _ _; first
        | refine PX_then ?_
        | refine PX_thenX ?_
        | refine PX_thenR ?_
        | refine PX_blockN ?_
        | refine PX_blockR ?_
        | refine PX_blockX ?_
        | refine PX_blockO (by decide) ?_
        | refine PX_scopeN ?_
        | refine PX_scopeR ?_
        | refine PX_scopeX ?_)
      | (show LX _ _ _ _ _ _ _; first
        | refine LX_nil ?_))
    exact PX_retE rfl rfl (Ext.refl _) rfl
theorem ret_baseC {w : World} {base base' e s n : Nat} {cs : List Value} (hb : base' ≤ base) (en : Ending) (w' : World) (h : Ret w (.pred (ownC base e s n cs)) en w') : Ret w (.pred (ownC base' e s n cs)) en w' := by
  obtain ⟨v, h1, h2, h3⟩ := h
  exact ⟨v, h1, h2, Own.base h3 hb⟩
theorem runsL_len (p : Nat → Bool) : (runsL p).length ≤ 65536 := by
  unfold runsL; rw [many_opn]; exact cnt_le _ _
theorem row_of (w : World) (v : Value) (p : Nat → Bool) (hp : p 65536 = false) (h : SlR w v (runsL p)) : Fc Try.prog 19 #[v] w (Ret w (.pred (ownI w.heap.size 3 .i64 (listS (chg p) 65537)))) := by
  have := row_c w v (runsL p) h (runs_u16 p) (by have := runsL_len p; omega)
  rwa [row_runs hp] at this
section
variable (w : World) (va vb : Value) (p q : Nat → Bool) (hp : p 65536 = false) (hq : q 65536 = false) (ha : SlR w va (runsL p)) (hb : SlR w vb (runsL q))
include hp hq ha hb
theorem rand_c : Fc Try.prog 9 #[va, vb] w (Ret w (.pred (ownR w.heap.size 25 (runsL (two (fun x y => x && y) p q))))) := by
  refine Fc.of (args := [_, _]) Try.func9 rfl rfl Try.ntmps9 (Nat.le_of_ble_eq_true rfl) ?_
  repeat' (first
    | (show LA _ _ _ _ _ _; first
      | refine LA_pass rfl ?_
      | (show LA _ _ _ _ (⟨some 6, _, _, _, _, _⟩ :: _) _; show LA _ _ _ _ (⟨_, .call ⟨.value (.func 19), _, _⟩, _, _, _, _⟩ :: _) _; refine LA_call1 (f := 19) rfl rfl rfl  (.pred (ownI w.heap.size 3 .i64 (listS (chg p) 65537))) (by intro u1 w e hu1; (try obtain rfl : u1 = _ := hu1); exact (row_of _ _ p hp (ha.ext e)).mono (ret_base e.size)) ?_)
      | (show LA _ _ _ _ (⟨some 8, _, _, _, _, _⟩ :: _) _; show LA _ _ _ _ (⟨_, .call ⟨.value (.func 19), _, _⟩, _, _, _, _⟩ :: _) _; refine LA_call1 (f := 19) rfl rfl rfl  (.pred (ownI w.heap.size 3 .i64 (listS (chg q) 65537))) (by intro u1 w e hu1; (try obtain rfl : u1 = _ := hu1); exact (row_of _ _ q hq (hb.ext e)).mono (ret_base e.size)) ?_)
      | (show LA _ _ _ _ (⟨_, .call ⟨.value (.func 18), _, _⟩, _, _, _, _⟩ :: _) _; refine LA_call3 (f := 18) rfl rfl rfl rfl rfl  (.pred (ownR w.heap.size 25 (runsL (two (fun x y => x && y) p q)))) (by intro u1 u2 u3 w e hu1 hu2 hu3; (try obtain rfl : u1 = _ := hu1); (try obtain rfl : u2 = _ := hu2); (try obtain rfl : u3 = _ := hu3); exact (edges_c (fun x y => x && y) _ rand1_c rfl _ _ _ p q hp hq (OwnI.slI hu1) (OwnI.slI hu2)).mono (ret_baseR e.size rfl)) ?_)
      | (show LA _ _ _ _ (⟨_, .move _, _, _, _, _⟩ :: _) _; first
          | refine LA_moveV rfl rfl ?_
          | refine LA_moveP rfl rfl ?_
          | refine LA_moveT rfl rfl ?_
          | refine LA_moveU rfl rfl ?_)
      | (show LA _ _ _ _ (⟨_, .assign _, _, _, _, _⟩ :: _) _; first
          | refine LA_assignV rfl rfl ?_
          | refine LA_assignP rfl rfl ?_
          | refine LA_assignT rfl rfl ?_)
      | (show LA _ _ _ _ (⟨_, .pick _ _ _, _, _, _, _⟩ :: _) _; first
          | refine LA_pickTV rfl rfl rfl ?_
          | refine LA_pickFV rfl rfl rfl ?_)
      | (show LA _ _ _ _ (⟨_, .unOp .not _ _, _, _, _, _⟩ :: _) _; first
          | refine LA_notT rfl rfl ?_
          | refine LA_notF rfl rfl ?_
          | refine LA_not rfl rfl ?_)
      | (show LA _ _ _ _ (⟨_, .extract _ _, _, _, _, _⟩ :: _) _; first
          | refine LA_ext0 rfl rfl ?_
          | refine LA_ext1 rfl rfl ?_
          | refine LA_ext30 rfl rfl ?_
          | refine LA_ext31 rfl rfl ?_
          | refine LA_ext32 rfl rfl ?_)
      | (show LA _ _ _ _ (⟨_, .binOp .add _ _ _ _, _, _, _, _⟩ :: _) _; first
          | refine LA_addF rfl rfl rfl (by dsimp only [fits]; omega) ?_
          | refine LA_addW rfl rfl rfl ?_)
      | (show LA _ _ _ _ (⟨_, .binOp .sub _ _ _ _, _, _, _, _⟩ :: _) _; first
          | refine LA_subF rfl rfl rfl (by dsimp only [fits]; omega) ?_
          | refine LA_subW rfl rfl rfl ?_)
      | (show LA _ _ _ _ (⟨_, .binOp .mul _ _ _ _, _, _, _, _⟩ :: _) _; first
          | refine LA_mulF rfl rfl rfl (by dsimp only [fits]; omega) ?_
          | refine LA_mulW rfl rfl rfl ?_)
      | (show LA _ _ _ _ (⟨_, .binOp .quo _ _ _ _, _, _, _, _⟩ :: _) _; first
          | refine LA_quo rfl rfl rfl (by omega) (by omega) (by dsimp only [fits]; omega) ?_)
      | (show LA _ _ _ _ (⟨_, .binOp .rem _ _ _ _, _, _, _, _⟩ :: _) _; first
          | refine LA_rem rfl rfl rfl (by omega) (by omega) (by dsimp only [fits]; omega) ?_)
      | (show LA _ _ _ _ (⟨_, .binOp .shr _ _ _ _, _, _, _, _⟩ :: _) _; first
          | (refine LA_shr rfl rfl rfl (by omega) (by dsimp only [IntKind.bits]; omega) ?_; try dsimp only [Int.reduceToNat, Int.reducePow]))
      | (show LA _ _ _ _ (⟨_, .binOp .shl _ _ _ _, _, _, _, _⟩ :: _) _; first
          | (refine LA_shl rfl rfl rfl (by omega) (by dsimp only [IntKind.bits]; omega) ?_; try dsimp only [Int.reduceToNat, Int.reducePow]))
      | (show LA _ _ _ _ (⟨_, .binOp _ _ _ _ _, _, _, _, _⟩ :: _) _; first
          | refine LA_cmpT rfl rfl rfl rfl (by first | (dsimp only [cmpP]; done) | (dsimp only [cmpP]; omega)) ?_
          | refine LA_cmpF rfl rfl rfl rfl (by dsimp only [cmpP]; omega) ?_
          | (refine LA_cmp rfl rfl rfl rfl (fun hc => ?_) (fun hc => ?_) <;> dsimp only [cmpP] at hc)
          | refine LA_boolEqT rfl rfl rfl rfl (by first | rfl | assumption) ?_
          | refine LA_boolEqF rfl rfl rfl rfl (by first | assumption | decide) ?_
          | refine LA_boolEq rfl rfl rfl rfl ?_
          | refine LA_boolNeT rfl rfl rfl rfl (by first | assumption | decide) ?_
          | refine LA_boolNeF rfl rfl rfl rfl (by first | rfl | assumption) ?_
          | refine LA_boolNe rfl rfl rfl rfl ?_)
      | (show LA _ _ _ _ (⟨_, .indexAddr _ _ _, _, _, _, _⟩ :: _) _; first
          | refine LA_indexN rfl _ rfl (fun _ => rfl) rfl (by first | exact HasI.val (by assumption) | exact HasI.pred | exact HasI.own | exact HasI.ownV (by assumption)) rfl (by omega) ?_
          | (refine LA_index rfl _ rfl (fun _ => rfl) rfl (by first | exact HasI.val (by assumption) | exact HasI.pred | exact HasI.own | exact HasI.ownV (by assumption)) rfl (by omega) (by omega) ?_; try dsimp only [Int.reduceToNat]))
      | (show LA _ _ _ _ (⟨_, .load _ _, _, _, _, _⟩ :: _) _; first
          | refine LA_load rfl (fun _ => rfl) rfl ?_)
      | (show LA _ _ _ _ (⟨_, .convert _ _ _, _, _, _, _⟩ :: _) _; first
          | refine LA_convF rfl rfl rfl rfl (by dsimp only [fits]; omega) ?_
          | refine LA_conv rfl rfl rfl rfl ?_)
      | (show LA _ _ _ _ (⟨_, .slice _ _ _ _ _, _, _, _, _⟩ :: _) _; first
          | (refine LA_sliceL rfl _ rfl rfl (by first | exact (HasI.val (by assumption)).c | exact HasI.pred.c | exact HasC.val (by assumption) | exact HasC.pred | exact HasI.own.c | exact HasC.own | exact (HasI.ownV (by assumption)).c | exact HasC.ownV (by assumption)) rfl (by omega) (by omega) (by exact fun _ => rfl) ?_; try dsimp only [Int.reduceToNat, Int.toNat_natCast])
          | (refine LA_sliceH rfl _ rfl rfl (by first | exact (HasI.val (by assumption)).c | exact HasI.pred.c | exact HasC.val (by assumption) | exact HasC.pred | exact HasI.own.c | exact HasC.own | exact (HasI.ownV (by assumption)).c | exact HasC.ownV (by assumption)) rfl (by omega) (by omega) (by exact fun _ => rfl) ?_; try dsimp only [Int.reduceToNat, Int.toNat_natCast])
          | (refine LA_sliceLH rfl _ rfl rfl (by first | exact (HasI.val (by assumption)).c | exact HasI.pred.c | exact HasC.val (by assumption) | exact HasC.pred | exact HasI.own.c | exact HasC.own | exact (HasI.ownV (by assumption)).c | exact HasC.ownV (by assumption)) rfl rfl (by omega) (by omega) (by omega) (by exact fun _ => rfl) ?_; try dsimp only [Int.reduceToNat, Int.toNat_natCast]))
      | (show LA _ _ _ _ (⟨_, .call ⟨.builtin .len, _, _⟩, _, _, _, _⟩ :: _) _; first
          | refine LA_len rfl _ rfl rfl (by first | exact (HasI.val (by assumption)).c | exact HasI.pred.c | exact HasC.val (by assumption) | exact HasC.pred | exact HasI.own.c | exact HasC.own | exact (HasI.ownV (by assumption)).c | exact HasC.ownV (by assumption)) ?_)
      | (refine LA_nil (hK [] _ (LX_nil ?_)); clear hK K)
      | (refine LA_nil (hK _ ?_); clear hK K))
    | (show CX _ _ _ _ _ _; first
      | refine CX_seq ?_
      | refine CX_skip ?_
      | refine CX_block ?_
      | refine CX_exit ?_
      | refine CX_ret ?_
      | refine CX_condT rfl ?_
      | refine CX_condF rfl ?_
      | refine CX_region (by kernel_rfl) (fun K hK => ?_)
      | refine CX_regionA (by kernel_rfl) (by kernel_rfl) (fun K hK => ?_)
      | refine CX_label ?_
      | refine CX_scope ?_)
    | (show PX _ _ _ _ _; first
      | refine PX_then ?_
      | refine PX_thenX ?_
      | refine PX_thenR ?_
      | refine PX_blockN ?_
      | refine PX_blockR ?_
      | refine PX_blockX ?_
      | refine PX_blockO (by decide) ?_
      | refine PX_scopeN ?_
      | refine PX_scopeR ?_
      | refine PX_scopeX ?_)
    | (show LX _ _ _ _ _ _ _; first
      | refine LX_nil ?_))
  exact PX_retP rfl rfl (Ext.refl _) (fun _ _ _ h => h)
theorem ror_c : Fc Try.prog 6 #[va, vb] w (Ret w (.pred (ownR w.heap.size 25 (runsL (two (fun x y => x || y) p q))))) := by
  refine Fc.of (args := [_, _]) Try.func6 rfl rfl Try.ntmps6 (Nat.le_of_ble_eq_true rfl) ?_
  repeat' (first
    | (show LA _ _ _ _ _ _; first
      | refine LA_pass rfl ?_
      | (show LA _ _ _ _ (⟨some 6, _, _, _, _, _⟩ :: _) _; show LA _ _ _ _ (⟨_, .call ⟨.value (.func 19), _, _⟩, _, _, _, _⟩ :: _) _; refine LA_call1 (f := 19) rfl rfl rfl  (.pred (ownI w.heap.size 3 .i64 (listS (chg p) 65537))) (by intro u1 w e hu1; (try obtain rfl : u1 = _ := hu1); exact (row_of _ _ p hp (ha.ext e)).mono (ret_base e.size)) ?_)
      | (show LA _ _ _ _ (⟨some 8, _, _, _, _, _⟩ :: _) _; show LA _ _ _ _ (⟨_, .call ⟨.value (.func 19), _, _⟩, _, _, _, _⟩ :: _) _; refine LA_call1 (f := 19) rfl rfl rfl  (.pred (ownI w.heap.size 3 .i64 (listS (chg q) 65537))) (by intro u1 w e hu1; (try obtain rfl : u1 = _ := hu1); exact (row_of _ _ q hq (hb.ext e)).mono (ret_base e.size)) ?_)
      | (show LA _ _ _ _ (⟨_, .call ⟨.value (.func 18), _, _⟩, _, _, _, _⟩ :: _) _; refine LA_call3 (f := 18) rfl rfl rfl rfl rfl  (.pred (ownR w.heap.size 25 (runsL (two (fun x y => x || y) p q)))) (by intro u1 u2 u3 w e hu1 hu2 hu3; (try obtain rfl : u1 = _ := hu1); (try obtain rfl : u2 = _ := hu2); (try obtain rfl : u3 = _ := hu3); exact (edges_c (fun x y => x || y) _ ror1_c rfl _ _ _ p q hp hq (OwnI.slI hu1) (OwnI.slI hu2)).mono (ret_baseR e.size rfl)) ?_)
      | (show LA _ _ _ _ (⟨_, .move _, _, _, _, _⟩ :: _) _; first
          | refine LA_moveV rfl rfl ?_
          | refine LA_moveP rfl rfl ?_
          | refine LA_moveT rfl rfl ?_
          | refine LA_moveU rfl rfl ?_)
      | (show LA _ _ _ _ (⟨_, .assign _, _, _, _, _⟩ :: _) _; first
          | refine LA_assignV rfl rfl ?_
          | refine LA_assignP rfl rfl ?_
          | refine LA_assignT rfl rfl ?_)
      | (show LA _ _ _ _ (⟨_, .pick _ _ _, _, _, _, _⟩ :: _) _; first
          | refine LA_pickTV rfl rfl rfl ?_
          | refine LA_pickFV rfl rfl rfl ?_)
      | (show LA _ _ _ _ (⟨_, .unOp .not _ _, _, _, _, _⟩ :: _) _; first
          | refine LA_notT rfl rfl ?_
          | refine LA_notF rfl rfl ?_
          | refine LA_not rfl rfl ?_)
      | (show LA _ _ _ _ (⟨_, .extract _ _, _, _, _, _⟩ :: _) _; first
          | refine LA_ext0 rfl rfl ?_
          | refine LA_ext1 rfl rfl ?_
          | refine LA_ext30 rfl rfl ?_
          | refine LA_ext31 rfl rfl ?_
          | refine LA_ext32 rfl rfl ?_)
      | (show LA _ _ _ _ (⟨_, .binOp .add _ _ _ _, _, _, _, _⟩ :: _) _; first
          | refine LA_addF rfl rfl rfl (by dsimp only [fits]; omega) ?_
          | refine LA_addW rfl rfl rfl ?_)
      | (show LA _ _ _ _ (⟨_, .binOp .sub _ _ _ _, _, _, _, _⟩ :: _) _; first
          | refine LA_subF rfl rfl rfl (by dsimp only [fits]; omega) ?_
          | refine LA_subW rfl rfl rfl ?_)
      | (show LA _ _ _ _ (⟨_, .binOp .mul _ _ _ _, _, _, _, _⟩ :: _) _; first
          | refine LA_mulF rfl rfl rfl (by dsimp only [fits]; omega) ?_
          | refine LA_mulW rfl rfl rfl ?_)
      | (show LA _ _ _ _ (⟨_, .binOp .quo _ _ _ _, _, _, _, _⟩ :: _) _; first
          | refine LA_quo rfl rfl rfl (by omega) (by omega) (by dsimp only [fits]; omega) ?_)
      | (show LA _ _ _ _ (⟨_, .binOp .rem _ _ _ _, _, _, _, _⟩ :: _) _; first
          | refine LA_rem rfl rfl rfl (by omega) (by omega) (by dsimp only [fits]; omega) ?_)
      | (show LA _ _ _ _ (⟨_, .binOp .shr _ _ _ _, _, _, _, _⟩ :: _) _; first
          | (refine LA_shr rfl rfl rfl (by omega) (by dsimp only [IntKind.bits]; omega) ?_; try dsimp only [Int.reduceToNat, Int.reducePow]))
      | (show LA _ _ _ _ (⟨_, .binOp .shl _ _ _ _, _, _, _, _⟩ :: _) _; first
          | (refine LA_shl rfl rfl rfl (by omega) (by dsimp only [IntKind.bits]; omega) ?_; try dsimp only [Int.reduceToNat, Int.reducePow]))
      | (show LA _ _ _ _ (⟨_, .binOp _ _ _ _ _, _, _, _, _⟩ :: _) _; first
          | refine LA_cmpT rfl rfl rfl rfl (by first | (dsimp only [cmpP]; done) | (dsimp only [cmpP]; omega)) ?_
          | refine LA_cmpF rfl rfl rfl rfl (by dsimp only [cmpP]; omega) ?_
          | (refine LA_cmp rfl rfl rfl rfl (fun hc => ?_) (fun hc => ?_) <;> dsimp only [cmpP] at hc)
          | refine LA_boolEqT rfl rfl rfl rfl (by first | rfl | assumption) ?_
          | refine LA_boolEqF rfl rfl rfl rfl (by first | assumption | decide) ?_
          | refine LA_boolEq rfl rfl rfl rfl ?_
          | refine LA_boolNeT rfl rfl rfl rfl (by first | assumption | decide) ?_
          | refine LA_boolNeF rfl rfl rfl rfl (by first | rfl | assumption) ?_
          | refine LA_boolNe rfl rfl rfl rfl ?_)
      | (show LA _ _ _ _ (⟨_, .indexAddr _ _ _, _, _, _, _⟩ :: _) _; first
          | refine LA_indexN rfl _ rfl (fun _ => rfl) rfl (by first | exact HasI.val (by assumption) | exact HasI.pred | exact HasI.own | exact HasI.ownV (by assumption)) rfl (by omega) ?_
          | (refine LA_index rfl _ rfl (fun _ => rfl) rfl (by first | exact HasI.val (by assumption) | exact HasI.pred | exact HasI.own | exact HasI.ownV (by assumption)) rfl (by omega) (by omega) ?_; try dsimp only [Int.reduceToNat]))
      | (show LA _ _ _ _ (⟨_, .load _ _, _, _, _, _⟩ :: _) _; first
          | refine LA_load rfl (fun _ => rfl) rfl ?_)
      | (show LA _ _ _ _ (⟨_, .convert _ _ _, _, _, _, _⟩ :: _) _; first
          | refine LA_convF rfl rfl rfl rfl (by dsimp only [fits]; omega) ?_
          | refine LA_conv rfl rfl rfl rfl ?_)
      | (show LA _ _ _ _ (⟨_, .slice _ _ _ _ _, _, _, _, _⟩ :: _) _; first
          | (refine LA_sliceL rfl _ rfl rfl (by first | exact (HasI.val (by assumption)).c | exact HasI.pred.c | exact HasC.val (by assumption) | exact HasC.pred | exact HasI.own.c | exact HasC.own | exact (HasI.ownV (by assumption)).c | exact HasC.ownV (by assumption)) rfl (by omega) (by omega) (by exact fun _ => rfl) ?_; try dsimp only [Int.reduceToNat, Int.toNat_natCast])
          | (refine LA_sliceH rfl _ rfl rfl (by first | exact (HasI.val (by assumption)).c | exact HasI.pred.c | exact HasC.val (by assumption) | exact HasC.pred | exact HasI.own.c | exact HasC.own | exact (HasI.ownV (by assumption)).c | exact HasC.ownV (by assumption)) rfl (by omega) (by omega) (by exact fun _ => rfl) ?_; try dsimp only [Int.reduceToNat, Int.toNat_natCast])
          | (refine LA_sliceLH rfl _ rfl rfl (by first | exact (HasI.val (by assumption)).c | exact HasI.pred.c | exact HasC.val (by assumption) | exact HasC.pred | exact HasI.own.c | exact HasC.own | exact (HasI.ownV (by assumption)).c | exact HasC.ownV (by assumption)) rfl rfl (by omega) (by omega) (by omega) (by exact fun _ => rfl) ?_; try dsimp only [Int.reduceToNat, Int.toNat_natCast]))
      | (show LA _ _ _ _ (⟨_, .call ⟨.builtin .len, _, _⟩, _, _, _, _⟩ :: _) _; first
          | refine LA_len rfl _ rfl rfl (by first | exact (HasI.val (by assumption)).c | exact HasI.pred.c | exact HasC.val (by assumption) | exact HasC.pred | exact HasI.own.c | exact HasC.own | exact (HasI.ownV (by assumption)).c | exact HasC.ownV (by assumption)) ?_)
      | (refine LA_nil (hK [] _ (LX_nil ?_)); clear hK K)
      | (refine LA_nil (hK _ ?_); clear hK K))
    | (show CX _ _ _ _ _ _; first
      | refine CX_seq ?_
      | refine CX_skip ?_
      | refine CX_block ?_
      | refine CX_exit ?_
      | refine CX_ret ?_
      | refine CX_condT rfl ?_
      | refine CX_condF rfl ?_
      | refine CX_region (by kernel_rfl) (fun K hK => ?_)
      | refine CX_regionA (by kernel_rfl) (by kernel_rfl) (fun K hK => ?_)
      | refine CX_label ?_
      | refine CX_scope ?_)
    | (show PX _ _ _ _ _; first
      | refine PX_then ?_
      | refine PX_thenX ?_
      | refine PX_thenR ?_
      | refine PX_blockN ?_
      | refine PX_blockR ?_
      | refine PX_blockX ?_
      | refine PX_blockO (by decide) ?_
      | refine PX_scopeN ?_
      | refine PX_scopeR ?_
      | refine PX_scopeX ?_)
    | (show LX _ _ _ _ _ _ _; first
      | refine LX_nil ?_))
  exact PX_retP rfl rfl (Ext.refl _) (fun _ _ _ h => h)
theorem rnot_c : Fc Try.prog 8 #[va, vb] w (Ret w (.pred (ownR w.heap.size 25 (runsL (two (fun x y => x && !y) p q))))) := by
  refine Fc.of (args := [_, _]) Try.func8 rfl rfl Try.ntmps8 (Nat.le_of_ble_eq_true rfl) ?_
  repeat' (first
    | (show LA _ _ _ _ _ _; first
      | refine LA_pass rfl ?_
      | (show LA _ _ _ _ (⟨some 6, _, _, _, _, _⟩ :: _) _; show LA _ _ _ _ (⟨_, .call ⟨.value (.func 19), _, _⟩, _, _, _, _⟩ :: _) _; refine LA_call1 (f := 19) rfl rfl rfl  (.pred (ownI w.heap.size 3 .i64 (listS (chg p) 65537))) (by intro u1 w e hu1; (try obtain rfl : u1 = _ := hu1); exact (row_of _ _ p hp (ha.ext e)).mono (ret_base e.size)) ?_)
      | (show LA _ _ _ _ (⟨some 8, _, _, _, _, _⟩ :: _) _; show LA _ _ _ _ (⟨_, .call ⟨.value (.func 19), _, _⟩, _, _, _, _⟩ :: _) _; refine LA_call1 (f := 19) rfl rfl rfl  (.pred (ownI w.heap.size 3 .i64 (listS (chg q) 65537))) (by intro u1 w e hu1; (try obtain rfl : u1 = _ := hu1); exact (row_of _ _ q hq (hb.ext e)).mono (ret_base e.size)) ?_)
      | (show LA _ _ _ _ (⟨_, .call ⟨.value (.func 18), _, _⟩, _, _, _, _⟩ :: _) _; refine LA_call3 (f := 18) rfl rfl rfl rfl rfl  (.pred (ownR w.heap.size 25 (runsL (two (fun x y => x && !y) p q)))) (by intro u1 u2 u3 w e hu1 hu2 hu3; (try obtain rfl : u1 = _ := hu1); (try obtain rfl : u2 = _ := hu2); (try obtain rfl : u3 = _ := hu3); exact (edges_c (fun x y => x && !y) _ rnot1_c rfl _ _ _ p q hp hq (OwnI.slI hu1) (OwnI.slI hu2)).mono (ret_baseR e.size rfl)) ?_)
      | (show LA _ _ _ _ (⟨_, .move _, _, _, _, _⟩ :: _) _; first
          | refine LA_moveV rfl rfl ?_
          | refine LA_moveP rfl rfl ?_
          | refine LA_moveT rfl rfl ?_
          | refine LA_moveU rfl rfl ?_)
      | (show LA _ _ _ _ (⟨_, .assign _, _, _, _, _⟩ :: _) _; first
          | refine LA_assignV rfl rfl ?_
          | refine LA_assignP rfl rfl ?_
          | refine LA_assignT rfl rfl ?_)
      | (show LA _ _ _ _ (⟨_, .pick _ _ _, _, _, _, _⟩ :: _) _; first
          | refine LA_pickTV rfl rfl rfl ?_
          | refine LA_pickFV rfl rfl rfl ?_)
      | (show LA _ _ _ _ (⟨_, .unOp .not _ _, _, _, _, _⟩ :: _) _; first
          | refine LA_notT rfl rfl ?_
          | refine LA_notF rfl rfl ?_
          | refine LA_not rfl rfl ?_)
      | (show LA _ _ _ _ (⟨_, .extract _ _, _, _, _, _⟩ :: _) _; first
          | refine LA_ext0 rfl rfl ?_
          | refine LA_ext1 rfl rfl ?_
          | refine LA_ext30 rfl rfl ?_
          | refine LA_ext31 rfl rfl ?_
          | refine LA_ext32 rfl rfl ?_)
      | (show LA _ _ _ _ (⟨_, .binOp .add _ _ _ _, _, _, _, _⟩ :: _) _; first
          | refine LA_addF rfl rfl rfl (by dsimp only [fits]; omega) ?_
          | refine LA_addW rfl rfl rfl ?_)
      | (show LA _ _ _ _ (⟨_, .binOp .sub _ _ _ _, _, _, _, _⟩ :: _) _; first
          | refine LA_subF rfl rfl rfl (by dsimp only [fits]; omega) ?_
          | refine LA_subW rfl rfl rfl ?_)
      | (show LA _ _ _ _ (⟨_, .binOp .mul _ _ _ _, _, _, _, _⟩ :: _) _; first
          | refine LA_mulF rfl rfl rfl (by dsimp only [fits]; omega) ?_
          | refine LA_mulW rfl rfl rfl ?_)
      | (show LA _ _ _ _ (⟨_, .binOp .quo _ _ _ _, _, _, _, _⟩ :: _) _; first
          | refine LA_quo rfl rfl rfl (by omega) (by omega) (by dsimp only [fits]; omega) ?_)
      | (show LA _ _ _ _ (⟨_, .binOp .rem _ _ _ _, _, _, _, _⟩ :: _) _; first
          | refine LA_rem rfl rfl rfl (by omega) (by omega) (by dsimp only [fits]; omega) ?_)
      | (show LA _ _ _ _ (⟨_, .binOp .shr _ _ _ _, _, _, _, _⟩ :: _) _; first
          | (refine LA_shr rfl rfl rfl (by omega) (by dsimp only [IntKind.bits]; omega) ?_; try dsimp only [Int.reduceToNat, Int.reducePow]))
      | (show LA _ _ _ _ (⟨_, .binOp .shl _ _ _ _, _, _, _, _⟩ :: _) _; first
          | (refine LA_shl rfl rfl rfl (by omega) (by dsimp only [IntKind.bits]; omega) ?_; try dsimp only [Int.reduceToNat, Int.reducePow]))
      | (show LA _ _ _ _ (⟨_, .binOp _ _ _ _ _, _, _, _, _⟩ :: _) _; first
          | refine LA_cmpT rfl rfl rfl rfl (by first | (dsimp only [cmpP]; done) | (dsimp only [cmpP]; omega)) ?_
          | refine LA_cmpF rfl rfl rfl rfl (by dsimp only [cmpP]; omega) ?_
          | (refine LA_cmp rfl rfl rfl rfl (fun hc => ?_) (fun hc => ?_) <;> dsimp only [cmpP] at hc)
          | refine LA_boolEqT rfl rfl rfl rfl (by first | rfl | assumption) ?_
          | refine LA_boolEqF rfl rfl rfl rfl (by first | assumption | decide) ?_
          | refine LA_boolEq rfl rfl rfl rfl ?_
          | refine LA_boolNeT rfl rfl rfl rfl (by first | assumption | decide) ?_
          | refine LA_boolNeF rfl rfl rfl rfl (by first | rfl | assumption) ?_
          | refine LA_boolNe rfl rfl rfl rfl ?_)
      | (show LA _ _ _ _ (⟨_, .indexAddr _ _ _, _, _, _, _⟩ :: _) _; first
          | refine LA_indexN rfl _ rfl (fun _ => rfl) rfl (by first | exact HasI.val (by assumption) | exact HasI.pred | exact HasI.own | exact HasI.ownV (by assumption)) rfl (by omega) ?_
          | (refine LA_index rfl _ rfl (fun _ => rfl) rfl (by first | exact HasI.val (by assumption) | exact HasI.pred | exact HasI.own | exact HasI.ownV (by assumption)) rfl (by omega) (by omega) ?_; try dsimp only [Int.reduceToNat]))
      | (show LA _ _ _ _ (⟨_, .load _ _, _, _, _, _⟩ :: _) _; first
          | refine LA_load rfl (fun _ => rfl) rfl ?_)
      | (show LA _ _ _ _ (⟨_, .convert _ _ _, _, _, _, _⟩ :: _) _; first
          | refine LA_convF rfl rfl rfl rfl (by dsimp only [fits]; omega) ?_
          | refine LA_conv rfl rfl rfl rfl ?_)
      | (show LA _ _ _ _ (⟨_, .slice _ _ _ _ _, _, _, _, _⟩ :: _) _; first
          | (refine LA_sliceL rfl _ rfl rfl (by first | exact (HasI.val (by assumption)).c | exact HasI.pred.c | exact HasC.val (by assumption) | exact HasC.pred | exact HasI.own.c | exact HasC.own | exact (HasI.ownV (by assumption)).c | exact HasC.ownV (by assumption)) rfl (by omega) (by omega) (by exact fun _ => rfl) ?_; try dsimp only [Int.reduceToNat, Int.toNat_natCast])
          | (refine LA_sliceH rfl _ rfl rfl (by first | exact (HasI.val (by assumption)).c | exact HasI.pred.c | exact HasC.val (by assumption) | exact HasC.pred | exact HasI.own.c | exact HasC.own | exact (HasI.ownV (by assumption)).c | exact HasC.ownV (by assumption)) rfl (by omega) (by omega) (by exact fun _ => rfl) ?_; try dsimp only [Int.reduceToNat, Int.toNat_natCast])
          | (refine LA_sliceLH rfl _ rfl rfl (by first | exact (HasI.val (by assumption)).c | exact HasI.pred.c | exact HasC.val (by assumption) | exact HasC.pred | exact HasI.own.c | exact HasC.own | exact (HasI.ownV (by assumption)).c | exact HasC.ownV (by assumption)) rfl rfl (by omega) (by omega) (by omega) (by exact fun _ => rfl) ?_; try dsimp only [Int.reduceToNat, Int.toNat_natCast]))
      | (show LA _ _ _ _ (⟨_, .call ⟨.builtin .len, _, _⟩, _, _, _, _⟩ :: _) _; first
          | refine LA_len rfl _ rfl rfl (by first | exact (HasI.val (by assumption)).c | exact HasI.pred.c | exact HasC.val (by assumption) | exact HasC.pred | exact HasI.own.c | exact HasC.own | exact (HasI.ownV (by assumption)).c | exact HasC.ownV (by assumption)) ?_)
      | (refine LA_nil (hK [] _ (LX_nil ?_)); clear hK K)
      | (refine LA_nil (hK _ ?_); clear hK K))
    | (show CX _ _ _ _ _ _; first
      | refine CX_seq ?_
      | refine CX_skip ?_
      | refine CX_block ?_
      | refine CX_exit ?_
      | refine CX_ret ?_
      | refine CX_condT rfl ?_
      | refine CX_condF rfl ?_
      | refine CX_region (by kernel_rfl) (fun K hK => ?_)
      | refine CX_regionA (by kernel_rfl) (by kernel_rfl) (fun K hK => ?_)
      | refine CX_label ?_
      | refine CX_scope ?_)
    | (show PX _ _ _ _ _; first
      | refine PX_then ?_
      | refine PX_thenX ?_
      | refine PX_thenR ?_
      | refine PX_blockN ?_
      | refine PX_blockR ?_
      | refine PX_blockX ?_
      | refine PX_blockO (by decide) ?_
      | refine PX_scopeN ?_
      | refine PX_scopeR ?_
      | refine PX_scopeX ?_)
    | (show LX _ _ _ _ _ _ _; first
      | refine LX_nil ?_))
  exact PX_retP rfl rfl (Ext.refl _) (fun _ _ _ h => h)
theorem rxor_c : Fc Try.prog 10 #[va, vb] w (Ret w (.pred (ownR w.heap.size 25 (runsL (two (fun x y => !(x == y)) p q))))) := by
  refine Fc.of (args := [_, _]) Try.func10 rfl rfl Try.ntmps10 (Nat.le_of_ble_eq_true rfl) ?_
  repeat' (first
    | (show LA _ _ _ _ _ _; first
      | refine LA_pass rfl ?_
      | (show LA _ _ _ _ (⟨some 6, _, _, _, _, _⟩ :: _) _; show LA _ _ _ _ (⟨_, .call ⟨.value (.func 19), _, _⟩, _, _, _, _⟩ :: _) _; refine LA_call1 (f := 19) rfl rfl rfl  (.pred (ownI w.heap.size 3 .i64 (listS (chg p) 65537))) (by intro u1 w e hu1; (try obtain rfl : u1 = _ := hu1); exact (row_of _ _ p hp (ha.ext e)).mono (ret_base e.size)) ?_)
      | (show LA _ _ _ _ (⟨some 8, _, _, _, _, _⟩ :: _) _; show LA _ _ _ _ (⟨_, .call ⟨.value (.func 19), _, _⟩, _, _, _, _⟩ :: _) _; refine LA_call1 (f := 19) rfl rfl rfl  (.pred (ownI w.heap.size 3 .i64 (listS (chg q) 65537))) (by intro u1 w e hu1; (try obtain rfl : u1 = _ := hu1); exact (row_of _ _ q hq (hb.ext e)).mono (ret_base e.size)) ?_)
      | (show LA _ _ _ _ (⟨_, .call ⟨.value (.func 18), _, _⟩, _, _, _, _⟩ :: _) _; refine LA_call3 (f := 18) rfl rfl rfl rfl rfl  (.pred (ownR w.heap.size 25 (runsL (two (fun x y => !(x == y)) p q)))) (by intro u1 u2 u3 w e hu1 hu2 hu3; (try obtain rfl : u1 = _ := hu1); (try obtain rfl : u2 = _ := hu2); (try obtain rfl : u3 = _ := hu3); exact (edges_c (fun x y => !(x == y)) _ rxor1_c rfl _ _ _ p q hp hq (OwnI.slI hu1) (OwnI.slI hu2)).mono (ret_baseR e.size rfl)) ?_)
      | (show LA _ _ _ _ (⟨_, .move _, _, _, _, _⟩ :: _) _; first
          | refine LA_moveV rfl rfl ?_
          | refine LA_moveP rfl rfl ?_
          | refine LA_moveT rfl rfl ?_
          | refine LA_moveU rfl rfl ?_)
      | (show LA _ _ _ _ (⟨_, .assign _, _, _, _, _⟩ :: _) _; first
          | refine LA_assignV rfl rfl ?_
          | refine LA_assignP rfl rfl ?_
          | refine LA_assignT rfl rfl ?_)
      | (show LA _ _ _ _ (⟨_, .pick _ _ _, _, _, _, _⟩ :: _) _; first
          | refine LA_pickTV rfl rfl rfl ?_
          | refine LA_pickFV rfl rfl rfl ?_)
      | (show LA _ _ _ _ (⟨_, .unOp .not _ _, _, _, _, _⟩ :: _) _; first
          | refine LA_notT rfl rfl ?_
          | refine LA_notF rfl rfl ?_
          | refine LA_not rfl rfl ?_)
      | (show LA _ _ _ _ (⟨_, .extract _ _, _, _, _, _⟩ :: _) _; first
          | refine LA_ext0 rfl rfl ?_
          | refine LA_ext1 rfl rfl ?_
          | refine LA_ext30 rfl rfl ?_
          | refine LA_ext31 rfl rfl ?_
          | refine LA_ext32 rfl rfl ?_)
      | (show LA _ _ _ _ (⟨_, .binOp .add _ _ _ _, _, _, _, _⟩ :: _) _; first
          | refine LA_addF rfl rfl rfl (by dsimp only [fits]; omega) ?_
          | refine LA_addW rfl rfl rfl ?_)
      | (show LA _ _ _ _ (⟨_, .binOp .sub _ _ _ _, _, _, _, _⟩ :: _) _; first
          | refine LA_subF rfl rfl rfl (by dsimp only [fits]; omega) ?_
          | refine LA_subW rfl rfl rfl ?_)
      | (show LA _ _ _ _ (⟨_, .binOp .mul _ _ _ _, _, _, _, _⟩ :: _) _; first
          | refine LA_mulF rfl rfl rfl (by dsimp only [fits]; omega) ?_
          | refine LA_mulW rfl rfl rfl ?_)
      | (show LA _ _ _ _ (⟨_, .binOp .quo _ _ _ _, _, _, _, _⟩ :: _) _; first
          | refine LA_quo rfl rfl rfl (by omega) (by omega) (by dsimp only [fits]; omega) ?_)
      | (show LA _ _ _ _ (⟨_, .binOp .rem _ _ _ _, _, _, _, _⟩ :: _) _; first
          | refine LA_rem rfl rfl rfl (by omega) (by omega) (by dsimp only [fits]; omega) ?_)
      | (show LA _ _ _ _ (⟨_, .binOp .shr _ _ _ _, _, _, _, _⟩ :: _) _; first
          | (refine LA_shr rfl rfl rfl (by omega) (by dsimp only [IntKind.bits]; omega) ?_; try dsimp only [Int.reduceToNat, Int.reducePow]))
      | (show LA _ _ _ _ (⟨_, .binOp .shl _ _ _ _, _, _, _, _⟩ :: _) _; first
          | (refine LA_shl rfl rfl rfl (by omega) (by dsimp only [IntKind.bits]; omega) ?_; try dsimp only [Int.reduceToNat, Int.reducePow]))
      | (show LA _ _ _ _ (⟨_, .binOp _ _ _ _ _, _, _, _, _⟩ :: _) _; first
          | refine LA_cmpT rfl rfl rfl rfl (by first | (dsimp only [cmpP]; done) | (dsimp only [cmpP]; omega)) ?_
          | refine LA_cmpF rfl rfl rfl rfl (by dsimp only [cmpP]; omega) ?_
          | (refine LA_cmp rfl rfl rfl rfl (fun hc => ?_) (fun hc => ?_) <;> dsimp only [cmpP] at hc)
          | refine LA_boolEqT rfl rfl rfl rfl (by first | rfl | assumption) ?_
          | refine LA_boolEqF rfl rfl rfl rfl (by first | assumption | decide) ?_
          | refine LA_boolEq rfl rfl rfl rfl ?_
          | refine LA_boolNeT rfl rfl rfl rfl (by first | assumption | decide) ?_
          | refine LA_boolNeF rfl rfl rfl rfl (by first | rfl | assumption) ?_
          | refine LA_boolNe rfl rfl rfl rfl ?_)
      | (show LA _ _ _ _ (⟨_, .indexAddr _ _ _, _, _, _, _⟩ :: _) _; first
          | refine LA_indexN rfl _ rfl (fun _ => rfl) rfl (by first | exact HasI.val (by assumption) | exact HasI.pred | exact HasI.own | exact HasI.ownV (by assumption)) rfl (by omega) ?_
          | (refine LA_index rfl _ rfl (fun _ => rfl) rfl (by first | exact HasI.val (by assumption) | exact HasI.pred | exact HasI.own | exact HasI.ownV (by assumption)) rfl (by omega) (by omega) ?_; try dsimp only [Int.reduceToNat]))
      | (show LA _ _ _ _ (⟨_, .load _ _, _, _, _, _⟩ :: _) _; first
          | refine LA_load rfl (fun _ => rfl) rfl ?_)
      | (show LA _ _ _ _ (⟨_, .convert _ _ _, _, _, _, _⟩ :: _) _; first
          | refine LA_convF rfl rfl rfl rfl (by dsimp only [fits]; omega) ?_
          | refine LA_conv rfl rfl rfl rfl ?_)
      | (show LA _ _ _ _ (⟨_, .slice _ _ _ _ _, _, _, _, _⟩ :: _) _; first
          | (refine LA_sliceL rfl _ rfl rfl (by first | exact (HasI.val (by assumption)).c | exact HasI.pred.c | exact HasC.val (by assumption) | exact HasC.pred | exact HasI.own.c | exact HasC.own | exact (HasI.ownV (by assumption)).c | exact HasC.ownV (by assumption)) rfl (by omega) (by omega) (by exact fun _ => rfl) ?_; try dsimp only [Int.reduceToNat, Int.toNat_natCast])
          | (refine LA_sliceH rfl _ rfl rfl (by first | exact (HasI.val (by assumption)).c | exact HasI.pred.c | exact HasC.val (by assumption) | exact HasC.pred | exact HasI.own.c | exact HasC.own | exact (HasI.ownV (by assumption)).c | exact HasC.ownV (by assumption)) rfl (by omega) (by omega) (by exact fun _ => rfl) ?_; try dsimp only [Int.reduceToNat, Int.toNat_natCast])
          | (refine LA_sliceLH rfl _ rfl rfl (by first | exact (HasI.val (by assumption)).c | exact HasI.pred.c | exact HasC.val (by assumption) | exact HasC.pred | exact HasI.own.c | exact HasC.own | exact (HasI.ownV (by assumption)).c | exact HasC.ownV (by assumption)) rfl rfl (by omega) (by omega) (by omega) (by exact fun _ => rfl) ?_; try dsimp only [Int.reduceToNat, Int.toNat_natCast]))
      | (show LA _ _ _ _ (⟨_, .call ⟨.builtin .len, _, _⟩, _, _, _, _⟩ :: _) _; first
          | refine LA_len rfl _ rfl rfl (by first | exact (HasI.val (by assumption)).c | exact HasI.pred.c | exact HasC.val (by assumption) | exact HasC.pred | exact HasI.own.c | exact HasC.own | exact (HasI.ownV (by assumption)).c | exact HasC.ownV (by assumption)) ?_)
      | (refine LA_nil (hK [] _ (LX_nil ?_)); clear hK K)
      | (refine LA_nil (hK _ ?_); clear hK K))
    | (show CX _ _ _ _ _ _; first
      | refine CX_seq ?_
      | refine CX_skip ?_
      | refine CX_block ?_
      | refine CX_exit ?_
      | refine CX_ret ?_
      | refine CX_condT rfl ?_
      | refine CX_condF rfl ?_
      | refine CX_region (by kernel_rfl) (fun K hK => ?_)
      | refine CX_regionA (by kernel_rfl) (by kernel_rfl) (fun K hK => ?_)
      | refine CX_label ?_
      | refine CX_scope ?_)
    | (show PX _ _ _ _ _; first
      | refine PX_then ?_
      | refine PX_thenX ?_
      | refine PX_thenR ?_
      | refine PX_blockN ?_
      | refine PX_blockR ?_
      | refine PX_blockX ?_
      | refine PX_blockO (by decide) ?_
      | refine PX_scopeN ?_
      | refine PX_scopeR ?_
      | refine PX_scopeX ?_)
    | (show LX _ _ _ _ _ _ _; first
      | refine LX_nil ?_))
  exact PX_retP rfl rfl (Ext.refl _) (fun _ _ _ h => h)
end
/-! ### A range turned round -/
def spanM (lo hi : Int) (i : Nat) : Bool := decide (lo ≤ i) && decide ((i : Int) < hi) && decide (i < 65536)
def fXor' (x y : Bool) : Bool := !(x == y)
theorem listS_nil (P : Nat → Bool) {a : Nat} : ∀ b, a ≤ b → (∀ i, a ≤ i → i < b → P i = false) → listS P b = listS P a
  | 0, h, _ => by obtain rfl : a = 0 := by omega
                  rfl
  | b + 1, h, hf => by
    rcases Nat.lt_or_ge b a with h1 | h1
    · obtain rfl : a = b + 1 := by omega
      rfl
    · rw [listS, listS_nil P b h1 (fun i g1 g2 => hf i g1 (by omega)), hf b h1 (by omega)]; simp
theorem span_row (L H : Nat) (h1 : L < H) (h2 : H ≤ 65536) : listS (chg (spanM L H)) 65537 = [(L : Int), (H : Int)] := by
  have hb : ∀ i, bel (spanM L H) i = (decide (L < i) && decide (i ≤ H)) := fun i => by
    cases i with
    | zero => rfl
    | succ i =>
      show spanM L H i = _
      unfold spanM
      rw [Bool.eq_iff_iff]; simp; omega
  have hc : ∀ i, chg (spanM L H) i = (decide (i = L) || decide (i = H)) := fun i => by
    unfold chg
    rw [hb]
    unfold spanM
    by_cases e1 : i = L
    · subst e1
      rw [decide_eq_true (by omega : ((i : Nat) : Int) ≤ i), decide_eq_true (by omega : ((i : Nat) : Int) < (H : Int)), decide_eq_true (by omega : i < 65536), decide_eq_false (by omega : ¬ i < i)]; simp
    · by_cases e2 : i = H
      · subst e2
        rw [decide_eq_false (by omega : ¬ ((i : Nat) : Int) < (i : Int)), decide_eq_true (by omega : L < i)]; simp
      · rw [decide_eq_false e1, decide_eq_false e2, show decide ((L : Int) ≤ i) = decide (L < i) by rw [decide_eq_decide]; omega, show decide ((i : Int) < (H : Int)) = decide (i ≤ H) by rw [decide_eq_decide]; omega]
        by_cases e3 : i ≤ H
        · rw [decide_eq_true (by omega : i < 65536)]; simp
        · rw [decide_eq_false e3]; simp
  rw [listS_nil _ (a := H + 1) 65537 (by omega) (fun i g1 _ => by rw [hc, decide_eq_false (by omega), decide_eq_false (by omega)]; rfl), listS, hc, decide_eq_true (rfl : H = H), Bool.or_true, if_pos rfl]
  rw [listS_nil _ (a := L + 1) H (by omega) (fun i g1 g2 => by rw [hc, decide_eq_false (by omega), decide_eq_false (by omega)]; rfl), listS, hc, decide_eq_true (rfl : L = L), Bool.true_or, if_pos rfl]
  rw [listS_nil _ (a := 0) L (by omega) (fun i _ g2 => by rw [hc, decide_eq_false (by omega), decide_eq_false (by omega)]; rfl)]
  rfl
theorem span_cut (lo hi : Int) : spanM lo hi 65536 = false := by simp [spanM]
theorem span_min (lo hi : Int) : ∀ i, spanM lo hi i = spanM (max lo 0) (min hi 65536) i := fun i => by
  unfold spanM
  rw [Bool.eq_iff_iff]; simp; omega
theorem el_run : El Try.prog 26 25 (runV 0 0) 2 4 := ⟨rfl, rfl, rfl, by decide⟩
theorem clone_run (w : World) (v : Value) (n : Nat) (cs : List Value) (h : SlC w v n 2 cs) (h1 : ∀ u ∈ cs, u.oneCell' = true) (hb : n * 4 ≤ 140737488355328) : Fc Try.prog 25 #[v] w (Ret w (.pred (ownC w.heap.size 25 2 n cs))) := by
  obtain ⟨h0, a, cap, rfl, hc, hm, hn, hcs⟩ := id h
  have hlen := h.len
  cases a with
  | none =>
    obtain rfl := hn rfl
    obtain rfl : n = 0 := by omega
    obtain rfl : cs = [] := List.eq_nil_of_length_eq_zero (by omega)
    refine Fc.of (args := [_]) Try.func25 rfl rfl Try.ntmps25 (Nat.le_of_ble_eq_true rfl) ?_
    repeat' (first
      | (show LA _ _ _ _ _ _; first
        | refine LA_pass rfl ?_
        | refine LA_binV (c := .bool true) rfl rfl rfl (fun _ => rfl) ?_
        | (show LA _ _ _ _ (⟨_, .move _, _, _, _, _⟩ :: _) _; first
            | refine LA_moveV rfl rfl ?_
            | refine LA_moveP rfl rfl ?_
            | refine LA_moveT rfl rfl ?_
            | refine LA_moveU rfl rfl ?_)
        | (show LA _ _ _ _ (⟨_, .assign _, _, _, _, _⟩ :: _) _; first
            | refine LA_assignV rfl rfl ?_
            | refine LA_assignP rfl rfl ?_
            | refine LA_assignT rfl rfl ?_)
        | (show LA _ _ _ _ (⟨_, .pick _ _ _, _, _, _, _⟩ :: _) _; first
            | refine LA_pickTV rfl rfl rfl ?_
            | refine LA_pickFV rfl rfl rfl ?_)
        | (show LA _ _ _ _ (⟨_, .unOp .not _ _, _, _, _, _⟩ :: _) _; first
            | refine LA_notT rfl rfl ?_
            | refine LA_notF rfl rfl ?_
            | refine LA_not rfl rfl ?_)
        | (show LA _ _ _ _ (⟨_, .extract _ _, _, _, _, _⟩ :: _) _; first
            | refine LA_ext0 rfl rfl ?_
            | refine LA_ext1 rfl rfl ?_
            | refine LA_ext30 rfl rfl ?_
            | refine LA_ext31 rfl rfl ?_
            | refine LA_ext32 rfl rfl ?_)
        | (show LA _ _ _ _ (⟨_, .binOp .add _ _ _ _, _, _, _, _⟩ :: _) _; first
            | refine LA_addF rfl rfl rfl (by dsimp only [fits]; omega) ?_
            | refine LA_addW rfl rfl rfl ?_)
        | (show LA _ _ _ _ (⟨_, .binOp .sub _ _ _ _, _, _, _, _⟩ :: _) _; first
            | refine LA_subF rfl rfl rfl (by dsimp only [fits]; omega) ?_
            | refine LA_subW rfl rfl rfl ?_)
        | (show LA _ _ _ _ (⟨_, .binOp .mul _ _ _ _, _, _, _, _⟩ :: _) _; first
            | refine LA_mulF rfl rfl rfl (by dsimp only [fits]; omega) ?_
            | refine LA_mulW rfl rfl rfl ?_)
        | (show LA _ _ _ _ (⟨_, .binOp .quo _ _ _ _, _, _, _, _⟩ :: _) _; first
            | refine LA_quo rfl rfl rfl (by omega) (by omega) (by dsimp only [fits]; omega) ?_)
        | (show LA _ _ _ _ (⟨_, .binOp .rem _ _ _ _, _, _, _, _⟩ :: _) _; first
            | refine LA_rem rfl rfl rfl (by omega) (by omega) (by dsimp only [fits]; omega) ?_)
        | (show LA _ _ _ _ (⟨_, .binOp .shr _ _ _ _, _, _, _, _⟩ :: _) _; first
            | (refine LA_shr rfl rfl rfl (by omega) (by dsimp only [IntKind.bits]; omega) ?_; try dsimp only [Int.reduceToNat, Int.reducePow]))
        | (show LA _ _ _ _ (⟨_, .binOp .shl _ _ _ _, _, _, _, _⟩ :: _) _; first
            | (refine LA_shl rfl rfl rfl (by omega) (by dsimp only [IntKind.bits]; omega) ?_; try dsimp only [Int.reduceToNat, Int.reducePow]))
        | (show LA _ _ _ _ (⟨_, .binOp _ _ _ _ _, _, _, _, _⟩ :: _) _; first
            | refine LA_cmpT rfl rfl rfl rfl (by first | (dsimp only [cmpP]; done) | (dsimp only [cmpP]; omega)) ?_
            | refine LA_cmpF rfl rfl rfl rfl (by dsimp only [cmpP]; omega) ?_
            | (refine LA_cmp rfl rfl rfl rfl (fun hc => ?_) (fun hc => ?_) <;> dsimp only [cmpP] at hc)
            | refine LA_boolEqT rfl rfl rfl rfl (by first | rfl | assumption) ?_
            | refine LA_boolEqF rfl rfl rfl rfl (by first | assumption | decide) ?_
            | refine LA_boolEq rfl rfl rfl rfl ?_
            | refine LA_boolNeT rfl rfl rfl rfl (by first | assumption | decide) ?_
            | refine LA_boolNeF rfl rfl rfl rfl (by first | rfl | assumption) ?_
            | refine LA_boolNe rfl rfl rfl rfl ?_)
        | (show LA _ _ _ _ (⟨_, .indexAddr _ _ _, _, _, _, _⟩ :: _) _; first
            | refine LA_indexN rfl _ rfl (fun _ => rfl) rfl (by first | exact HasI.val (by assumption) | exact HasI.pred | exact HasI.own | exact HasI.ownV (by assumption)) rfl (by omega) ?_
            | (refine LA_index rfl _ rfl (fun _ => rfl) rfl (by first | exact HasI.val (by assumption) | exact HasI.pred | exact HasI.own | exact HasI.ownV (by assumption)) rfl (by omega) (by omega) ?_; try dsimp only [Int.reduceToNat]))
        | (show LA _ _ _ _ (⟨_, .load _ _, _, _, _, _⟩ :: _) _; first
            | refine LA_load rfl (fun _ => rfl) rfl ?_)
        | (show LA _ _ _ _ (⟨_, .convert _ _ _, _, _, _, _⟩ :: _) _; first
            | refine LA_convF rfl rfl rfl rfl (by dsimp only [fits]; omega) ?_
            | refine LA_conv rfl rfl rfl rfl ?_)
        | (show LA _ _ _ _ (⟨_, .slice _ _ _ _ _, _, _, _, _⟩ :: _) _; first
            | (refine LA_sliceL rfl _ rfl rfl (by first | exact (HasI.val (by assumption)).c | exact HasI.pred.c | exact HasC.val (by assumption) | exact HasC.pred | exact HasI.own.c | exact HasC.own | exact (HasI.ownV (by assumption)).c | exact HasC.ownV (by assumption)) rfl (by omega) (by omega) (by exact fun _ => rfl) ?_; try dsimp only [Int.reduceToNat, Int.toNat_natCast])
            | (refine LA_sliceH rfl _ rfl rfl (by first | exact (HasI.val (by assumption)).c | exact HasI.pred.c | exact HasC.val (by assumption) | exact HasC.pred | exact HasI.own.c | exact HasC.own | exact (HasI.ownV (by assumption)).c | exact HasC.ownV (by assumption)) rfl (by omega) (by omega) (by exact fun _ => rfl) ?_; try dsimp only [Int.reduceToNat, Int.toNat_natCast])
            | (refine LA_sliceLH rfl _ rfl rfl (by first | exact (HasI.val (by assumption)).c | exact HasI.pred.c | exact HasC.val (by assumption) | exact HasC.pred | exact HasI.own.c | exact HasC.own | exact (HasI.ownV (by assumption)).c | exact HasC.ownV (by assumption)) rfl rfl (by omega) (by omega) (by omega) (by exact fun _ => rfl) ?_; try dsimp only [Int.reduceToNat, Int.toNat_natCast]))
        | (show LA _ _ _ _ (⟨_, .call ⟨.builtin .len, _, _⟩, _, _, _, _⟩ :: _) _; first
            | refine LA_len rfl _ rfl rfl (by first | exact (HasI.val (by assumption)).c | exact HasI.pred.c | exact HasC.val (by assumption) | exact HasC.pred | exact HasI.own.c | exact HasC.own | exact (HasI.ownV (by assumption)).c | exact HasC.ownV (by assumption)) ?_)
        | (refine LA_nil (hK [] _ (LX_nil ?_)); clear hK K)
        | (refine LA_nil (hK _ ?_); clear hK K))
      | (show CX _ _ _ _ _ _; first
        | refine CX_seq ?_
        | refine CX_skip ?_
        | refine CX_block ?_
        | refine CX_exit ?_
        | refine CX_ret ?_
        | refine CX_condT rfl ?_
        | refine CX_condF rfl ?_
        | refine CX_region (by kernel_rfl) (fun K hK => ?_)
        | refine CX_regionA (by kernel_rfl) (by kernel_rfl) (fun K hK => ?_)
        | refine CX_label ?_
        | refine CX_scope ?_)
      | (show PX _ _ _ _ _; first
        | refine PX_then ?_
        | refine PX_thenX ?_
        | refine PX_thenR ?_
        | refine PX_blockN ?_
        | refine PX_blockR ?_
        | refine PX_blockX ?_
        | refine PX_blockO (by decide) ?_
        | refine PX_scopeN ?_
        | refine PX_scopeR ?_
        | refine PX_scopeX ?_
        | exact PX_retP rfl rfl (Ext.refl _) (fun u w2 e2 hu => by obtain rfl : u = _ := hu; exact Own.nil))
      | (show LX _ _ _ _ _ _ _; first
        | refine LX_nil ?_))
  | some a =>
    refine Fc.of (args := [_]) Try.func25 rfl rfl Try.ntmps25 (Nat.le_of_ble_eq_true rfl) ?_
    repeat' (first
      | (show LA _ _ _ _ _ _; first
        | refine LA_pass rfl ?_
        | refine LA_binV (c := .bool false) rfl rfl rfl (fun _ => rfl) ?_
        | refine LA_lit0 25 (s := 2) rfl (fun _ => by kernel_rfl) ?_
        | (refine LA_stop (hK _ _ (LX_pick 5 rfl (fun v5 w5 e5 h5 => ?_))); clear hK K; have h6 := h.ext e5; have ho : Own w.heap.size _ _ w5 v5 0 [] := h5; refine LX_la (by kernel_rfl) (fun K hK => ?_))
        | (refine LA_stop (hK _ _ (LX_append rfl (by decide) el_run rfl ho rfl (HasC.val h6) h1 (by rw [Nat.zero_add]; unfold maxLen; omega) (by rw [Nat.zero_add]; exact hb) e5.size (fun v' w2 w3 he2 ho3 hg3 => ?_))); clear hK K; dsimp only [vals]; refine LX_la (by kernel_rfl) (fun K hK => ?_))
        | (show LA _ _ _ _ (⟨_, .move _, _, _, _, _⟩ :: _) _; first
            | refine LA_moveV rfl rfl ?_
            | refine LA_moveP rfl rfl ?_
            | refine LA_moveT rfl rfl ?_
            | refine LA_moveU rfl rfl ?_)
        | (show LA _ _ _ _ (⟨_, .assign _, _, _, _, _⟩ :: _) _; first
            | refine LA_assignV rfl rfl ?_
            | refine LA_assignP rfl rfl ?_
            | refine LA_assignT rfl rfl ?_)
        | (show LA _ _ _ _ (⟨_, .pick _ _ _, _, _, _, _⟩ :: _) _; first
            | refine LA_pickTV rfl rfl rfl ?_
            | refine LA_pickFV rfl rfl rfl ?_)
        | (show LA _ _ _ _ (⟨_, .unOp .not _ _, _, _, _, _⟩ :: _) _; first
            | refine LA_notT rfl rfl ?_
            | refine LA_notF rfl rfl ?_
            | refine LA_not rfl rfl ?_)
        | (show LA _ _ _ _ (⟨_, .extract _ _, _, _, _, _⟩ :: _) _; first
            | refine LA_ext0 rfl rfl ?_
            | refine LA_ext1 rfl rfl ?_
            | refine LA_ext30 rfl rfl ?_
            | refine LA_ext31 rfl rfl ?_
            | refine LA_ext32 rfl rfl ?_)
        | (show LA _ _ _ _ (⟨_, .binOp .add _ _ _ _, _, _, _, _⟩ :: _) _; first
            | refine LA_addF rfl rfl rfl (by dsimp only [fits]; omega) ?_
            | refine LA_addW rfl rfl rfl ?_)
        | (show LA _ _ _ _ (⟨_, .binOp .sub _ _ _ _, _, _, _, _⟩ :: _) _; first
            | refine LA_subF rfl rfl rfl (by dsimp only [fits]; omega) ?_
            | refine LA_subW rfl rfl rfl ?_)
        | (show LA _ _ _ _ (⟨_, .binOp .mul _ _ _ _, _, _, _, _⟩ :: _) _; first
            | refine LA_mulF rfl rfl rfl (by dsimp only [fits]; omega) ?_
            | refine LA_mulW rfl rfl rfl ?_)
        | (show LA _ _ _ _ (⟨_, .binOp .quo _ _ _ _, _, _, _, _⟩ :: _) _; first
            | refine LA_quo rfl rfl rfl (by omega) (by omega) (by dsimp only [fits]; omega) ?_)
        | (show LA _ _ _ _ (⟨_, .binOp .rem _ _ _ _, _, _, _, _⟩ :: _) _; first
            | refine LA_rem rfl rfl rfl (by omega) (by omega) (by dsimp only [fits]; omega) ?_)
        | (show LA _ _ _ _ (⟨_, .binOp .shr _ _ _ _, _, _, _, _⟩ :: _) _; first
            | (refine LA_shr rfl rfl rfl (by omega) (by dsimp only [IntKind.bits]; omega) ?_; try dsimp only [Int.reduceToNat, Int.reducePow]))
        | (show LA _ _ _ _ (⟨_, .binOp .shl _ _ _ _, _, _, _, _⟩ :: _) _; first
            | (refine LA_shl rfl rfl rfl (by omega) (by dsimp only [IntKind.bits]; omega) ?_; try dsimp only [Int.reduceToNat, Int.reducePow]))
        | (show LA _ _ _ _ (⟨_, .binOp _ _ _ _ _, _, _, _, _⟩ :: _) _; first
            | refine LA_cmpT rfl rfl rfl rfl (by first | (dsimp only [cmpP]; done) | (dsimp only [cmpP]; omega)) ?_
            | refine LA_cmpF rfl rfl rfl rfl (by dsimp only [cmpP]; omega) ?_
            | (refine LA_cmp rfl rfl rfl rfl (fun hc => ?_) (fun hc => ?_) <;> dsimp only [cmpP] at hc)
            | refine LA_boolEqT rfl rfl rfl rfl (by first | rfl | assumption) ?_
            | refine LA_boolEqF rfl rfl rfl rfl (by first | assumption | decide) ?_
            | refine LA_boolEq rfl rfl rfl rfl ?_
            | refine LA_boolNeT rfl rfl rfl rfl (by first | assumption | decide) ?_
            | refine LA_boolNeF rfl rfl rfl rfl (by first | rfl | assumption) ?_
            | refine LA_boolNe rfl rfl rfl rfl ?_)
        | (show LA _ _ _ _ (⟨_, .indexAddr _ _ _, _, _, _, _⟩ :: _) _; first
            | refine LA_indexN rfl _ rfl (fun _ => rfl) rfl (by first | exact HasI.val (by assumption) | exact HasI.pred | exact HasI.own | exact HasI.ownV (by assumption)) rfl (by omega) ?_
            | (refine LA_index rfl _ rfl (fun _ => rfl) rfl (by first | exact HasI.val (by assumption) | exact HasI.pred | exact HasI.own | exact HasI.ownV (by assumption)) rfl (by omega) (by omega) ?_; try dsimp only [Int.reduceToNat]))
        | (show LA _ _ _ _ (⟨_, .load _ _, _, _, _, _⟩ :: _) _; first
            | refine LA_load rfl (fun _ => rfl) rfl ?_)
        | (show LA _ _ _ _ (⟨_, .convert _ _ _, _, _, _, _⟩ :: _) _; first
            | refine LA_convF rfl rfl rfl rfl (by dsimp only [fits]; omega) ?_
            | refine LA_conv rfl rfl rfl rfl ?_)
        | (show LA _ _ _ _ (⟨_, .slice _ _ _ _ _, _, _, _, _⟩ :: _) _; first
            | (refine LA_sliceL rfl _ rfl rfl (by first | exact (HasI.val (by assumption)).c | exact HasI.pred.c | exact HasC.val (by assumption) | exact HasC.pred | exact HasI.own.c | exact HasC.own | exact (HasI.ownV (by assumption)).c | exact HasC.ownV (by assumption)) rfl (by omega) (by omega) (by exact fun _ => rfl) ?_; try dsimp only [Int.reduceToNat, Int.toNat_natCast])
            | (refine LA_sliceH rfl _ rfl rfl (by first | exact (HasI.val (by assumption)).c | exact HasI.pred.c | exact HasC.val (by assumption) | exact HasC.pred | exact HasI.own.c | exact HasC.own | exact (HasI.ownV (by assumption)).c | exact HasC.ownV (by assumption)) rfl (by omega) (by omega) (by exact fun _ => rfl) ?_; try dsimp only [Int.reduceToNat, Int.toNat_natCast])
            | (refine LA_sliceLH rfl _ rfl rfl (by first | exact (HasI.val (by assumption)).c | exact HasI.pred.c | exact HasC.val (by assumption) | exact HasC.pred | exact HasI.own.c | exact HasC.own | exact (HasI.ownV (by assumption)).c | exact HasC.ownV (by assumption)) rfl rfl (by omega) (by omega) (by omega) (by exact fun _ => rfl) ?_; try dsimp only [Int.reduceToNat, Int.toNat_natCast]))
        | (show LA _ _ _ _ (⟨_, .call ⟨.builtin .len, _, _⟩, _, _, _, _⟩ :: _) _; first
            | refine LA_len rfl _ rfl rfl (by first | exact (HasI.val (by assumption)).c | exact HasI.pred.c | exact HasC.val (by assumption) | exact HasC.pred | exact HasI.own.c | exact HasC.own | exact (HasI.ownV (by assumption)).c | exact HasC.ownV (by assumption)) ?_)
        | (refine LA_nil (hK [] _ (LX_nil ?_)); clear hK K)
        | (refine LA_nil (hK _ ?_); clear hK K))
      | (show CX _ _ _ _ _ _; first
        | refine CX_seq ?_
        | refine CX_skip ?_
        | refine CX_block ?_
        | refine CX_exit ?_
        | refine CX_ret ?_
        | refine CX_condT rfl ?_
        | refine CX_condF rfl ?_
        | refine CX_region (by kernel_rfl) (fun K hK => ?_)
        | refine CX_regionA (by kernel_rfl) (by kernel_rfl) (fun K hK => ?_)
        | refine CX_label ?_
        | refine CX_scope ?_)
      | (show PX _ _ _ _ _; first
        | refine PX_then ?_
        | refine PX_thenX ?_
        | refine PX_thenR ?_
        | refine PX_blockN ?_
        | refine PX_blockR ?_
        | refine PX_blockX ?_
        | refine PX_blockO (by decide) ?_
        | refine PX_scopeN ?_
        | refine PX_scopeR ?_
        | refine PX_scopeX ?_)
      | (show LX _ _ _ _ _ _ _; first
        | refine LX_nil ?_))
    exact PX_retP rfl rfl ((e5.trans he2).grown hg3 (fun q hq => (Own.lt ho q hq).1)) (fun u w4 e4 hu => by
      obtain rfl : u = _ := hu
      have h9 : Own w.heap.size 25 2 w3 u n cs := by simpa using ho3
      exact h9.ext e4)

set_option maxHeartbeats 2000000 in
theorem rflip_c (w : World) (v : Value) (p : Nat → Bool) (lo hi : Int) (hp : p 65536 = false) (h : SlR w v (runsL p)) (hlo : -9223372036854775808 ≤ lo ∧ lo < 9223372036854775808) (hhi : -9223372036854775808 ≤ hi ∧ hi < 9223372036854775808) :
    Fc Try.prog 12 #[v, .int .i64 lo, .int .i64 hi] w (Ret w (.pred (ownR w.heap.size 25 (runsL (two fXor' p (spanM lo hi)))))) := by
  refine Fc.of (args := [_, _, _]) Try.func12 rfl rfl Try.ntmps12 (Nat.le_of_ble_eq_true rfl) ?_
  obtain ⟨L, hL⟩ : ∃ L : Nat, max lo 0 = L := ⟨(max lo 0).toNat, by omega⟩
  obtain ⟨H, hH⟩ : ∃ H : Int, min hi 65536 = H := ⟨_, rfl⟩
  have hsp : ∀ i, spanM lo hi i = spanM L H i := fun i => by rw [span_min, hL, hH]
  have hlen := runsL_len p
  by_cases hLH : (L : Int) ≥ H
  · have e : runsL (two fXor' p (spanM lo hi)) = runsL p := runsL_congr fun i _ => by
      have : spanM lo hi i = false := by
        rw [hsp]; unfold spanM
        by_cases h1 : (L : Int) ≤ i
        · rw [decide_eq_false (by omega : ¬ (i : Int) < H)]; simp
        · rw [decide_eq_false h1]; simp
      unfold two fXor'; rw [this]; cases p i <;> rfl
    rw [e]
    repeat' (first
      | (show LA _ _ _ _ _ _; first
        | refine LA_pass rfl ?_
        | (refine LA_max2 rfl rfl rfl ?_; rw [hL])
        | (refine LA_min2 rfl rfl rfl ?_; rw [hH])
        | (show LA _ _ _ _ (⟨_, .move _, _, _, _, _⟩ :: _) _; first
            | refine LA_moveV rfl rfl ?_
            | refine LA_moveP rfl rfl ?_
            | refine LA_moveT rfl rfl ?_
            | refine LA_moveU rfl rfl ?_)
        | (show LA _ _ _ _ (⟨_, .assign _, _, _, _, _⟩ :: _) _; first
            | refine LA_assignV rfl rfl ?_
            | refine LA_assignP rfl rfl ?_
            | refine LA_assignT rfl rfl ?_)
        | (show LA _ _ _ _ (⟨_, .pick _ _ _, _, _, _, _⟩ :: _) _; first
            | refine LA_pickTV rfl rfl rfl ?_
            | refine LA_pickFV rfl rfl rfl ?_)
        | (show LA _ _ _ _ (⟨_, .unOp .not _ _, _, _, _, _⟩ :: _) _; first
            | refine LA_notT rfl rfl ?_
            | refine LA_notF rfl rfl ?_
            | refine LA_not rfl rfl ?_)
        | (show LA _ _ _ _ (⟨_, .extract _ _, _, _, _, _⟩ :: _) _; first
            | refine LA_ext0 rfl rfl ?_
            | refine LA_ext1 rfl rfl ?_
            | refine LA_ext30 rfl rfl ?_
            | refine LA_ext31 rfl rfl ?_
            | refine LA_ext32 rfl rfl ?_)
        | (show LA _ _ _ _ (⟨_, .binOp .add _ _ _ _, _, _, _, _⟩ :: _) _; first
            | refine LA_addF rfl rfl rfl (by dsimp only [fits]; omega) ?_
            | refine LA_addW rfl rfl rfl ?_)
        | (show LA _ _ _ _ (⟨_, .binOp .sub _ _ _ _, _, _, _, _⟩ :: _) _; first
            | refine LA_subF rfl rfl rfl (by dsimp only [fits]; omega) ?_
            | refine LA_subW rfl rfl rfl ?_)
        | (show LA _ _ _ _ (⟨_, .binOp .mul _ _ _ _, _, _, _, _⟩ :: _) _; first
            | refine LA_mulF rfl rfl rfl (by dsimp only [fits]; omega) ?_
            | refine LA_mulW rfl rfl rfl ?_)
        | (show LA _ _ _ _ (⟨_, .binOp .quo _ _ _ _, _, _, _, _⟩ :: _) _; first
            | refine LA_quo rfl rfl rfl (by omega) (by omega) (by dsimp only [fits]; omega) ?_)
        | (show LA _ _ _ _ (⟨_, .binOp .rem _ _ _ _, _, _, _, _⟩ :: _) _; first
            | refine LA_rem rfl rfl rfl (by omega) (by omega) (by dsimp only [fits]; omega) ?_)
        | (show LA _ _ _ _ (⟨_, .binOp .shr _ _ _ _, _, _, _, _⟩ :: _) _; first
            | (refine LA_shr rfl rfl rfl (by omega) (by dsimp only [IntKind.bits]; omega) ?_; try dsimp only [Int.reduceToNat, Int.reducePow]))
        | (show LA _ _ _ _ (⟨_, .binOp .shl _ _ _ _, _, _, _, _⟩ :: _) _; first
            | (refine LA_shl rfl rfl rfl (by omega) (by dsimp only [IntKind.bits]; omega) ?_; try dsimp only [Int.reduceToNat, Int.reducePow]))
        | (show LA _ _ _ _ (⟨_, .binOp _ _ _ _ _, _, _, _, _⟩ :: _) _; first
            | refine LA_cmpT rfl rfl rfl rfl (by first | (dsimp only [cmpP]; done) | (dsimp only [cmpP]; omega)) ?_
            | refine LA_cmpF rfl rfl rfl rfl (by dsimp only [cmpP]; omega) ?_
            | (refine LA_cmp rfl rfl rfl rfl (fun hc => ?_) (fun hc => ?_) <;> dsimp only [cmpP] at hc)
            | refine LA_boolEqT rfl rfl rfl rfl (by first | rfl | assumption) ?_
            | refine LA_boolEqF rfl rfl rfl rfl (by first | assumption | decide) ?_
            | refine LA_boolEq rfl rfl rfl rfl ?_
            | refine LA_boolNeT rfl rfl rfl rfl (by first | assumption | decide) ?_
            | refine LA_boolNeF rfl rfl rfl rfl (by first | rfl | assumption) ?_
            | refine LA_boolNe rfl rfl rfl rfl ?_)
        | (show LA _ _ _ _ (⟨_, .indexAddr _ _ _, _, _, _, _⟩ :: _) _; first
            | refine LA_indexN rfl _ rfl (fun _ => rfl) rfl (by first | exact HasI.val (by assumption) | exact HasI.pred | exact HasI.own | exact HasI.ownV (by assumption)) rfl (by omega) ?_
            | (refine LA_index rfl _ rfl (fun _ => rfl) rfl (by first | exact HasI.val (by assumption) | exact HasI.pred | exact HasI.own | exact HasI.ownV (by assumption)) rfl (by omega) (by omega) ?_; try dsimp only [Int.reduceToNat]))
        | (show LA _ _ _ _ (⟨_, .load _ _, _, _, _, _⟩ :: _) _; first
            | refine LA_load rfl (fun _ => rfl) rfl ?_)
        | (show LA _ _ _ _ (⟨_, .convert _ _ _, _, _, _, _⟩ :: _) _; first
            | refine LA_convF rfl rfl rfl rfl (by dsimp only [fits]; omega) ?_
            | refine LA_conv rfl rfl rfl rfl ?_)
        | (show LA _ _ _ _ (⟨_, .slice _ _ _ _ _, _, _, _, _⟩ :: _) _; first
            | (refine LA_sliceL rfl _ rfl rfl (by first | exact (HasI.val (by assumption)).c | exact HasI.pred.c | exact HasC.val (by assumption) | exact HasC.pred | exact HasI.own.c | exact HasC.own | exact (HasI.ownV (by assumption)).c | exact HasC.ownV (by assumption)) rfl (by omega) (by omega) (by exact fun _ => rfl) ?_; try dsimp only [Int.reduceToNat, Int.toNat_natCast])
            | (refine LA_sliceH rfl _ rfl rfl (by first | exact (HasI.val (by assumption)).c | exact HasI.pred.c | exact HasC.val (by assumption) | exact HasC.pred | exact HasI.own.c | exact HasC.own | exact (HasI.ownV (by assumption)).c | exact HasC.ownV (by assumption)) rfl (by omega) (by omega) (by exact fun _ => rfl) ?_; try dsimp only [Int.reduceToNat, Int.toNat_natCast])
            | (refine LA_sliceLH rfl _ rfl rfl (by first | exact (HasI.val (by assumption)).c | exact HasI.pred.c | exact HasC.val (by assumption) | exact HasC.pred | exact HasI.own.c | exact HasC.own | exact (HasI.ownV (by assumption)).c | exact HasC.ownV (by assumption)) rfl rfl (by omega) (by omega) (by omega) (by exact fun _ => rfl) ?_; try dsimp only [Int.reduceToNat, Int.toNat_natCast]))
        | (show LA _ _ _ _ (⟨_, .call ⟨.builtin .len, _, _⟩, _, _, _, _⟩ :: _) _; first
            | refine LA_len rfl _ rfl rfl (by first | exact (HasI.val (by assumption)).c | exact HasI.pred.c | exact HasC.val (by assumption) | exact HasC.pred | exact HasI.own.c | exact HasC.own | exact (HasI.ownV (by assumption)).c | exact HasC.ownV (by assumption)) ?_)
        | (show LA _ _ _ _ (⟨_, .call ⟨.value _, _, _⟩, _, _, _, _⟩ :: _) _; first
            | (show LA _ _ _ _ (⟨_, .call ⟨.value (.func 25), _, _⟩, _, _, _, _⟩ :: _) _; refine LA_call1 (f := 25) rfl rfl rfl  (.pred (ownC w.heap.size 25 2 (runsL p).length (cellsR (runsL p)))) (by intro u1 w e hu1; (try obtain rfl : u1 = _ := hu1); exact (clone_run _ _ _ _ (h.ext e) (cellsR_one _) (by omega)).mono (ret_baseC e.size)) ?_))
        | (refine LA_nil (hK [] _ (LX_nil ?_)); clear hK K)
        | (refine LA_nil (hK _ ?_); clear hK K))
      | (show CX _ _ _ _ _ _; first
        | refine CX_seq ?_
        | refine CX_skip ?_
        | refine CX_block ?_
        | refine CX_exit ?_
        | refine CX_ret ?_
        | refine CX_condT rfl ?_
        | refine CX_condF rfl ?_
        | refine CX_region (by kernel_rfl) (fun K hK => ?_)
        | refine CX_regionA (by kernel_rfl) (by kernel_rfl) (fun K hK => ?_)
        | refine CX_label ?_
        | refine CX_scope ?_)
      | (show PX _ _ _ _ _; first
        | refine PX_then ?_
        | refine PX_thenX ?_
        | refine PX_thenR ?_
        | refine PX_blockN ?_
        | refine PX_blockR ?_
        | refine PX_blockX ?_
        | refine PX_blockO (by decide) ?_
        | refine PX_scopeN ?_
        | refine PX_scopeR ?_
        | refine PX_scopeX ?_)
      | (show LX _ _ _ _ _ _ _; first
        | refine LX_nil ?_))
    exact PX_retP rfl rfl (Ext.refl _) (fun _ _ _ h => h)
  · obtain ⟨H', rfl⟩ := Int.eq_ofNat_of_zero_le (by omega : 0 ≤ H)
    have er := span_row L H' (by omega) (by omega)
    have hsc : spanM L H' 65536 = false := span_cut _ _
    have e : runsL (two fXor' p (spanM lo hi)) = runsL (two fXor' p (spanM L H')) := runsL_congr fun i _ => by unfold two; rw [hsp]
    rw [e]
    repeat' (first
      | (show LA _ _ _ _ _ _; first
        | refine LA_pass rfl ?_
        | (refine LA_max2 rfl rfl rfl ?_; rw [hL])
        | (refine LA_min2 rfl rfl rfl ?_; rw [hH])
        | refine LA_two rfl int_el rfl rfl rfl rfl ?_
        | (show LA _ _ _ _ (⟨_, .call ⟨.value (.func 18), _, _⟩, _, _, _, _⟩ :: _) _; refine LA_call3 (f := 18) rfl rfl rfl rfl rfl  (.pred (ownR w.heap.size 25 (runsL (two fXor' p (spanM L H'))))) (by intro u1 u2 u3 w e hu1 hu2 hu3; (try obtain rfl : u1 = _ := hu1); (try obtain rfl : u2 = _ := hu2); (try obtain rfl : u3 = _ := hu3); exact (edges_c fXor' _ rflip1_c rfl _ _ _ p (spanM L H') hp hsc (OwnI.slI hu1) (by rw [er]; exact Own.slC hu2)).mono (ret_baseR e.size rfl)) ?_)
        | (show LA _ _ _ _ (⟨_, .move _, _, _, _, _⟩ :: _) _; first
            | refine LA_moveV rfl rfl ?_
            | refine LA_moveP rfl rfl ?_
            | refine LA_moveT rfl rfl ?_
            | refine LA_moveU rfl rfl ?_)
        | (show LA _ _ _ _ (⟨_, .assign _, _, _, _, _⟩ :: _) _; first
            | refine LA_assignV rfl rfl ?_
            | refine LA_assignP rfl rfl ?_
            | refine LA_assignT rfl rfl ?_)
        | (show LA _ _ _ _ (⟨_, .pick _ _ _, _, _, _, _⟩ :: _) _; first
            | refine LA_pickTV rfl rfl rfl ?_
            | refine LA_pickFV rfl rfl rfl ?_)
        | (show LA _ _ _ _ (⟨_, .unOp .not _ _, _, _, _, _⟩ :: _) _; first
            | refine LA_notT rfl rfl ?_
            | refine LA_notF rfl rfl ?_
            | refine LA_not rfl rfl ?_)
        | (show LA _ _ _ _ (⟨_, .extract _ _, _, _, _, _⟩ :: _) _; first
            | refine LA_ext0 rfl rfl ?_
            | refine LA_ext1 rfl rfl ?_
            | refine LA_ext30 rfl rfl ?_
            | refine LA_ext31 rfl rfl ?_
            | refine LA_ext32 rfl rfl ?_)
        | (show LA _ _ _ _ (⟨_, .binOp .add _ _ _ _, _, _, _, _⟩ :: _) _; first
            | refine LA_addF rfl rfl rfl (by dsimp only [fits]; omega) ?_
            | refine LA_addW rfl rfl rfl ?_)
        | (show LA _ _ _ _ (⟨_, .binOp .sub _ _ _ _, _, _, _, _⟩ :: _) _; first
            | refine LA_subF rfl rfl rfl (by dsimp only [fits]; omega) ?_
            | refine LA_subW rfl rfl rfl ?_)
        | (show LA _ _ _ _ (⟨_, .binOp .mul _ _ _ _, _, _, _, _⟩ :: _) _; first
            | refine LA_mulF rfl rfl rfl (by dsimp only [fits]; omega) ?_
            | refine LA_mulW rfl rfl rfl ?_)
        | (show LA _ _ _ _ (⟨_, .binOp .quo _ _ _ _, _, _, _, _⟩ :: _) _; first
            | refine LA_quo rfl rfl rfl (by omega) (by omega) (by dsimp only [fits]; omega) ?_)
        | (show LA _ _ _ _ (⟨_, .binOp .rem _ _ _ _, _, _, _, _⟩ :: _) _; first
            | refine LA_rem rfl rfl rfl (by omega) (by omega) (by dsimp only [fits]; omega) ?_)
        | (show LA _ _ _ _ (⟨_, .binOp .shr _ _ _ _, _, _, _, _⟩ :: _) _; first
            | (refine LA_shr rfl rfl rfl (by omega) (by dsimp only [IntKind.bits]; omega) ?_; try dsimp only [Int.reduceToNat, Int.reducePow]))
        | (show LA _ _ _ _ (⟨_, .binOp .shl _ _ _ _, _, _, _, _⟩ :: _) _; first
            | (refine LA_shl rfl rfl rfl (by omega) (by dsimp only [IntKind.bits]; omega) ?_; try dsimp only [Int.reduceToNat, Int.reducePow]))
        | (show LA _ _ _ _ (⟨_, .binOp _ _ _ _ _, _, _, _, _⟩ :: _) _; first
            | refine LA_cmpT rfl rfl rfl rfl (by first | (dsimp only [cmpP]; done) | (dsimp only [cmpP]; omega)) ?_
            | refine LA_cmpF rfl rfl rfl rfl (by dsimp only [cmpP]; omega) ?_
            | (refine LA_cmp rfl rfl rfl rfl (fun hc => ?_) (fun hc => ?_) <;> dsimp only [cmpP] at hc)
            | refine LA_boolEqT rfl rfl rfl rfl (by first | rfl | assumption) ?_
            | refine LA_boolEqF rfl rfl rfl rfl (by first | assumption | decide) ?_
            | refine LA_boolEq rfl rfl rfl rfl ?_
            | refine LA_boolNeT rfl rfl rfl rfl (by first | assumption | decide) ?_
            | refine LA_boolNeF rfl rfl rfl rfl (by first | rfl | assumption) ?_
            | refine LA_boolNe rfl rfl rfl rfl ?_)
        | (show LA _ _ _ _ (⟨_, .indexAddr _ _ _, _, _, _, _⟩ :: _) _; first
            | refine LA_indexN rfl _ rfl (fun _ => rfl) rfl (by first | exact HasI.val (by assumption) | exact HasI.pred | exact HasI.own | exact HasI.ownV (by assumption)) rfl (by omega) ?_
            | (refine LA_index rfl _ rfl (fun _ => rfl) rfl (by first | exact HasI.val (by assumption) | exact HasI.pred | exact HasI.own | exact HasI.ownV (by assumption)) rfl (by omega) (by omega) ?_; try dsimp only [Int.reduceToNat]))
        | (show LA _ _ _ _ (⟨_, .load _ _, _, _, _, _⟩ :: _) _; first
            | refine LA_load rfl (fun _ => rfl) rfl ?_)
        | (show LA _ _ _ _ (⟨_, .convert _ _ _, _, _, _, _⟩ :: _) _; first
            | refine LA_convF rfl rfl rfl rfl (by dsimp only [fits]; omega) ?_
            | refine LA_conv rfl rfl rfl rfl ?_)
        | (show LA _ _ _ _ (⟨_, .slice _ _ _ _ _, _, _, _, _⟩ :: _) _; first
            | (refine LA_sliceL rfl _ rfl rfl (by first | exact (HasI.val (by assumption)).c | exact HasI.pred.c | exact HasC.val (by assumption) | exact HasC.pred | exact HasI.own.c | exact HasC.own | exact (HasI.ownV (by assumption)).c | exact HasC.ownV (by assumption)) rfl (by omega) (by omega) (by exact fun _ => rfl) ?_; try dsimp only [Int.reduceToNat, Int.toNat_natCast])
            | (refine LA_sliceH rfl _ rfl rfl (by first | exact (HasI.val (by assumption)).c | exact HasI.pred.c | exact HasC.val (by assumption) | exact HasC.pred | exact HasI.own.c | exact HasC.own | exact (HasI.ownV (by assumption)).c | exact HasC.ownV (by assumption)) rfl (by omega) (by omega) (by exact fun _ => rfl) ?_; try dsimp only [Int.reduceToNat, Int.toNat_natCast])
            | (refine LA_sliceLH rfl _ rfl rfl (by first | exact (HasI.val (by assumption)).c | exact HasI.pred.c | exact HasC.val (by assumption) | exact HasC.pred | exact HasI.own.c | exact HasC.own | exact (HasI.ownV (by assumption)).c | exact HasC.ownV (by assumption)) rfl rfl (by omega) (by omega) (by omega) (by exact fun _ => rfl) ?_; try dsimp only [Int.reduceToNat, Int.toNat_natCast]))
        | (show LA _ _ _ _ (⟨_, .call ⟨.builtin .len, _, _⟩, _, _, _, _⟩ :: _) _; first
            | refine LA_len rfl _ rfl rfl (by first | exact (HasI.val (by assumption)).c | exact HasI.pred.c | exact HasC.val (by assumption) | exact HasC.pred | exact HasI.own.c | exact HasC.own | exact (HasI.ownV (by assumption)).c | exact HasC.ownV (by assumption)) ?_)
        | (show LA _ _ _ _ (⟨_, .call ⟨.value _, _, _⟩, _, _, _, _⟩ :: _) _; first
            | (show LA _ _ _ _ (⟨_, .call ⟨.value (.func 19), _, _⟩, _, _, _, _⟩ :: _) _; refine LA_call1 (f := 19) rfl rfl rfl  (.pred (ownI w.heap.size 3 .i64 (listS (chg p) 65537))) (by intro u1 w e hu1; (try obtain rfl : u1 = _ := hu1); exact (row_of _ _ p hp (h.ext e)).mono (ret_base e.size)) ?_))
        | (refine LA_nil (hK [] _ (LX_nil ?_)); clear hK K)
        | (refine LA_nil (hK _ ?_); clear hK K))
      | (show CX _ _ _ _ _ _; first
        | refine CX_seq ?_
        | refine CX_skip ?_
        | refine CX_block ?_
        | refine CX_exit ?_
        | refine CX_ret ?_
        | refine CX_condT rfl ?_
        | refine CX_condF rfl ?_
        | refine CX_region (by kernel_rfl) (fun K hK => ?_)
        | refine CX_regionA (by kernel_rfl) (by kernel_rfl) (fun K hK => ?_)
        | refine CX_label ?_
        | refine CX_scope ?_)
      | (show PX _ _ _ _ _; first
        | refine PX_then ?_
        | refine PX_thenX ?_
        | refine PX_thenR ?_
        | refine PX_blockN ?_
        | refine PX_blockR ?_
        | refine PX_blockX ?_
        | refine PX_blockO (by decide) ?_
        | refine PX_scopeN ?_
        | refine PX_scopeR ?_
        | refine PX_scopeX ?_)
      | (show LX _ _ _ _ _ _ _; first
        | refine LX_nil ?_))
    exact PX_retP rfl rfl (Ext.refl _) (fun _ _ _ h => h)
end Go.Proofs.Ythcpljmibcacaaa
