import Derived.Test.YthcpljmibcacaaaDoorD1
import Derived.Laws.StructEq

set_option linter.unusedSimpArgs false
set_option linter.unusedVariables false
namespace Go.Proofs.YthcpljmibcacaaaDoor
open Go.LA Go.ArrP Go.RowKit
theorem eqR_run (f m f' m' : Int) (w : World) : (Op.equalIn 10000 71 (runV f m) (runV f' m')).run Tryd.prog w = .ok (decide (f = f') && decide (m = m')) w := by
  unfold runV
  rw [run_equalIn_agg w 9999 71 _ _ (by kernel_rfl) (by kernel_rfl)]
  have hp : ∀ (f m : Int) (w : World), (part 30 #[.int .u16 f, .int .u16 m] 0).run Tryd.prog w = .ok (.int .u16 f) w := fun f m w => by kernel_rfl
  have hq : ∀ (f m : Int) (w : World), (part 30 #[.int .u16 f, .int .u16 m] 1).run Tryd.prog w = .ok (.int .u16 m) w := fun f m w => by kernel_rfl
  have he : ∀ (a b : Int) (w : World), (Op.equalIn 9999 30 (.int .u16 a) (.int .u16 b)).run Tryd.prog w = .ok (a == b) w := fun a b w => run_equalIn_int w 9998 _ _ _ a b (by kernel_rfl : Tryd.prog.underlying 30 = some (.int .u16))
  simp only [Program.fieldsOf, Tryd.underlying71]
  simp only [Op.eqFields, Sem.run_bind, Sem.run_ite, hp, hq, he, Result.andThen_ok, Sem.run_pure]
  by_cases h1 : f = f' <;> by_cases h2 : m = m' <;> simp [h1, h2]
theorem neR_op (f m f' m' : Int) (x y : Operand) (w : World) : (do eqGuard .neq 71 x y (runV f m) (runV f' m'); binOp .neq 71 (runV f m) (runV f' m') : Sem Value).run Tryd.prog w = .ok (.bool (!(decide (f = f') && decide (m = m')))) w := by
  have h := eqR_run f m f' m' w
  unfold runV at h ⊢
  rw [Sem.run_bind, run_eqGuard_agg w _ _ _ _ _ _ (by kernel_rfl)]
  simp only [Result.andThen_ok, run_neq_struct, h]
theorem eqR_op (f m f' m' : Int) (x y : Operand) (w : World) : (do eqGuard .eql 71 x y (runV f m) (runV f' m'); binOp .eql 71 (runV f m) (runV f' m') : Sem Value).run Tryd.prog w = .ok (.bool (decide (f = f') && decide (m = m'))) w := by
  have h := eqR_run f m f' m' w
  unfold runV at h ⊢
  rw [Sem.run_bind, run_eqGuard_agg w _ _ _ _ _ _ (by kernel_rfl)]
  simp only [Result.andThen_ok, run_eql_struct, h]
/-! ### Same -/
theorem runs_ext {a b : List Rn} (hl : a.length = b.length) (h : ∀ k, k < a.length → fst a k = fst b k ∧ mor a k = mor b k) : a = b :=
  List.ext_getElem hl fun i h1 h2 => by
    obtain ⟨e1, e2⟩ := h i h1
    unfold fst at e1; unfold mor at e2
    have g1 : a.getD i (0, 0) = a[i] := by simp [List.getD, h1]
    have g2 : b.getD i (0, 0) = b[i] := by simp [List.getD, h2]
    rw [g1, g2] at e1 e2
    exact Prod.ext e1 e2

/-! ### Both, either, the rest, just one -/
theorem ror1_c (x y : Bool) (w : World) : Fc Tryd.prog 65 #[.bool x, .bool y] w (Ret w (.val (.bool (x || y)))) := by
  cases x <;> cases y
  all_goals
    refine Fc.of (args := [_, _]) Tryd.func65 rfl rfl Tryd.ntmps65 (Nat.le_of_ble_eq_true rfl) ?_
    repeat' (first
     |(refine oLA ?_;first
     |refine LA_pass rfl ?_|(refine oM ?_;first|refine LA_moveV rfl rfl ?_|refine LA_moveP rfl rfl ?_|refine LA_moveT rfl rfl ?_|refine LA_moveU rfl rfl ?_)|(refine oA ?_;first|refine LA_assignV rfl rfl ?_|refine LA_assignP rfl rfl ?_|refine LA_assignT rfl rfl ?_)|(refine oP ?_;first|refine LA_pickTV rfl rfl rfl ?_|refine LA_pickFV rfl rfl rfl ?_)|(refine oN ?_;first|refine LA_notT rfl rfl ?_|refine LA_notF rfl rfl ?_|refine LA_not rfl rfl ?_)|(refine oX ?_;first|refine LA_ext0 rfl rfl ?_|refine LA_ext1 rfl rfl ?_|refine LA_ext30 rfl rfl ?_|refine LA_ext31 rfl rfl ?_|refine LA_ext32 rfl rfl ?_)|(refine oB .add ?_;first|refine stAdd rfl rfl rfl ?_|refine LA_addW rfl rfl rfl ?_)|(refine oB .sub ?_;first|refine stSub rfl rfl rfl ?_|refine LA_subW rfl rfl rfl ?_)|(refine oB .mul ?_;first|refine stMul rfl rfl rfl ?_|refine LA_mulW rfl rfl rfl ?_)|(refine oB .quo ?_;refine stQuo rfl rfl rfl ?_)|(refine oB .rem ?_;refine stRem rfl rfl rfl ?_)|(refine oB .shr ?_;refine stShr rfl rfl rfl ?_;try dsimp only [Int.reduceToNat, Int.reducePow])|(refine oB .shl ?_;refine stShl rfl rfl rfl ?_;try dsimp only [Int.reduceToNat, Int.reducePow])|(refine oB _ ?_;first|refine stT rfl rfl rfl rfl ?_|refine stF rfl rfl rfl rfl ?_|(refine LA_cmp rfl rfl rfl rfl (fun hc => ?_) (fun hc => ?_)<;>dsimp only [cmpP] at hc)|refine stBET rfl rfl rfl rfl ?_|refine stBEF rfl rfl rfl rfl ?_|refine LA_boolEq rfl rfl rfl rfl ?_|refine stBNT rfl rfl rfl rfl ?_|refine stBNF rfl rfl rfl rfl ?_|refine LA_boolNe rfl rfl rfl rfl ?_)|(refine oI ?_;first|refine stIN rfl _ rfl (fun _ => rfl) rfl rfl ?_|(refine stII rfl _ rfl (fun _ => rfl) rfl rfl ?_;try dsimp only [Int.reduceToNat]))|(refine oL ?_;refine LA_load rfl (fun _ => rfl) rfl ?_)|(refine oV ?_;first|refine stCnv rfl rfl rfl rfl ?_|refine LA_conv rfl rfl rfl rfl ?_)|(refine oS ?_;first|(refine stSL rfl _ rfl rfl rfl (fun _ => rfl) ?_;try dsimp only [Int.reduceToNat, Int.toNat_natCast])|(refine stSH rfl _ rfl rfl rfl (fun _ => rfl) ?_;try dsimp only [Int.reduceToNat, Int.toNat_natCast])|(refine stSLH rfl _ rfl rfl rfl rfl (fun _ => rfl) ?_;try dsimp only [Int.reduceToNat, Int.toNat_natCast]))|(refine oLen ?_;refine stLen rfl _ rfl rfl ?_)
     |(refine LA_nil (hK [] _ (LX_nil ?_));clear hK K)|(refine LA_nil (hK _ ?_);clear hK K))
     |(refine oCX ?_;first
     |refine CX_seq ?_|refine CX_skip ?_|refine CX_block ?_|refine CX_exit ?_|refine CX_ret ?_|refine CX_condT rfl ?_|refine CX_condF rfl ?_|refine CX_region (by kernel_rfl) (fun K hK => ?_)|refine CX_regionA (by kernel_rfl) (by kernel_rfl) (fun K hK => ?_)|refine CX_label ?_|refine CX_scope ?_)
     |(refine oPX ?_;first
     |refine PX_then ?_|refine PX_thenX ?_|refine PX_thenR ?_|refine PX_blockN ?_|refine PX_blockR ?_|refine PX_blockX ?_|refine PX_blockO (by decide) ?_|refine PX_scopeN ?_|refine PX_scopeR ?_|refine PX_scopeX ?_)
     |(refine oLX ?_;first
     |refine LX_nil ?_))
    exact PX_retE rfl rfl (Ext.refl _) rfl
theorem rand1_c (x y : Bool) (w : World) : Fc Tryd.prog 64 #[.bool x, .bool y] w (Ret w (.val (.bool (x && y)))) := by
  cases x <;> cases y
  all_goals
    refine Fc.of (args := [_, _]) Tryd.func64 rfl rfl Tryd.ntmps64 (Nat.le_of_ble_eq_true rfl) ?_
    repeat' (first
     |(refine oLA ?_;first
     |refine LA_pass rfl ?_|(refine oM ?_;first|refine LA_moveV rfl rfl ?_|refine LA_moveP rfl rfl ?_|refine LA_moveT rfl rfl ?_|refine LA_moveU rfl rfl ?_)|(refine oA ?_;first|refine LA_assignV rfl rfl ?_|refine LA_assignP rfl rfl ?_|refine LA_assignT rfl rfl ?_)|(refine oP ?_;first|refine LA_pickTV rfl rfl rfl ?_|refine LA_pickFV rfl rfl rfl ?_)|(refine oN ?_;first|refine LA_notT rfl rfl ?_|refine LA_notF rfl rfl ?_|refine LA_not rfl rfl ?_)|(refine oX ?_;first|refine LA_ext0 rfl rfl ?_|refine LA_ext1 rfl rfl ?_|refine LA_ext30 rfl rfl ?_|refine LA_ext31 rfl rfl ?_|refine LA_ext32 rfl rfl ?_)|(refine oB .add ?_;first|refine stAdd rfl rfl rfl ?_|refine LA_addW rfl rfl rfl ?_)|(refine oB .sub ?_;first|refine stSub rfl rfl rfl ?_|refine LA_subW rfl rfl rfl ?_)|(refine oB .mul ?_;first|refine stMul rfl rfl rfl ?_|refine LA_mulW rfl rfl rfl ?_)|(refine oB .quo ?_;refine stQuo rfl rfl rfl ?_)|(refine oB .rem ?_;refine stRem rfl rfl rfl ?_)|(refine oB .shr ?_;refine stShr rfl rfl rfl ?_;try dsimp only [Int.reduceToNat, Int.reducePow])|(refine oB .shl ?_;refine stShl rfl rfl rfl ?_;try dsimp only [Int.reduceToNat, Int.reducePow])|(refine oB _ ?_;first|refine stT rfl rfl rfl rfl ?_|refine stF rfl rfl rfl rfl ?_|(refine LA_cmp rfl rfl rfl rfl (fun hc => ?_) (fun hc => ?_)<;>dsimp only [cmpP] at hc)|refine stBET rfl rfl rfl rfl ?_|refine stBEF rfl rfl rfl rfl ?_|refine LA_boolEq rfl rfl rfl rfl ?_|refine stBNT rfl rfl rfl rfl ?_|refine stBNF rfl rfl rfl rfl ?_|refine LA_boolNe rfl rfl rfl rfl ?_)|(refine oI ?_;first|refine stIN rfl _ rfl (fun _ => rfl) rfl rfl ?_|(refine stII rfl _ rfl (fun _ => rfl) rfl rfl ?_;try dsimp only [Int.reduceToNat]))|(refine oL ?_;refine LA_load rfl (fun _ => rfl) rfl ?_)|(refine oV ?_;first|refine stCnv rfl rfl rfl rfl ?_|refine LA_conv rfl rfl rfl rfl ?_)|(refine oS ?_;first|(refine stSL rfl _ rfl rfl rfl (fun _ => rfl) ?_;try dsimp only [Int.reduceToNat, Int.toNat_natCast])|(refine stSH rfl _ rfl rfl rfl (fun _ => rfl) ?_;try dsimp only [Int.reduceToNat, Int.toNat_natCast])|(refine stSLH rfl _ rfl rfl rfl rfl (fun _ => rfl) ?_;try dsimp only [Int.reduceToNat, Int.toNat_natCast]))|(refine oLen ?_;refine stLen rfl _ rfl rfl ?_)
     |(refine LA_nil (hK [] _ (LX_nil ?_));clear hK K)|(refine LA_nil (hK _ ?_);clear hK K))
     |(refine oCX ?_;first
     |refine CX_seq ?_|refine CX_skip ?_|refine CX_block ?_|refine CX_exit ?_|refine CX_ret ?_|refine CX_condT rfl ?_|refine CX_condF rfl ?_|refine CX_region (by kernel_rfl) (fun K hK => ?_)|refine CX_regionA (by kernel_rfl) (by kernel_rfl) (fun K hK => ?_)|refine CX_label ?_|refine CX_scope ?_)
     |(refine oPX ?_;first
     |refine PX_then ?_|refine PX_thenX ?_|refine PX_thenR ?_|refine PX_blockN ?_|refine PX_blockR ?_|refine PX_blockX ?_|refine PX_blockO (by decide) ?_|refine PX_scopeN ?_|refine PX_scopeR ?_|refine PX_scopeX ?_)
     |(refine oLX ?_;first
     |refine LX_nil ?_))
    exact PX_retE rfl rfl (Ext.refl _) rfl
theorem rnot1_c (x y : Bool) (w : World) : Fc Tryd.prog 66 #[.bool x, .bool y] w (Ret w (.val (.bool (x && !y)))) := by
  cases x <;> cases y
  all_goals
    refine Fc.of (args := [_, _]) Tryd.func66 rfl rfl Tryd.ntmps66 (Nat.le_of_ble_eq_true rfl) ?_
    repeat' (first
     |(refine oLA ?_;first
     |refine LA_pass rfl ?_|(refine oM ?_;first|refine LA_moveV rfl rfl ?_|refine LA_moveP rfl rfl ?_|refine LA_moveT rfl rfl ?_|refine LA_moveU rfl rfl ?_)|(refine oA ?_;first|refine LA_assignV rfl rfl ?_|refine LA_assignP rfl rfl ?_|refine LA_assignT rfl rfl ?_)|(refine oP ?_;first|refine LA_pickTV rfl rfl rfl ?_|refine LA_pickFV rfl rfl rfl ?_)|(refine oN ?_;first|refine LA_notT rfl rfl ?_|refine LA_notF rfl rfl ?_|refine LA_not rfl rfl ?_)|(refine oX ?_;first|refine LA_ext0 rfl rfl ?_|refine LA_ext1 rfl rfl ?_|refine LA_ext30 rfl rfl ?_|refine LA_ext31 rfl rfl ?_|refine LA_ext32 rfl rfl ?_)|(refine oB .add ?_;first|refine stAdd rfl rfl rfl ?_|refine LA_addW rfl rfl rfl ?_)|(refine oB .sub ?_;first|refine stSub rfl rfl rfl ?_|refine LA_subW rfl rfl rfl ?_)|(refine oB .mul ?_;first|refine stMul rfl rfl rfl ?_|refine LA_mulW rfl rfl rfl ?_)|(refine oB .quo ?_;refine stQuo rfl rfl rfl ?_)|(refine oB .rem ?_;refine stRem rfl rfl rfl ?_)|(refine oB .shr ?_;refine stShr rfl rfl rfl ?_;try dsimp only [Int.reduceToNat, Int.reducePow])|(refine oB .shl ?_;refine stShl rfl rfl rfl ?_;try dsimp only [Int.reduceToNat, Int.reducePow])|(refine oB _ ?_;first|refine stT rfl rfl rfl rfl ?_|refine stF rfl rfl rfl rfl ?_|(refine LA_cmp rfl rfl rfl rfl (fun hc => ?_) (fun hc => ?_)<;>dsimp only [cmpP] at hc)|refine stBET rfl rfl rfl rfl ?_|refine stBEF rfl rfl rfl rfl ?_|refine LA_boolEq rfl rfl rfl rfl ?_|refine stBNT rfl rfl rfl rfl ?_|refine stBNF rfl rfl rfl rfl ?_|refine LA_boolNe rfl rfl rfl rfl ?_)|(refine oI ?_;first|refine stIN rfl _ rfl (fun _ => rfl) rfl rfl ?_|(refine stII rfl _ rfl (fun _ => rfl) rfl rfl ?_;try dsimp only [Int.reduceToNat]))|(refine oL ?_;refine LA_load rfl (fun _ => rfl) rfl ?_)|(refine oV ?_;first|refine stCnv rfl rfl rfl rfl ?_|refine LA_conv rfl rfl rfl rfl ?_)|(refine oS ?_;first|(refine stSL rfl _ rfl rfl rfl (fun _ => rfl) ?_;try dsimp only [Int.reduceToNat, Int.toNat_natCast])|(refine stSH rfl _ rfl rfl rfl (fun _ => rfl) ?_;try dsimp only [Int.reduceToNat, Int.toNat_natCast])|(refine stSLH rfl _ rfl rfl rfl rfl (fun _ => rfl) ?_;try dsimp only [Int.reduceToNat, Int.toNat_natCast]))|(refine oLen ?_;refine stLen rfl _ rfl rfl ?_)
     |(refine LA_nil (hK [] _ (LX_nil ?_));clear hK K)|(refine LA_nil (hK _ ?_);clear hK K))
     |(refine oCX ?_;first
     |refine CX_seq ?_|refine CX_skip ?_|refine CX_block ?_|refine CX_exit ?_|refine CX_ret ?_|refine CX_condT rfl ?_|refine CX_condF rfl ?_|refine CX_region (by kernel_rfl) (fun K hK => ?_)|refine CX_regionA (by kernel_rfl) (by kernel_rfl) (fun K hK => ?_)|refine CX_label ?_|refine CX_scope ?_)
     |(refine oPX ?_;first
     |refine PX_then ?_|refine PX_thenX ?_|refine PX_thenR ?_|refine PX_blockN ?_|refine PX_blockR ?_|refine PX_blockX ?_|refine PX_blockO (by decide) ?_|refine PX_scopeN ?_|refine PX_scopeR ?_|refine PX_scopeX ?_)
     |(refine oLX ?_;first
     |refine LX_nil ?_))
    exact PX_retE rfl rfl (Ext.refl _) rfl
theorem rxor1_c (x y : Bool) (w : World) : Fc Tryd.prog 67 #[.bool x, .bool y] w (Ret w (.val (.bool (!(x == y))))) := by
  cases x <;> cases y
  all_goals
    refine Fc.of (args := [_, _]) Tryd.func67 rfl rfl Tryd.ntmps67 (Nat.le_of_ble_eq_true rfl) ?_
    repeat' (first
     |(refine oLA ?_;first
     |refine LA_pass rfl ?_|(refine oM ?_;first|refine LA_moveV rfl rfl ?_|refine LA_moveP rfl rfl ?_|refine LA_moveT rfl rfl ?_|refine LA_moveU rfl rfl ?_)|(refine oA ?_;first|refine LA_assignV rfl rfl ?_|refine LA_assignP rfl rfl ?_|refine LA_assignT rfl rfl ?_)|(refine oP ?_;first|refine LA_pickTV rfl rfl rfl ?_|refine LA_pickFV rfl rfl rfl ?_)|(refine oN ?_;first|refine LA_notT rfl rfl ?_|refine LA_notF rfl rfl ?_|refine LA_not rfl rfl ?_)|(refine oX ?_;first|refine LA_ext0 rfl rfl ?_|refine LA_ext1 rfl rfl ?_|refine LA_ext30 rfl rfl ?_|refine LA_ext31 rfl rfl ?_|refine LA_ext32 rfl rfl ?_)|(refine oB .add ?_;first|refine stAdd rfl rfl rfl ?_|refine LA_addW rfl rfl rfl ?_)|(refine oB .sub ?_;first|refine stSub rfl rfl rfl ?_|refine LA_subW rfl rfl rfl ?_)|(refine oB .mul ?_;first|refine stMul rfl rfl rfl ?_|refine LA_mulW rfl rfl rfl ?_)|(refine oB .quo ?_;refine stQuo rfl rfl rfl ?_)|(refine oB .rem ?_;refine stRem rfl rfl rfl ?_)|(refine oB .shr ?_;refine stShr rfl rfl rfl ?_;try dsimp only [Int.reduceToNat, Int.reducePow])|(refine oB .shl ?_;refine stShl rfl rfl rfl ?_;try dsimp only [Int.reduceToNat, Int.reducePow])|(refine oB _ ?_;first|refine stT rfl rfl rfl rfl ?_|refine stF rfl rfl rfl rfl ?_|(refine LA_cmp rfl rfl rfl rfl (fun hc => ?_) (fun hc => ?_)<;>dsimp only [cmpP] at hc)|refine stBET rfl rfl rfl rfl ?_|refine stBEF rfl rfl rfl rfl ?_|refine LA_boolEq rfl rfl rfl rfl ?_|refine stBNT rfl rfl rfl rfl ?_|refine stBNF rfl rfl rfl rfl ?_|refine LA_boolNe rfl rfl rfl rfl ?_)|(refine oI ?_;first|refine stIN rfl _ rfl (fun _ => rfl) rfl rfl ?_|(refine stII rfl _ rfl (fun _ => rfl) rfl rfl ?_;try dsimp only [Int.reduceToNat]))|(refine oL ?_;refine LA_load rfl (fun _ => rfl) rfl ?_)|(refine oV ?_;first|refine stCnv rfl rfl rfl rfl ?_|refine LA_conv rfl rfl rfl rfl ?_)|(refine oS ?_;first|(refine stSL rfl _ rfl rfl rfl (fun _ => rfl) ?_;try dsimp only [Int.reduceToNat, Int.toNat_natCast])|(refine stSH rfl _ rfl rfl rfl (fun _ => rfl) ?_;try dsimp only [Int.reduceToNat, Int.toNat_natCast])|(refine stSLH rfl _ rfl rfl rfl rfl (fun _ => rfl) ?_;try dsimp only [Int.reduceToNat, Int.toNat_natCast]))|(refine oLen ?_;refine stLen rfl _ rfl rfl ?_)
     |(refine LA_nil (hK [] _ (LX_nil ?_));clear hK K)|(refine LA_nil (hK _ ?_);clear hK K))
     |(refine oCX ?_;first
     |refine CX_seq ?_|refine CX_skip ?_|refine CX_block ?_|refine CX_exit ?_|refine CX_ret ?_|refine CX_condT rfl ?_|refine CX_condF rfl ?_|refine CX_region (by kernel_rfl) (fun K hK => ?_)|refine CX_regionA (by kernel_rfl) (by kernel_rfl) (fun K hK => ?_)|refine CX_label ?_|refine CX_scope ?_)
     |(refine oPX ?_;first
     |refine PX_then ?_|refine PX_thenX ?_|refine PX_thenR ?_|refine PX_blockN ?_|refine PX_blockR ?_|refine PX_blockX ?_|refine PX_blockO (by decide) ?_|refine PX_scopeN ?_|refine PX_scopeR ?_|refine PX_scopeX ?_)
     |(refine oLX ?_;first
     |refine LX_nil ?_))
    exact PX_retE rfl rfl (Ext.refl _) rfl
theorem rflip1_c (x y : Bool) (w : World) : Fc Tryd.prog 70 #[.bool x, .bool y] w (Ret w (.val (.bool (!(x == y))))) := by
  cases x <;> cases y
  all_goals
    refine Fc.of (args := [_, _]) Tryd.func70 rfl rfl Tryd.ntmps70 (Nat.le_of_ble_eq_true rfl) ?_
    repeat' (first
     |(refine oLA ?_;first
     |refine LA_pass rfl ?_|(refine oM ?_;first|refine LA_moveV rfl rfl ?_|refine LA_moveP rfl rfl ?_|refine LA_moveT rfl rfl ?_|refine LA_moveU rfl rfl ?_)|(refine oA ?_;first|refine LA_assignV rfl rfl ?_|refine LA_assignP rfl rfl ?_|refine LA_assignT rfl rfl ?_)|(refine oP ?_;first|refine LA_pickTV rfl rfl rfl ?_|refine LA_pickFV rfl rfl rfl ?_)|(refine oN ?_;first|refine LA_notT rfl rfl ?_|refine LA_notF rfl rfl ?_|refine LA_not rfl rfl ?_)|(refine oX ?_;first|refine LA_ext0 rfl rfl ?_|refine LA_ext1 rfl rfl ?_|refine LA_ext30 rfl rfl ?_|refine LA_ext31 rfl rfl ?_|refine LA_ext32 rfl rfl ?_)|(refine oB .add ?_;first|refine stAdd rfl rfl rfl ?_|refine LA_addW rfl rfl rfl ?_)|(refine oB .sub ?_;first|refine stSub rfl rfl rfl ?_|refine LA_subW rfl rfl rfl ?_)|(refine oB .mul ?_;first|refine stMul rfl rfl rfl ?_|refine LA_mulW rfl rfl rfl ?_)|(refine oB .quo ?_;refine stQuo rfl rfl rfl ?_)|(refine oB .rem ?_;refine stRem rfl rfl rfl ?_)|(refine oB .shr ?_;refine stShr rfl rfl rfl ?_;try dsimp only [Int.reduceToNat, Int.reducePow])|(refine oB .shl ?_;refine stShl rfl rfl rfl ?_;try dsimp only [Int.reduceToNat, Int.reducePow])|(refine oB _ ?_;first|refine stT rfl rfl rfl rfl ?_|refine stF rfl rfl rfl rfl ?_|(refine LA_cmp rfl rfl rfl rfl (fun hc => ?_) (fun hc => ?_)<;>dsimp only [cmpP] at hc)|refine stBET rfl rfl rfl rfl ?_|refine stBEF rfl rfl rfl rfl ?_|refine LA_boolEq rfl rfl rfl rfl ?_|refine stBNT rfl rfl rfl rfl ?_|refine stBNF rfl rfl rfl rfl ?_|refine LA_boolNe rfl rfl rfl rfl ?_)|(refine oI ?_;first|refine stIN rfl _ rfl (fun _ => rfl) rfl rfl ?_|(refine stII rfl _ rfl (fun _ => rfl) rfl rfl ?_;try dsimp only [Int.reduceToNat]))|(refine oL ?_;refine LA_load rfl (fun _ => rfl) rfl ?_)|(refine oV ?_;first|refine stCnv rfl rfl rfl rfl ?_|refine LA_conv rfl rfl rfl rfl ?_)|(refine oS ?_;first|(refine stSL rfl _ rfl rfl rfl (fun _ => rfl) ?_;try dsimp only [Int.reduceToNat, Int.toNat_natCast])|(refine stSH rfl _ rfl rfl rfl (fun _ => rfl) ?_;try dsimp only [Int.reduceToNat, Int.toNat_natCast])|(refine stSLH rfl _ rfl rfl rfl rfl (fun _ => rfl) ?_;try dsimp only [Int.reduceToNat, Int.toNat_natCast]))|(refine oLen ?_;refine stLen rfl _ rfl rfl ?_)
     |(refine LA_nil (hK [] _ (LX_nil ?_));clear hK K)|(refine LA_nil (hK _ ?_);clear hK K))
     |(refine oCX ?_;first
     |refine CX_seq ?_|refine CX_skip ?_|refine CX_block ?_|refine CX_exit ?_|refine CX_ret ?_|refine CX_condT rfl ?_|refine CX_condF rfl ?_|refine CX_region (by kernel_rfl) (fun K hK => ?_)|refine CX_regionA (by kernel_rfl) (by kernel_rfl) (fun K hK => ?_)|refine CX_label ?_|refine CX_scope ?_)
     |(refine oPX ?_;first
     |refine PX_then ?_|refine PX_thenX ?_|refine PX_thenR ?_|refine PX_blockN ?_|refine PX_blockR ?_|refine PX_blockX ?_|refine PX_blockO (by decide) ?_|refine PX_scopeN ?_|refine PX_scopeR ?_|refine PX_scopeX ?_)
     |(refine oLX ?_;first
     |refine LX_nil ?_))
    exact PX_retE rfl rfl (Ext.refl _) rfl
theorem ret_baseC {w : World} {base base' e s n : Nat} {cs : List Value} (hb : base' ≤ base) (en : Ending) (w' : World) (h : Ret w (.pred (ownC base e s n cs)) en w') : Ret w (.pred (ownC base' e s n cs)) en w' := by
  obtain ⟨v, h1, h2, h3⟩ := h
  exact ⟨v, h1, h2, Own.base h3 hb⟩
theorem runsL_len (p : Nat → Bool) : (runsL p).length ≤ 65536 := by
  unfold runsL; rw [many_opn]; exact cnt_le _ _
theorem row_of (w : World) (v : Value) (p : Nat → Bool) (hp : p 65536 = false) (h : SlR w v (runsL p)) : Fc Tryd.prog 63 #[v] w (Ret w (.pred (ownI w.heap.size 3 .i64 (listS (chg p) 65537)))) := by
  have := row_c w v (runsL p) h (runs_u16 p) (by have := runsL_len p; omega)
  rwa [row_runs hp] at this
section
variable (w : World) (va vb : Value) (p q : Nat → Bool) (hp : p 65536 = false) (hq : q 65536 = false) (ha : SlR w va (runsL p)) (hb : SlR w vb (runsL q))
include hp hq ha hb
theorem rand_c : Fc Tryd.prog 39 #[va, vb] w (Ret w (.pred (ownR w.heap.size 71 (runsL (two (fun x y => x && y) p q))))) := by
  refine Fc.of (args := [_, _]) Tryd.func39 rfl rfl Tryd.ntmps39 (Nat.le_of_ble_eq_true rfl) ?_
  repeat' (first
   |(refine oLA ?_;first
   |refine LA_pass rfl ?_
   |(refine oD 6 ?_; refine oC 63 ?_; refine LA_call1 (f := 63) rfl rfl rfl  (.pred (ownI w.heap.size 3 .i64 (listS (chg p) 65537))) (by intro u1 w e hu1; (try obtain rfl : u1 = _ := hu1); exact (row_of _ _ p hp (ha.ext e)).mono (ret_base e.size)) ?_)
   |(refine oD 8 ?_; refine oC 63 ?_; refine LA_call1 (f := 63) rfl rfl rfl  (.pred (ownI w.heap.size 3 .i64 (listS (chg q) 65537))) (by intro u1 w e hu1; (try obtain rfl : u1 = _ := hu1); exact (row_of _ _ q hq (hb.ext e)).mono (ret_base e.size)) ?_)
   |(refine oC 62 ?_; refine LA_call3 (f := 62) rfl rfl rfl rfl rfl  (.pred (ownR w.heap.size 71 (runsL (two (fun x y => x && y) p q)))) (by intro u1 u2 u3 w e hu1 hu2 hu3; (try obtain rfl : u1 = _ := hu1); (try obtain rfl : u2 = _ := hu2); (try obtain rfl : u3 = _ := hu3); exact (edges_c (fun x y => x && y) _ rand1_c rfl _ _ _ p q hp hq (OwnI.slI hu1) (OwnI.slI hu2)).mono (ret_baseR e.size rfl)) ?_)|(refine oM ?_;first|refine LA_moveV rfl rfl ?_|refine LA_moveP rfl rfl ?_|refine LA_moveT rfl rfl ?_|refine LA_moveU rfl rfl ?_)|(refine oA ?_;first|refine LA_assignV rfl rfl ?_|refine LA_assignP rfl rfl ?_|refine LA_assignT rfl rfl ?_)|(refine oP ?_;first|refine LA_pickTV rfl rfl rfl ?_|refine LA_pickFV rfl rfl rfl ?_)|(refine oN ?_;first|refine LA_notT rfl rfl ?_|refine LA_notF rfl rfl ?_|refine LA_not rfl rfl ?_)|(refine oX ?_;first|refine LA_ext0 rfl rfl ?_|refine LA_ext1 rfl rfl ?_|refine LA_ext30 rfl rfl ?_|refine LA_ext31 rfl rfl ?_|refine LA_ext32 rfl rfl ?_)|(refine oB .add ?_;first|refine stAdd rfl rfl rfl ?_|refine LA_addW rfl rfl rfl ?_)|(refine oB .sub ?_;first|refine stSub rfl rfl rfl ?_|refine LA_subW rfl rfl rfl ?_)|(refine oB .mul ?_;first|refine stMul rfl rfl rfl ?_|refine LA_mulW rfl rfl rfl ?_)|(refine oB .quo ?_;refine stQuo rfl rfl rfl ?_)|(refine oB .rem ?_;refine stRem rfl rfl rfl ?_)|(refine oB .shr ?_;refine stShr rfl rfl rfl ?_;try dsimp only [Int.reduceToNat, Int.reducePow])|(refine oB .shl ?_;refine stShl rfl rfl rfl ?_;try dsimp only [Int.reduceToNat, Int.reducePow])|(refine oB _ ?_;first|refine stT rfl rfl rfl rfl ?_|refine stF rfl rfl rfl rfl ?_|(refine LA_cmp rfl rfl rfl rfl (fun hc => ?_) (fun hc => ?_)<;>dsimp only [cmpP] at hc)|refine stBET rfl rfl rfl rfl ?_|refine stBEF rfl rfl rfl rfl ?_|refine LA_boolEq rfl rfl rfl rfl ?_|refine stBNT rfl rfl rfl rfl ?_|refine stBNF rfl rfl rfl rfl ?_|refine LA_boolNe rfl rfl rfl rfl ?_)|(refine oI ?_;first|refine stIN rfl _ rfl (fun _ => rfl) rfl rfl ?_|(refine stII rfl _ rfl (fun _ => rfl) rfl rfl ?_;try dsimp only [Int.reduceToNat]))|(refine oL ?_;refine LA_load rfl (fun _ => rfl) rfl ?_)|(refine oV ?_;first|refine stCnv rfl rfl rfl rfl ?_|refine LA_conv rfl rfl rfl rfl ?_)|(refine oS ?_;first|(refine stSL rfl _ rfl rfl rfl (fun _ => rfl) ?_;try dsimp only [Int.reduceToNat, Int.toNat_natCast])|(refine stSH rfl _ rfl rfl rfl (fun _ => rfl) ?_;try dsimp only [Int.reduceToNat, Int.toNat_natCast])|(refine stSLH rfl _ rfl rfl rfl rfl (fun _ => rfl) ?_;try dsimp only [Int.reduceToNat, Int.toNat_natCast]))|(refine oLen ?_;refine stLen rfl _ rfl rfl ?_)
   |(refine LA_nil (hK [] _ (LX_nil ?_));clear hK K)|(refine LA_nil (hK _ ?_);clear hK K))
   |(refine oCX ?_;first
   |refine CX_seq ?_|refine CX_skip ?_|refine CX_block ?_|refine CX_exit ?_|refine CX_ret ?_|refine CX_condT rfl ?_|refine CX_condF rfl ?_|refine CX_region (by kernel_rfl) (fun K hK => ?_)|refine CX_regionA (by kernel_rfl) (by kernel_rfl) (fun K hK => ?_)|refine CX_label ?_|refine CX_scope ?_)
   |(refine oPX ?_;first
   |refine PX_then ?_|refine PX_thenX ?_|refine PX_thenR ?_|refine PX_blockN ?_|refine PX_blockR ?_|refine PX_blockX ?_|refine PX_blockO (by decide) ?_|refine PX_scopeN ?_|refine PX_scopeR ?_|refine PX_scopeX ?_)
   |(refine oLX ?_;first
   |refine LX_nil ?_))
  exact PX_retP rfl rfl (Ext.refl _) (fun _ _ _ h => h)
theorem ror_c : Fc Tryd.prog 40 #[va, vb] w (Ret w (.pred (ownR w.heap.size 71 (runsL (two (fun x y => x || y) p q))))) := by
  refine Fc.of (args := [_, _]) Tryd.func40 rfl rfl Tryd.ntmps40 (Nat.le_of_ble_eq_true rfl) ?_
  repeat' (first
   |(refine oLA ?_;first
   |refine LA_pass rfl ?_
   |(refine oD 6 ?_; refine oC 63 ?_; refine LA_call1 (f := 63) rfl rfl rfl  (.pred (ownI w.heap.size 3 .i64 (listS (chg p) 65537))) (by intro u1 w e hu1; (try obtain rfl : u1 = _ := hu1); exact (row_of _ _ p hp (ha.ext e)).mono (ret_base e.size)) ?_)
   |(refine oD 8 ?_; refine oC 63 ?_; refine LA_call1 (f := 63) rfl rfl rfl  (.pred (ownI w.heap.size 3 .i64 (listS (chg q) 65537))) (by intro u1 w e hu1; (try obtain rfl : u1 = _ := hu1); exact (row_of _ _ q hq (hb.ext e)).mono (ret_base e.size)) ?_)
   |(refine oC 62 ?_; refine LA_call3 (f := 62) rfl rfl rfl rfl rfl  (.pred (ownR w.heap.size 71 (runsL (two (fun x y => x || y) p q)))) (by intro u1 u2 u3 w e hu1 hu2 hu3; (try obtain rfl : u1 = _ := hu1); (try obtain rfl : u2 = _ := hu2); (try obtain rfl : u3 = _ := hu3); exact (edges_c (fun x y => x || y) _ ror1_c rfl _ _ _ p q hp hq (OwnI.slI hu1) (OwnI.slI hu2)).mono (ret_baseR e.size rfl)) ?_)|(refine oM ?_;first|refine LA_moveV rfl rfl ?_|refine LA_moveP rfl rfl ?_|refine LA_moveT rfl rfl ?_|refine LA_moveU rfl rfl ?_)|(refine oA ?_;first|refine LA_assignV rfl rfl ?_|refine LA_assignP rfl rfl ?_|refine LA_assignT rfl rfl ?_)|(refine oP ?_;first|refine LA_pickTV rfl rfl rfl ?_|refine LA_pickFV rfl rfl rfl ?_)|(refine oN ?_;first|refine LA_notT rfl rfl ?_|refine LA_notF rfl rfl ?_|refine LA_not rfl rfl ?_)|(refine oX ?_;first|refine LA_ext0 rfl rfl ?_|refine LA_ext1 rfl rfl ?_|refine LA_ext30 rfl rfl ?_|refine LA_ext31 rfl rfl ?_|refine LA_ext32 rfl rfl ?_)|(refine oB .add ?_;first|refine stAdd rfl rfl rfl ?_|refine LA_addW rfl rfl rfl ?_)|(refine oB .sub ?_;first|refine stSub rfl rfl rfl ?_|refine LA_subW rfl rfl rfl ?_)|(refine oB .mul ?_;first|refine stMul rfl rfl rfl ?_|refine LA_mulW rfl rfl rfl ?_)|(refine oB .quo ?_;refine stQuo rfl rfl rfl ?_)|(refine oB .rem ?_;refine stRem rfl rfl rfl ?_)|(refine oB .shr ?_;refine stShr rfl rfl rfl ?_;try dsimp only [Int.reduceToNat, Int.reducePow])|(refine oB .shl ?_;refine stShl rfl rfl rfl ?_;try dsimp only [Int.reduceToNat, Int.reducePow])|(refine oB _ ?_;first|refine stT rfl rfl rfl rfl ?_|refine stF rfl rfl rfl rfl ?_|(refine LA_cmp rfl rfl rfl rfl (fun hc => ?_) (fun hc => ?_)<;>dsimp only [cmpP] at hc)|refine stBET rfl rfl rfl rfl ?_|refine stBEF rfl rfl rfl rfl ?_|refine LA_boolEq rfl rfl rfl rfl ?_|refine stBNT rfl rfl rfl rfl ?_|refine stBNF rfl rfl rfl rfl ?_|refine LA_boolNe rfl rfl rfl rfl ?_)|(refine oI ?_;first|refine stIN rfl _ rfl (fun _ => rfl) rfl rfl ?_|(refine stII rfl _ rfl (fun _ => rfl) rfl rfl ?_;try dsimp only [Int.reduceToNat]))|(refine oL ?_;refine LA_load rfl (fun _ => rfl) rfl ?_)|(refine oV ?_;first|refine stCnv rfl rfl rfl rfl ?_|refine LA_conv rfl rfl rfl rfl ?_)|(refine oS ?_;first|(refine stSL rfl _ rfl rfl rfl (fun _ => rfl) ?_;try dsimp only [Int.reduceToNat, Int.toNat_natCast])|(refine stSH rfl _ rfl rfl rfl (fun _ => rfl) ?_;try dsimp only [Int.reduceToNat, Int.toNat_natCast])|(refine stSLH rfl _ rfl rfl rfl rfl (fun _ => rfl) ?_;try dsimp only [Int.reduceToNat, Int.toNat_natCast]))|(refine oLen ?_;refine stLen rfl _ rfl rfl ?_)
   |(refine LA_nil (hK [] _ (LX_nil ?_));clear hK K)|(refine LA_nil (hK _ ?_);clear hK K))
   |(refine oCX ?_;first
   |refine CX_seq ?_|refine CX_skip ?_|refine CX_block ?_|refine CX_exit ?_|refine CX_ret ?_|refine CX_condT rfl ?_|refine CX_condF rfl ?_|refine CX_region (by kernel_rfl) (fun K hK => ?_)|refine CX_regionA (by kernel_rfl) (by kernel_rfl) (fun K hK => ?_)|refine CX_label ?_|refine CX_scope ?_)
   |(refine oPX ?_;first
   |refine PX_then ?_|refine PX_thenX ?_|refine PX_thenR ?_|refine PX_blockN ?_|refine PX_blockR ?_|refine PX_blockX ?_|refine PX_blockO (by decide) ?_|refine PX_scopeN ?_|refine PX_scopeR ?_|refine PX_scopeX ?_)
   |(refine oLX ?_;first
   |refine LX_nil ?_))
  exact PX_retP rfl rfl (Ext.refl _) (fun _ _ _ h => h)
theorem rnot_c : Fc Tryd.prog 41 #[va, vb] w (Ret w (.pred (ownR w.heap.size 71 (runsL (two (fun x y => x && !y) p q))))) := by
  refine Fc.of (args := [_, _]) Tryd.func41 rfl rfl Tryd.ntmps41 (Nat.le_of_ble_eq_true rfl) ?_
  repeat' (first
   |(refine oLA ?_;first
   |refine LA_pass rfl ?_
   |(refine oD 6 ?_; refine oC 63 ?_; refine LA_call1 (f := 63) rfl rfl rfl  (.pred (ownI w.heap.size 3 .i64 (listS (chg p) 65537))) (by intro u1 w e hu1; (try obtain rfl : u1 = _ := hu1); exact (row_of _ _ p hp (ha.ext e)).mono (ret_base e.size)) ?_)
   |(refine oD 8 ?_; refine oC 63 ?_; refine LA_call1 (f := 63) rfl rfl rfl  (.pred (ownI w.heap.size 3 .i64 (listS (chg q) 65537))) (by intro u1 w e hu1; (try obtain rfl : u1 = _ := hu1); exact (row_of _ _ q hq (hb.ext e)).mono (ret_base e.size)) ?_)
   |(refine oC 62 ?_; refine LA_call3 (f := 62) rfl rfl rfl rfl rfl  (.pred (ownR w.heap.size 71 (runsL (two (fun x y => x && !y) p q)))) (by intro u1 u2 u3 w e hu1 hu2 hu3; (try obtain rfl : u1 = _ := hu1); (try obtain rfl : u2 = _ := hu2); (try obtain rfl : u3 = _ := hu3); exact (edges_c (fun x y => x && !y) _ rnot1_c rfl _ _ _ p q hp hq (OwnI.slI hu1) (OwnI.slI hu2)).mono (ret_baseR e.size rfl)) ?_)|(refine oM ?_;first|refine LA_moveV rfl rfl ?_|refine LA_moveP rfl rfl ?_|refine LA_moveT rfl rfl ?_|refine LA_moveU rfl rfl ?_)|(refine oA ?_;first|refine LA_assignV rfl rfl ?_|refine LA_assignP rfl rfl ?_|refine LA_assignT rfl rfl ?_)|(refine oP ?_;first|refine LA_pickTV rfl rfl rfl ?_|refine LA_pickFV rfl rfl rfl ?_)|(refine oN ?_;first|refine LA_notT rfl rfl ?_|refine LA_notF rfl rfl ?_|refine LA_not rfl rfl ?_)|(refine oX ?_;first|refine LA_ext0 rfl rfl ?_|refine LA_ext1 rfl rfl ?_|refine LA_ext30 rfl rfl ?_|refine LA_ext31 rfl rfl ?_|refine LA_ext32 rfl rfl ?_)|(refine oB .add ?_;first|refine stAdd rfl rfl rfl ?_|refine LA_addW rfl rfl rfl ?_)|(refine oB .sub ?_;first|refine stSub rfl rfl rfl ?_|refine LA_subW rfl rfl rfl ?_)|(refine oB .mul ?_;first|refine stMul rfl rfl rfl ?_|refine LA_mulW rfl rfl rfl ?_)|(refine oB .quo ?_;refine stQuo rfl rfl rfl ?_)|(refine oB .rem ?_;refine stRem rfl rfl rfl ?_)|(refine oB .shr ?_;refine stShr rfl rfl rfl ?_;try dsimp only [Int.reduceToNat, Int.reducePow])|(refine oB .shl ?_;refine stShl rfl rfl rfl ?_;try dsimp only [Int.reduceToNat, Int.reducePow])|(refine oB _ ?_;first|refine stT rfl rfl rfl rfl ?_|refine stF rfl rfl rfl rfl ?_|(refine LA_cmp rfl rfl rfl rfl (fun hc => ?_) (fun hc => ?_)<;>dsimp only [cmpP] at hc)|refine stBET rfl rfl rfl rfl ?_|refine stBEF rfl rfl rfl rfl ?_|refine LA_boolEq rfl rfl rfl rfl ?_|refine stBNT rfl rfl rfl rfl ?_|refine stBNF rfl rfl rfl rfl ?_|refine LA_boolNe rfl rfl rfl rfl ?_)|(refine oI ?_;first|refine stIN rfl _ rfl (fun _ => rfl) rfl rfl ?_|(refine stII rfl _ rfl (fun _ => rfl) rfl rfl ?_;try dsimp only [Int.reduceToNat]))|(refine oL ?_;refine LA_load rfl (fun _ => rfl) rfl ?_)|(refine oV ?_;first|refine stCnv rfl rfl rfl rfl ?_|refine LA_conv rfl rfl rfl rfl ?_)|(refine oS ?_;first|(refine stSL rfl _ rfl rfl rfl (fun _ => rfl) ?_;try dsimp only [Int.reduceToNat, Int.toNat_natCast])|(refine stSH rfl _ rfl rfl rfl (fun _ => rfl) ?_;try dsimp only [Int.reduceToNat, Int.toNat_natCast])|(refine stSLH rfl _ rfl rfl rfl rfl (fun _ => rfl) ?_;try dsimp only [Int.reduceToNat, Int.toNat_natCast]))|(refine oLen ?_;refine stLen rfl _ rfl rfl ?_)
   |(refine LA_nil (hK [] _ (LX_nil ?_));clear hK K)|(refine LA_nil (hK _ ?_);clear hK K))
   |(refine oCX ?_;first
   |refine CX_seq ?_|refine CX_skip ?_|refine CX_block ?_|refine CX_exit ?_|refine CX_ret ?_|refine CX_condT rfl ?_|refine CX_condF rfl ?_|refine CX_region (by kernel_rfl) (fun K hK => ?_)|refine CX_regionA (by kernel_rfl) (by kernel_rfl) (fun K hK => ?_)|refine CX_label ?_|refine CX_scope ?_)
   |(refine oPX ?_;first
   |refine PX_then ?_|refine PX_thenX ?_|refine PX_thenR ?_|refine PX_blockN ?_|refine PX_blockR ?_|refine PX_blockX ?_|refine PX_blockO (by decide) ?_|refine PX_scopeN ?_|refine PX_scopeR ?_|refine PX_scopeX ?_)
   |(refine oLX ?_;first
   |refine LX_nil ?_))
  exact PX_retP rfl rfl (Ext.refl _) (fun _ _ _ h => h)
theorem rxor_c : Fc Tryd.prog 42 #[va, vb] w (Ret w (.pred (ownR w.heap.size 71 (runsL (two (fun x y => !(x == y)) p q))))) := by
  refine Fc.of (args := [_, _]) Tryd.func42 rfl rfl Tryd.ntmps42 (Nat.le_of_ble_eq_true rfl) ?_
  repeat' (first
   |(refine oLA ?_;first
   |refine LA_pass rfl ?_
   |(refine oD 6 ?_; refine oC 63 ?_; refine LA_call1 (f := 63) rfl rfl rfl  (.pred (ownI w.heap.size 3 .i64 (listS (chg p) 65537))) (by intro u1 w e hu1; (try obtain rfl : u1 = _ := hu1); exact (row_of _ _ p hp (ha.ext e)).mono (ret_base e.size)) ?_)
   |(refine oD 8 ?_; refine oC 63 ?_; refine LA_call1 (f := 63) rfl rfl rfl  (.pred (ownI w.heap.size 3 .i64 (listS (chg q) 65537))) (by intro u1 w e hu1; (try obtain rfl : u1 = _ := hu1); exact (row_of _ _ q hq (hb.ext e)).mono (ret_base e.size)) ?_)
   |(refine oC 62 ?_; refine LA_call3 (f := 62) rfl rfl rfl rfl rfl  (.pred (ownR w.heap.size 71 (runsL (two (fun x y => !(x == y)) p q)))) (by intro u1 u2 u3 w e hu1 hu2 hu3; (try obtain rfl : u1 = _ := hu1); (try obtain rfl : u2 = _ := hu2); (try obtain rfl : u3 = _ := hu3); exact (edges_c (fun x y => !(x == y)) _ rxor1_c rfl _ _ _ p q hp hq (OwnI.slI hu1) (OwnI.slI hu2)).mono (ret_baseR e.size rfl)) ?_)|(refine oM ?_;first|refine LA_moveV rfl rfl ?_|refine LA_moveP rfl rfl ?_|refine LA_moveT rfl rfl ?_|refine LA_moveU rfl rfl ?_)|(refine oA ?_;first|refine LA_assignV rfl rfl ?_|refine LA_assignP rfl rfl ?_|refine LA_assignT rfl rfl ?_)|(refine oP ?_;first|refine LA_pickTV rfl rfl rfl ?_|refine LA_pickFV rfl rfl rfl ?_)|(refine oN ?_;first|refine LA_notT rfl rfl ?_|refine LA_notF rfl rfl ?_|refine LA_not rfl rfl ?_)|(refine oX ?_;first|refine LA_ext0 rfl rfl ?_|refine LA_ext1 rfl rfl ?_|refine LA_ext30 rfl rfl ?_|refine LA_ext31 rfl rfl ?_|refine LA_ext32 rfl rfl ?_)|(refine oB .add ?_;first|refine stAdd rfl rfl rfl ?_|refine LA_addW rfl rfl rfl ?_)|(refine oB .sub ?_;first|refine stSub rfl rfl rfl ?_|refine LA_subW rfl rfl rfl ?_)|(refine oB .mul ?_;first|refine stMul rfl rfl rfl ?_|refine LA_mulW rfl rfl rfl ?_)|(refine oB .quo ?_;refine stQuo rfl rfl rfl ?_)|(refine oB .rem ?_;refine stRem rfl rfl rfl ?_)|(refine oB .shr ?_;refine stShr rfl rfl rfl ?_;try dsimp only [Int.reduceToNat, Int.reducePow])|(refine oB .shl ?_;refine stShl rfl rfl rfl ?_;try dsimp only [Int.reduceToNat, Int.reducePow])|(refine oB _ ?_;first|refine stT rfl rfl rfl rfl ?_|refine stF rfl rfl rfl rfl ?_|(refine LA_cmp rfl rfl rfl rfl (fun hc => ?_) (fun hc => ?_)<;>dsimp only [cmpP] at hc)|refine stBET rfl rfl rfl rfl ?_|refine stBEF rfl rfl rfl rfl ?_|refine LA_boolEq rfl rfl rfl rfl ?_|refine stBNT rfl rfl rfl rfl ?_|refine stBNF rfl rfl rfl rfl ?_|refine LA_boolNe rfl rfl rfl rfl ?_)|(refine oI ?_;first|refine stIN rfl _ rfl (fun _ => rfl) rfl rfl ?_|(refine stII rfl _ rfl (fun _ => rfl) rfl rfl ?_;try dsimp only [Int.reduceToNat]))|(refine oL ?_;refine LA_load rfl (fun _ => rfl) rfl ?_)|(refine oV ?_;first|refine stCnv rfl rfl rfl rfl ?_|refine LA_conv rfl rfl rfl rfl ?_)|(refine oS ?_;first|(refine stSL rfl _ rfl rfl rfl (fun _ => rfl) ?_;try dsimp only [Int.reduceToNat, Int.toNat_natCast])|(refine stSH rfl _ rfl rfl rfl (fun _ => rfl) ?_;try dsimp only [Int.reduceToNat, Int.toNat_natCast])|(refine stSLH rfl _ rfl rfl rfl rfl (fun _ => rfl) ?_;try dsimp only [Int.reduceToNat, Int.toNat_natCast]))|(refine oLen ?_;refine stLen rfl _ rfl rfl ?_)
   |(refine LA_nil (hK [] _ (LX_nil ?_));clear hK K)|(refine LA_nil (hK _ ?_);clear hK K))
   |(refine oCX ?_;first
   |refine CX_seq ?_|refine CX_skip ?_|refine CX_block ?_|refine CX_exit ?_|refine CX_ret ?_|refine CX_condT rfl ?_|refine CX_condF rfl ?_|refine CX_region (by kernel_rfl) (fun K hK => ?_)|refine CX_regionA (by kernel_rfl) (by kernel_rfl) (fun K hK => ?_)|refine CX_label ?_|refine CX_scope ?_)
   |(refine oPX ?_;first
   |refine PX_then ?_|refine PX_thenX ?_|refine PX_thenR ?_|refine PX_blockN ?_|refine PX_blockR ?_|refine PX_blockX ?_|refine PX_blockO (by decide) ?_|refine PX_scopeN ?_|refine PX_scopeR ?_|refine PX_scopeX ?_)
   |(refine oLX ?_;first
   |refine LX_nil ?_))
  exact PX_retP rfl rfl (Ext.refl _) (fun _ _ _ h => h)
end

/-! ### A range turned round -/
def spanM (lo hi : Int) (i : Nat) : Bool := decide (lo ≤ i) && decide ((i : Int) < hi) && decide (i < 65536)
def fXor' (x y : Bool) : Bool := !(x == y)
theorem listS_nil (P : Nat → Bool) {a : Nat} : ∀ b, a ≤ b → (∀ i, a ≤ i → i < b → P i = false) → listS P b = listS P a
  | 0, h, _ => by obtain rfl : a = 0 := by omega
                  rfl
  | b + 1, h, hf => by
    rcases Nat.lt_or_ge b a with h1 | h1
    · obtain rfl : a = b + 1 := by omega
      rfl
    · rw [listS, listS_nil P b h1 (fun i g1 g2 => hf i g1 (by omega)), hf b h1 (by omega)]; simp
theorem span_row (L H : Nat) (h1 : L < H) (h2 : H ≤ 65536) : listS (chg (spanM L H)) 65537 = [(L : Int), (H : Int)] := by
  have hb : ∀ i, bel (spanM L H) i = (decide (L < i) && decide (i ≤ H)) := fun i => by
    cases i with
    | zero => rfl
    | succ i =>
      show spanM L H i = _
      unfold spanM
      rw [Bool.eq_iff_iff]; simp; omega
  have hc : ∀ i, chg (spanM L H) i = (decide (i = L) || decide (i = H)) := fun i => by
    unfold chg
    rw [hb]
    unfold spanM
    by_cases e1 : i = L
    · subst e1
      rw [decide_eq_true (by omega : ((i : Nat) : Int) ≤ i), decide_eq_true (by omega : ((i : Nat) : Int) < (H : Int)), decide_eq_true (by omega : i < 65536), decide_eq_false (by omega : ¬ i < i)]; simp
    · by_cases e2 : i = H
      · subst e2
        rw [decide_eq_false (by omega : ¬ ((i : Nat) : Int) < (i : Int)), decide_eq_true (by omega : L < i)]; simp
      · rw [decide_eq_false e1, decide_eq_false e2, show decide ((L : Int) ≤ i) = decide (L < i) by rw [decide_eq_decide]; omega, show decide ((i : Int) < (H : Int)) = decide (i ≤ H) by rw [decide_eq_decide]; omega]
        by_cases e3 : i ≤ H
        · rw [decide_eq_true (by omega : i < 65536)]; simp
        · rw [decide_eq_false e3]; simp
  rw [listS_nil _ (a := H + 1) 65537 (by omega) (fun i g1 _ => by rw [hc, decide_eq_false (by omega), decide_eq_false (by omega)]; rfl), listS, hc, decide_eq_true (rfl : H = H), Bool.or_true, if_pos rfl]
  rw [listS_nil _ (a := L + 1) H (by omega) (fun i g1 g2 => by rw [hc, decide_eq_false (by omega), decide_eq_false (by omega)]; rfl), listS, hc, decide_eq_true (rfl : L = L), Bool.true_or, if_pos rfl]
  rw [listS_nil _ (a := 0) L (by omega) (fun i _ g2 => by rw [hc, decide_eq_false (by omega), decide_eq_false (by omega)]; rfl)]
  rfl
theorem span_cut (lo hi : Int) : spanM lo hi 65536 = false := by simp [spanM]
theorem span_min (lo hi : Int) : ∀ i, spanM lo hi i = spanM (max lo 0) (min hi 65536) i := fun i => by
  unfold spanM
  rw [Bool.eq_iff_iff]; simp; omega
theorem el_run : El Tryd.prog 54 71 (runV 0 0) 2 4 := ⟨rfl, rfl, rfl, by decide⟩
theorem clone_run (w : World) (v : Value) (n : Nat) (cs : List Value) (h : SlC w v n 2 cs) (h1 : ∀ u ∈ cs, u.oneCell' = true) (hb : n * 4 ≤ 140737488355328) : Fc Tryd.prog 69 #[v] w (Ret w (.pred (ownC w.heap.size 71 2 n cs))) := by
  obtain ⟨h0, a, cap, rfl, hc, hm, hn, hcs⟩ := id h
  have hlen := h.len
  cases a with
  | none =>
    obtain rfl := hn rfl
    obtain rfl : n = 0 := by omega
    obtain rfl : cs = [] := List.eq_nil_of_length_eq_zero (by omega)
    refine Fc.of (args := [_]) Tryd.func69 rfl rfl Tryd.ntmps69 (Nat.le_of_ble_eq_true rfl) ?_
    repeat' (first
     |(refine oLA ?_;first
     |refine LA_pass rfl ?_
     |refine LA_binV (c := .bool true) rfl rfl rfl (fun _ => rfl) ?_|(refine oM ?_;first|refine LA_moveV rfl rfl ?_|refine LA_moveP rfl rfl ?_|refine LA_moveT rfl rfl ?_|refine LA_moveU rfl rfl ?_)|(refine oA ?_;first|refine LA_assignV rfl rfl ?_|refine LA_assignP rfl rfl ?_|refine LA_assignT rfl rfl ?_)|(refine oP ?_;first|refine LA_pickTV rfl rfl rfl ?_|refine LA_pickFV rfl rfl rfl ?_)|(refine oN ?_;first|refine LA_notT rfl rfl ?_|refine LA_notF rfl rfl ?_|refine LA_not rfl rfl ?_)|(refine oX ?_;first|refine LA_ext0 rfl rfl ?_|refine LA_ext1 rfl rfl ?_|refine LA_ext30 rfl rfl ?_|refine LA_ext31 rfl rfl ?_|refine LA_ext32 rfl rfl ?_)|(refine oB .add ?_;first|refine stAdd rfl rfl rfl ?_|refine LA_addW rfl rfl rfl ?_)|(refine oB .sub ?_;first|refine stSub rfl rfl rfl ?_|refine LA_subW rfl rfl rfl ?_)|(refine oB .mul ?_;first|refine stMul rfl rfl rfl ?_|refine LA_mulW rfl rfl rfl ?_)|(refine oB .quo ?_;refine stQuo rfl rfl rfl ?_)|(refine oB .rem ?_;refine stRem rfl rfl rfl ?_)|(refine oB .shr ?_;refine stShr rfl rfl rfl ?_;try dsimp only [Int.reduceToNat, Int.reducePow])|(refine oB .shl ?_;refine stShl rfl rfl rfl ?_;try dsimp only [Int.reduceToNat, Int.reducePow])|(refine oB _ ?_;first|refine stT rfl rfl rfl rfl ?_|refine stF rfl rfl rfl rfl ?_|(refine LA_cmp rfl rfl rfl rfl (fun hc => ?_) (fun hc => ?_)<;>dsimp only [cmpP] at hc)|refine stBET rfl rfl rfl rfl ?_|refine stBEF rfl rfl rfl rfl ?_|refine LA_boolEq rfl rfl rfl rfl ?_|refine stBNT rfl rfl rfl rfl ?_|refine stBNF rfl rfl rfl rfl ?_|refine LA_boolNe rfl rfl rfl rfl ?_)|(refine oI ?_;first|refine stIN rfl _ rfl (fun _ => rfl) rfl rfl ?_|(refine stII rfl _ rfl (fun _ => rfl) rfl rfl ?_;try dsimp only [Int.reduceToNat]))|(refine oL ?_;refine LA_load rfl (fun _ => rfl) rfl ?_)|(refine oV ?_;first|refine stCnv rfl rfl rfl rfl ?_|refine LA_conv rfl rfl rfl rfl ?_)|(refine oS ?_;first|(refine stSL rfl _ rfl rfl rfl (fun _ => rfl) ?_;try dsimp only [Int.reduceToNat, Int.toNat_natCast])|(refine stSH rfl _ rfl rfl rfl (fun _ => rfl) ?_;try dsimp only [Int.reduceToNat, Int.toNat_natCast])|(refine stSLH rfl _ rfl rfl rfl rfl (fun _ => rfl) ?_;try dsimp only [Int.reduceToNat, Int.toNat_natCast]))|(refine oLen ?_;refine stLen rfl _ rfl rfl ?_)
     |(refine LA_nil (hK [] _ (LX_nil ?_));clear hK K)|(refine LA_nil (hK _ ?_);clear hK K))
     |(refine oCX ?_;first
     |refine CX_seq ?_|refine CX_skip ?_|refine CX_block ?_|refine CX_exit ?_|refine CX_ret ?_|refine CX_condT rfl ?_|refine CX_condF rfl ?_|refine CX_region (by kernel_rfl) (fun K hK => ?_)|refine CX_regionA (by kernel_rfl) (by kernel_rfl) (fun K hK => ?_)|refine CX_label ?_|refine CX_scope ?_)
     |(refine oPX ?_;first
     |refine PX_then ?_|refine PX_thenX ?_|refine PX_thenR ?_|refine PX_blockN ?_|refine PX_blockR ?_|refine PX_blockX ?_|refine PX_blockO (by decide) ?_|refine PX_scopeN ?_|refine PX_scopeR ?_|refine PX_scopeX ?_
     |exact PX_retP rfl rfl (Ext.refl _) (fun u w2 e2 hu => by obtain rfl : u = _ := hu; exact Own.nil))
     |(refine oLX ?_;first
     |refine LX_nil ?_))
  | some a =>
    refine Fc.of (args := [_]) Tryd.func69 rfl rfl Tryd.ntmps69 (Nat.le_of_ble_eq_true rfl) ?_
    repeat' (first
     |(refine oLA ?_;first
     |refine LA_pass rfl ?_
     |refine LA_binV (c := .bool false) rfl rfl rfl (fun _ => rfl) ?_
     |refine LA_lit0 71 (s := 2) rfl (fun _ => by kernel_rfl) ?_
     |(refine LA_stop (hK _ _ (LX_pick 5 rfl (fun v5 w5 e5 h5 => ?_))); clear hK K; have h6 := h.ext e5; have ho : Own w.heap.size _ _ w5 v5 0 [] := h5; refine LX_la (by kernel_rfl) (fun K hK => ?_))
     |(refine LA_stop (hK _ _ (LX_append rfl (by decide) el_run rfl ho rfl (HasC.val h6) h1 (by rw [Nat.zero_add]; unfold maxLen; omega) (by rw [Nat.zero_add]; exact hb) e5.size (fun v' w2 w3 he2 ho3 hg3 => ?_))); clear hK K; dsimp only [vals]; refine LX_la (by kernel_rfl) (fun K hK => ?_))|(refine oM ?_;first|refine LA_moveV rfl rfl ?_|refine LA_moveP rfl rfl ?_|refine LA_moveT rfl rfl ?_|refine LA_moveU rfl rfl ?_)|(refine oA ?_;first|refine LA_assignV rfl rfl ?_|refine LA_assignP rfl rfl ?_|refine LA_assignT rfl rfl ?_)|(refine oP ?_;first|refine LA_pickTV rfl rfl rfl ?_|refine LA_pickFV rfl rfl rfl ?_)|(refine oN ?_;first|refine LA_notT rfl rfl ?_|refine LA_notF rfl rfl ?_|refine LA_not rfl rfl ?_)|(refine oX ?_;first|refine LA_ext0 rfl rfl ?_|refine LA_ext1 rfl rfl ?_|refine LA_ext30 rfl rfl ?_|refine LA_ext31 rfl rfl ?_|refine LA_ext32 rfl rfl ?_)|(refine oB .add ?_;first|refine stAdd rfl rfl rfl ?_|refine LA_addW rfl rfl rfl ?_)|(refine oB .sub ?_;first|refine stSub rfl rfl rfl ?_|refine LA_subW rfl rfl rfl ?_)|(refine oB .mul ?_;first|refine stMul rfl rfl rfl ?_|refine LA_mulW rfl rfl rfl ?_)|(refine oB .quo ?_;refine stQuo rfl rfl rfl ?_)|(refine oB .rem ?_;refine stRem rfl rfl rfl ?_)|(refine oB .shr ?_;refine stShr rfl rfl rfl ?_;try dsimp only [Int.reduceToNat, Int.reducePow])|(refine oB .shl ?_;refine stShl rfl rfl rfl ?_;try dsimp only [Int.reduceToNat, Int.reducePow])|(refine oB _ ?_;first|refine stT rfl rfl rfl rfl ?_|refine stF rfl rfl rfl rfl ?_|(refine LA_cmp rfl rfl rfl rfl (fun hc => ?_) (fun hc => ?_)<;>dsimp only [cmpP] at hc)|refine stBET rfl rfl rfl rfl ?_|refine stBEF rfl rfl rfl rfl ?_|refine LA_boolEq rfl rfl rfl rfl ?_|refine stBNT rfl rfl rfl rfl ?_|refine stBNF rfl rfl rfl rfl ?_|refine LA_boolNe rfl rfl rfl rfl ?_)|(refine oI ?_;first|refine stIN rfl _ rfl (fun _ => rfl) rfl rfl ?_|(refine stII rfl _ rfl (fun _ => rfl) rfl rfl ?_;try dsimp only [Int.reduceToNat]))|(refine oL ?_;refine LA_load rfl (fun _ => rfl) rfl ?_)|(refine oV ?_;first|refine stCnv rfl rfl rfl rfl ?_|refine LA_conv rfl rfl rfl rfl ?_)|(refine oS ?_;first|(refine stSL rfl _ rfl rfl rfl (fun _ => rfl) ?_;try dsimp only [Int.reduceToNat, Int.toNat_natCast])|(refine stSH rfl _ rfl rfl rfl (fun _ => rfl) ?_;try dsimp only [Int.reduceToNat, Int.toNat_natCast])|(refine stSLH rfl _ rfl rfl rfl rfl (fun _ => rfl) ?_;try dsimp only [Int.reduceToNat, Int.toNat_natCast]))|(refine oLen ?_;refine stLen rfl _ rfl rfl ?_)
     |(refine LA_nil (hK [] _ (LX_nil ?_));clear hK K)|(refine LA_nil (hK _ ?_);clear hK K))
     |(refine oCX ?_;first
     |refine CX_seq ?_|refine CX_skip ?_|refine CX_block ?_|refine CX_exit ?_|refine CX_ret ?_|refine CX_condT rfl ?_|refine CX_condF rfl ?_|refine CX_region (by kernel_rfl) (fun K hK => ?_)|refine CX_regionA (by kernel_rfl) (by kernel_rfl) (fun K hK => ?_)|refine CX_label ?_|refine CX_scope ?_)
     |(refine oPX ?_;first
     |refine PX_then ?_|refine PX_thenX ?_|refine PX_thenR ?_|refine PX_blockN ?_|refine PX_blockR ?_|refine PX_blockX ?_|refine PX_blockO (by decide) ?_|refine PX_scopeN ?_|refine PX_scopeR ?_|refine PX_scopeX ?_)
     |(refine oLX ?_;first
     |refine LX_nil ?_))
    exact PX_retP rfl rfl ((e5.trans he2).grown hg3 (fun q hq => (Own.lt ho q hq).1)) (fun u w4 e4 hu => by
      obtain rfl : u = _ := hu
      have h9 : Own w.heap.size 71 2 w3 u n cs := by simpa using ho3
      exact h9.ext e4)

set_option maxHeartbeats 2000000 in
theorem rflipR_c (w : World) (v : Value) (p : Nat → Bool) (lo hi : Int) (hp : p 65536 = false) (h : SlR w v (runsL p)) (hlo : -9223372036854775808 ≤ lo ∧ lo < 9223372036854775808) (hhi : -9223372036854775808 ≤ hi ∧ hi < 9223372036854775808) :
    Fc Tryd.prog 58 #[v, .int .i64 lo, .int .i64 hi] w (Ret w (.pred (ownR w.heap.size 71 (runsL (two fXor' p (spanM lo hi)))))) := by
  refine Fc.of (args := [_, _, _]) Tryd.func58 rfl rfl Tryd.ntmps58 (Nat.le_of_ble_eq_true rfl) ?_
  obtain ⟨L, hL⟩ : ∃ L : Nat, max lo 0 = L := ⟨(max lo 0).toNat, by omega⟩
  obtain ⟨H, hH⟩ : ∃ H : Int, min hi 65536 = H := ⟨_, rfl⟩
  have hsp : ∀ i, spanM lo hi i = spanM L H i := fun i => by rw [span_min, hL, hH]
  have hlen := runsL_len p
  by_cases hLH : (L : Int) ≥ H
  · have e : runsL (two fXor' p (spanM lo hi)) = runsL p := runsL_congr fun i _ => by
      have : spanM lo hi i = false := by
        rw [hsp]; unfold spanM
        by_cases h1 : (L : Int) ≤ i
        · rw [decide_eq_false (by omega : ¬ (i : Int) < H)]; simp
        · rw [decide_eq_false h1]; simp
      unfold two fXor'; rw [this]; cases p i <;> rfl
    rw [e]
    repeat' (first
     |(refine oLA ?_;first
     |refine LA_pass rfl ?_
     |(refine LA_max2 rfl rfl rfl ?_; rw [hL])
     |(refine LA_min2 rfl rfl rfl ?_; rw [hH])|(refine oM ?_;first|refine LA_moveV rfl rfl ?_|refine LA_moveP rfl rfl ?_|refine LA_moveT rfl rfl ?_|refine LA_moveU rfl rfl ?_)|(refine oA ?_;first|refine LA_assignV rfl rfl ?_|refine LA_assignP rfl rfl ?_|refine LA_assignT rfl rfl ?_)|(refine oP ?_;first|refine LA_pickTV rfl rfl rfl ?_|refine LA_pickFV rfl rfl rfl ?_)|(refine oN ?_;first|refine LA_notT rfl rfl ?_|refine LA_notF rfl rfl ?_|refine LA_not rfl rfl ?_)|(refine oX ?_;first|refine LA_ext0 rfl rfl ?_|refine LA_ext1 rfl rfl ?_|refine LA_ext30 rfl rfl ?_|refine LA_ext31 rfl rfl ?_|refine LA_ext32 rfl rfl ?_)|(refine oB .add ?_;first|refine stAdd rfl rfl rfl ?_|refine LA_addW rfl rfl rfl ?_)|(refine oB .sub ?_;first|refine stSub rfl rfl rfl ?_|refine LA_subW rfl rfl rfl ?_)|(refine oB .mul ?_;first|refine stMul rfl rfl rfl ?_|refine LA_mulW rfl rfl rfl ?_)|(refine oB .quo ?_;refine stQuo rfl rfl rfl ?_)|(refine oB .rem ?_;refine stRem rfl rfl rfl ?_)|(refine oB .shr ?_;refine stShr rfl rfl rfl ?_;try dsimp only [Int.reduceToNat, Int.reducePow])|(refine oB .shl ?_;refine stShl rfl rfl rfl ?_;try dsimp only [Int.reduceToNat, Int.reducePow])|(refine oB _ ?_;first|refine stT rfl rfl rfl rfl ?_|refine stF rfl rfl rfl rfl ?_|(refine LA_cmp rfl rfl rfl rfl (fun hc => ?_) (fun hc => ?_)<;>dsimp only [cmpP] at hc)|refine stBET rfl rfl rfl rfl ?_|refine stBEF rfl rfl rfl rfl ?_|refine LA_boolEq rfl rfl rfl rfl ?_|refine stBNT rfl rfl rfl rfl ?_|refine stBNF rfl rfl rfl rfl ?_|refine LA_boolNe rfl rfl rfl rfl ?_)|(refine oI ?_;first|refine stIN rfl _ rfl (fun _ => rfl) rfl rfl ?_|(refine stII rfl _ rfl (fun _ => rfl) rfl rfl ?_;try dsimp only [Int.reduceToNat]))|(refine oL ?_;refine LA_load rfl (fun _ => rfl) rfl ?_)|(refine oV ?_;first|refine stCnv rfl rfl rfl rfl ?_|refine LA_conv rfl rfl rfl rfl ?_)|(refine oS ?_;first|(refine stSL rfl _ rfl rfl rfl (fun _ => rfl) ?_;try dsimp only [Int.reduceToNat, Int.toNat_natCast])|(refine stSH rfl _ rfl rfl rfl (fun _ => rfl) ?_;try dsimp only [Int.reduceToNat, Int.toNat_natCast])|(refine stSLH rfl _ rfl rfl rfl rfl (fun _ => rfl) ?_;try dsimp only [Int.reduceToNat, Int.toNat_natCast]))|(refine oLen ?_;refine stLen rfl _ rfl rfl ?_)
     |(refine oCv ?_;first
     |(refine oC 69 ?_; refine LA_call1 (f := 69) rfl rfl rfl  (.pred (ownC w.heap.size 71 2 (runsL p).length (cellsR (runsL p)))) (by intro u1 w e hu1; (try obtain rfl : u1 = _ := hu1); exact (clone_run _ _ _ _ (h.ext e) (cellsR_one _) (by omega)).mono (ret_baseC e.size)) ?_))|(refine LA_nil (hK [] _ (LX_nil ?_));clear hK K)|(refine LA_nil (hK _ ?_);clear hK K))
     |(refine oCX ?_;first
     |refine CX_seq ?_|refine CX_skip ?_|refine CX_block ?_|refine CX_exit ?_|refine CX_ret ?_|refine CX_condT rfl ?_|refine CX_condF rfl ?_|refine CX_region (by kernel_rfl) (fun K hK => ?_)|refine CX_regionA (by kernel_rfl) (by kernel_rfl) (fun K hK => ?_)|refine CX_label ?_|refine CX_scope ?_)
     |(refine oPX ?_;first
     |refine PX_then ?_|refine PX_thenX ?_|refine PX_thenR ?_|refine PX_blockN ?_|refine PX_blockR ?_|refine PX_blockX ?_|refine PX_blockO (by decide) ?_|refine PX_scopeN ?_|refine PX_scopeR ?_|refine PX_scopeX ?_)
     |(refine oLX ?_;first
     |refine LX_nil ?_))
    exact PX_retP rfl rfl (Ext.refl _) (fun _ _ _ h => h)
  · obtain ⟨H', rfl⟩ := Int.eq_ofNat_of_zero_le (by omega : 0 ≤ H)
    have er := span_row L H' (by omega) (by omega)
    have hsc : spanM L H' 65536 = false := span_cut _ _
    have e : runsL (two fXor' p (spanM lo hi)) = runsL (two fXor' p (spanM L H')) := runsL_congr fun i _ => by unfold two; rw [hsp]
    rw [e]
    repeat' (first
     |(refine oLA ?_;first
     |refine LA_pass rfl ?_
     |(refine LA_max2 rfl rfl rfl ?_; rw [hL])
     |(refine LA_min2 rfl rfl rfl ?_; rw [hH])
     |refine LA_two rfl int_el rfl rfl rfl rfl ?_
     |(refine oC 62 ?_; refine LA_call3 (f := 62) rfl rfl rfl rfl rfl  (.pred (ownR w.heap.size 71 (runsL (two fXor' p (spanM L H'))))) (by intro u1 u2 u3 w e hu1 hu2 hu3; (try obtain rfl : u1 = _ := hu1); (try obtain rfl : u2 = _ := hu2); (try obtain rfl : u3 = _ := hu3); exact (edges_c fXor' _ rflip1_c rfl _ _ _ p (spanM L H') hp hsc (OwnI.slI hu1) (by rw [er]; exact Own.slC hu2)).mono (ret_baseR e.size rfl)) ?_)|(refine oM ?_;first|refine LA_moveV rfl rfl ?_|refine LA_moveP rfl rfl ?_|refine LA_moveT rfl rfl ?_|refine LA_moveU rfl rfl ?_)|(refine oA ?_;first|refine LA_assignV rfl rfl ?_|refine LA_assignP rfl rfl ?_|refine LA_assignT rfl rfl ?_)|(refine oP ?_;first|refine LA_pickTV rfl rfl rfl ?_|refine LA_pickFV rfl rfl rfl ?_)|(refine oN ?_;first|refine LA_notT rfl rfl ?_|refine LA_notF rfl rfl ?_|refine LA_not rfl rfl ?_)|(refine oX ?_;first|refine LA_ext0 rfl rfl ?_|refine LA_ext1 rfl rfl ?_|refine LA_ext30 rfl rfl ?_|refine LA_ext31 rfl rfl ?_|refine LA_ext32 rfl rfl ?_)|(refine oB .add ?_;first|refine stAdd rfl rfl rfl ?_|refine LA_addW rfl rfl rfl ?_)|(refine oB .sub ?_;first|refine stSub rfl rfl rfl ?_|refine LA_subW rfl rfl rfl ?_)|(refine oB .mul ?_;first|refine stMul rfl rfl rfl ?_|refine LA_mulW rfl rfl rfl ?_)|(refine oB .quo ?_;refine stQuo rfl rfl rfl ?_)|(refine oB .rem ?_;refine stRem rfl rfl rfl ?_)|(refine oB .shr ?_;refine stShr rfl rfl rfl ?_;try dsimp only [Int.reduceToNat, Int.reducePow])|(refine oB .shl ?_;refine stShl rfl rfl rfl ?_;try dsimp only [Int.reduceToNat, Int.reducePow])|(refine oB _ ?_;first|refine stT rfl rfl rfl rfl ?_|refine stF rfl rfl rfl rfl ?_|(refine LA_cmp rfl rfl rfl rfl (fun hc => ?_) (fun hc => ?_)<;>dsimp only [cmpP] at hc)|refine stBET rfl rfl rfl rfl ?_|refine stBEF rfl rfl rfl rfl ?_|refine LA_boolEq rfl rfl rfl rfl ?_|refine stBNT rfl rfl rfl rfl ?_|refine stBNF rfl rfl rfl rfl ?_|refine LA_boolNe rfl rfl rfl rfl ?_)|(refine oI ?_;first|refine stIN rfl _ rfl (fun _ => rfl) rfl rfl ?_|(refine stII rfl _ rfl (fun _ => rfl) rfl rfl ?_;try dsimp only [Int.reduceToNat]))|(refine oL ?_;refine LA_load rfl (fun _ => rfl) rfl ?_)|(refine oV ?_;first|refine stCnv rfl rfl rfl rfl ?_|refine LA_conv rfl rfl rfl rfl ?_)|(refine oS ?_;first|(refine stSL rfl _ rfl rfl rfl (fun _ => rfl) ?_;try dsimp only [Int.reduceToNat, Int.toNat_natCast])|(refine stSH rfl _ rfl rfl rfl (fun _ => rfl) ?_;try dsimp only [Int.reduceToNat, Int.toNat_natCast])|(refine stSLH rfl _ rfl rfl rfl rfl (fun _ => rfl) ?_;try dsimp only [Int.reduceToNat, Int.toNat_natCast]))|(refine oLen ?_;refine stLen rfl _ rfl rfl ?_)
     |(refine oCv ?_;first
     |(refine oC 63 ?_; refine LA_call1 (f := 63) rfl rfl rfl  (.pred (ownI w.heap.size 3 .i64 (listS (chg p) 65537))) (by intro u1 w e hu1; (try obtain rfl : u1 = _ := hu1); exact (row_of _ _ p hp (h.ext e)).mono (ret_base e.size)) ?_))|(refine LA_nil (hK [] _ (LX_nil ?_));clear hK K)|(refine LA_nil (hK _ ?_);clear hK K))
     |(refine oCX ?_;first
     |refine CX_seq ?_|refine CX_skip ?_|refine CX_block ?_|refine CX_exit ?_|refine CX_ret ?_|refine CX_condT rfl ?_|refine CX_condF rfl ?_|refine CX_region (by kernel_rfl) (fun K hK => ?_)|refine CX_regionA (by kernel_rfl) (by kernel_rfl) (fun K hK => ?_)|refine CX_label ?_|refine CX_scope ?_)
     |(refine oPX ?_;first
     |refine PX_then ?_|refine PX_thenX ?_|refine PX_thenR ?_|refine PX_blockN ?_|refine PX_blockR ?_|refine PX_blockX ?_|refine PX_blockO (by decide) ?_|refine PX_scopeN ?_|refine PX_scopeR ?_|refine PX_scopeX ?_)
     |(refine oLX ?_;first
     |refine LX_nil ?_))
    exact PX_retP rfl rfl (Ext.refl _) (fun _ _ _ h => h)

/-! ### The k-th number -/
theorem drop_run {rs : List Rn} {k : Nat} (hk : k < rs.length) : rs.drop k = (fst rs k, mor rs k) :: rs.drop (k + 1) := by
  rw [List.drop_eq_getElem_cons hk]
  have : rs.getD k (0, 0) = rs[k] := by simp [List.getD, hk]
  unfold fst mor; rw [this]
theorem cellsR_drop : ∀ (a : List Rn) (j : Nat), cellsR (a.drop j) = (cellsR a).drop (j * 2)
  | [], j => by simp [cellsR]
  | x :: a, 0 => by simp [cellsR]
  | x :: a, j + 1 => by
    rw [show (j + 1) * 2 = j * 2 + 1 + 1 by omega]
    simp only [List.drop_succ_cons, cellsR, cellsR_drop a j]
theorem SlR.tail {w : World} {v : Value} {x : Rn} {rs : List Rn} (h : SlR w v (x :: rs)) : SlR w (subS v 1 (x :: rs).length 2) rs := by
  have h1 := SlC.sub h (l := 1) (h := (x :: rs).length) (by simp) (Nat.le_refl _)
  unfold SlR
  have e1 : (x :: rs).length - 1 = rs.length := by simp
  have e2 : (((cellsR (x :: rs)).take ((x :: rs).length * 2)).drop (1 * 2)) = cellsR rs := by
    rw [List.take_of_length_le (by rw [cellsR_len]; exact Nat.le_refl _)]
    simp [cellsR]
  rw [e1, e2] at h1
  exact h1
set_option maxHeartbeats 4000000 in
theorem rselR_c (w : World) (v : Value) (rs : List Rn) (k0 : Int) (h : SlR w v rs) (hu : U16 rs) (hr : Right rs) (hk0 : -9223372036854775808 ≤ k0 ∧ k0 < 9223372036854775808) :
    Fc Tryd.prog 59 #[v, .int .i64 k0] w (Ret w (.tup2 (.val (.int .u16 (selR rs k0).1)) (.val (.bool (selR rs k0).2)))) := by
  have hlen := h.len
  refine Fc.of (args := [_, _]) Tryd.func59 rfl rfl Tryd.ntmps59 (Nat.le_of_ble_eq_true rfl) ?_
  repeat' (first
   |(refine oLA ?_;first
   |refine LA_pass rfl ?_
   |(refine oI ?_; refine LA_indexR rfl _ rfl (fun _ => rfl) rfl (by first | exact HasR.val (by assumption) | exact HasR.own | exact HasR.ownV (by assumption)) rfl (by omega) ?_)
   |(refine oLt 71 ?_; refine LA_loadC rfl (fun _ => rfl) (fun _ => rfl) rfl ?_)
   |(show LA _ _ _ _ (⟨some 99, .alloc _, _, _, _, _⟩ :: _) _; refine LA_stop (hK _ _ (LX_var rfl rfl (by decide) (fun _ => rfl) (fun _ => rfl) (fun _ => rfl) rfl (by intro u hu; simp [Value.cells] at hu; rcases hu with rfl | rfl <;> rfl) (fun bx wx ex hbx hbc => ?_))); clear hK K; refine LX_la (by kernel_rfl) (fun K hK => ?_))
   |(refine oF 0 ?_; refine LA_fieldAddr (a := ⟨bx, 0, none⟩) (a' := ⟨bx, 0, none⟩) rfl rfl (fun _ => rfl) ?_)
   |(refine oF 1 ?_; refine LA_fieldAddr (a := ⟨bx, 0, none⟩) (a' := ⟨bx, 1, none⟩) rfl rfl (fun _ => rfl) ?_)
   |(refine oLt 71 ?_; refine LA_loadBN rfl (fun _ => rfl) (fun _ => rfl) rfl hbc ?_)
   |(refine oLt 30 ?_; refine LA_loadB rfl (fun _ => rfl) rfl hbc rfl ?_)
   |(refine oLen ?_; refine LA_lenR rfl _ rfl rfl (by first | exact HasR.val (by assumption) | exact HasR.own | exact HasR.ownV (by assumption)) ?_)|(refine oM ?_;first|refine LA_moveV rfl rfl ?_|refine LA_moveP rfl rfl ?_|refine LA_moveT rfl rfl ?_|refine LA_moveU rfl rfl ?_)|(refine oA ?_;first|refine LA_assignV rfl rfl ?_|refine LA_assignP rfl rfl ?_|refine LA_assignT rfl rfl ?_)|(refine oP ?_;first|refine LA_pickTV rfl rfl rfl ?_|refine LA_pickFV rfl rfl rfl ?_)|(refine oN ?_;first|refine LA_notT rfl rfl ?_|refine LA_notF rfl rfl ?_|refine LA_not rfl rfl ?_)|(refine oX ?_;first|refine LA_ext0 rfl rfl ?_|refine LA_ext1 rfl rfl ?_|refine LA_ext30 rfl rfl ?_|refine LA_ext31 rfl rfl ?_|refine LA_ext32 rfl rfl ?_)|(refine oB .add ?_;first|refine stAdd rfl rfl rfl ?_|refine LA_addW rfl rfl rfl ?_)|(refine oB .sub ?_;first|refine stSub rfl rfl rfl ?_|refine LA_subW rfl rfl rfl ?_)|(refine oB .mul ?_;first|refine stMul rfl rfl rfl ?_|refine LA_mulW rfl rfl rfl ?_)|(refine oB .quo ?_;refine stQuo rfl rfl rfl ?_)|(refine oB .rem ?_;refine stRem rfl rfl rfl ?_)|(refine oB .shr ?_;refine stShr rfl rfl rfl ?_;try dsimp only [Int.reduceToNat, Int.reducePow])|(refine oB .shl ?_;refine stShl rfl rfl rfl ?_;try dsimp only [Int.reduceToNat, Int.reducePow])|(refine oB _ ?_;first|refine stT rfl rfl rfl rfl ?_|refine stF rfl rfl rfl rfl ?_|(refine LA_cmp rfl rfl rfl rfl (fun hc => ?_) (fun hc => ?_)<;>dsimp only [cmpP] at hc)|refine stBET rfl rfl rfl rfl ?_|refine stBEF rfl rfl rfl rfl ?_|refine LA_boolEq rfl rfl rfl rfl ?_|refine stBNT rfl rfl rfl rfl ?_|refine stBNF rfl rfl rfl rfl ?_|refine LA_boolNe rfl rfl rfl rfl ?_)|(refine oI ?_;first|refine stIN rfl _ rfl (fun _ => rfl) rfl rfl ?_|(refine stII rfl _ rfl (fun _ => rfl) rfl rfl ?_;try dsimp only [Int.reduceToNat]))|(refine oL ?_;refine LA_load rfl (fun _ => rfl) rfl ?_)|(refine oV ?_;first|refine stCnv rfl rfl rfl rfl ?_|refine LA_conv rfl rfl rfl rfl ?_)|(refine oS ?_;first|(refine stSL rfl _ rfl rfl rfl (fun _ => rfl) ?_;try dsimp only [Int.reduceToNat, Int.toNat_natCast])|(refine stSH rfl _ rfl rfl rfl (fun _ => rfl) ?_;try dsimp only [Int.reduceToNat, Int.toNat_natCast])|(refine stSLH rfl _ rfl rfl rfl rfl (fun _ => rfl) ?_;try dsimp only [Int.reduceToNat, Int.toNat_natCast]))|(refine oLen ?_;refine stLen rfl _ rfl rfl ?_)
   |(refine LA_nil (hK [] _ (LX_nil ?_));clear hK K)|(refine LA_nil (hK _ ?_);clear hK K))
   |(refine oCX ?_;first
   |refine CX_seq ?_|refine CX_skip ?_|refine CX_block ?_|refine CX_exit ?_|refine CX_ret ?_|refine CX_condT rfl ?_|refine CX_condF rfl ?_|refine CX_region (by kernel_rfl) (fun K hK => ?_)|refine CX_regionA (by kernel_rfl) (by kernel_rfl) (fun K hK => ?_)|refine CX_label ?_|refine CX_scope ?_)
   |(refine oPX ?_;first
   |refine PX_then ?_|refine PX_thenX ?_|refine PX_thenR ?_|refine PX_blockN ?_|refine PX_blockR ?_|refine PX_blockX ?_|refine PX_blockO (by decide) ?_|refine PX_scopeN ?_|refine PX_scopeR ?_|refine PX_scopeX ?_)
   |(refine oLX ?_;first
   |refine LX_nil ?_))
  refine CX_loopV (ι := Nat × Value × Int) (fun i => [(0, .val i.2.1), (1, .val (.int .i64 i.2.2)), (8, .val v), (9, .val (.int .i64 rs.length)), (10, .val (.int .i64 i.1))])
    (fun i w' => Ext w w' ∧ i.1 ≤ rs.length ∧ SlR w i.2.1 (rs.drop i.1) ∧ selR rs k0 = selR (rs.drop i.1) i.2.2 ∧ (-9223372036854775808 ≤ i.2.2 ∧ i.2.2 < 9223372036854775808)) (fun i => rs.length - i.1)
    (fun w2 e2 => ⟨(0, v, k0), ⟨e2, Nat.zero_le _, h, rfl, hk0⟩, (by repeat' (first | exact Sub.nil | refine Sub.val rfl (by first | with_reducible rfl | (congr 1; omega)) ?_ | refine Sub.same rfl ?_))⟩) ?_
  rintro ⟨k, vk, kk⟩ w1 ⟨he, hk, hvk, hsel, hkk⟩
  dsimp only at hk hvk hsel hkk ⊢
  have h1 := h.ext he
  have hv1 := hvk.ext he
  by_cases hkl : k < rs.length
  · obtain ⟨u1, u2, u3, u4⟩ := hu.at k
    obtain ⟨-, hr2⟩ := hr k hkl
    have hd := drop_run hkl
    rw [hd] at hv1 hsel hvk
    have hsl : selR ((fst rs k, mor rs k) :: rs.drop (k + 1)) kk = if kk ≤ mor rs k then (if kk < 0 then (0, false) else (fst rs k + kk, true)) else selR (rs.drop (k + 1)) (kk - (mor rs k + 1)) := rfl
    rw [hsl] at hsel
    by_cases hle : kk ≤ mor rs k
    · rw [if_pos hle] at hsel
      by_cases hneg : kk < 0
      · rw [if_pos hneg] at hsel
        rw [hsel]
        repeat' (first
         |(refine oLA ?_;first
         |refine LA_pass rfl ?_
         |(refine oI ?_; refine LA_indexR rfl _ rfl (fun _ => rfl) rfl (by first | exact HasR.val (by assumption) | exact HasR.own | exact HasR.ownV (by assumption)) rfl (by omega) ?_)
         |(refine oLt 71 ?_; refine LA_loadC rfl (fun _ => rfl) (fun _ => rfl) rfl ?_)
         |(show LA _ _ _ _ (⟨some 7, .alloc _, _, _, _, _⟩ :: _) _; refine LA_stop (hK _ _ (LX_var rfl rfl (by decide) (fun _ => rfl) (fun _ => rfl) (fun _ => rfl) rfl (by intro u hu; simp [Value.cells] at hu; rcases hu with rfl | rfl <;> rfl) (fun bx wx ex hbx hbc => ?_))); clear hK K; refine LX_la (by kernel_rfl) (fun K hK => ?_))
         |(refine oF 0 ?_; refine LA_fieldAddr (a := ⟨bx, 0, none⟩) (a' := ⟨bx, 0, none⟩) rfl rfl (fun _ => rfl) ?_)
         |(refine oF 1 ?_; refine LA_fieldAddr (a := ⟨bx, 0, none⟩) (a' := ⟨bx, 1, none⟩) rfl rfl (fun _ => rfl) ?_)
         |(refine oLt 71 ?_; refine LA_loadBN rfl (fun _ => rfl) (fun _ => rfl) rfl hbc ?_)
         |(refine oLt 30 ?_; refine LA_loadB rfl (fun _ => rfl) rfl hbc rfl ?_)
         |(refine oLen ?_; refine LA_lenR rfl _ rfl rfl (by first | exact HasR.val (by assumption) | exact HasR.own | exact HasR.ownV (by assumption)) ?_)|(refine oM ?_;first|refine LA_moveV rfl rfl ?_|refine LA_moveP rfl rfl ?_|refine LA_moveT rfl rfl ?_|refine LA_moveU rfl rfl ?_)|(refine oA ?_;first|refine LA_assignV rfl rfl ?_|refine LA_assignP rfl rfl ?_|refine LA_assignT rfl rfl ?_)|(refine oP ?_;first|refine LA_pickTV rfl rfl rfl ?_|refine LA_pickFV rfl rfl rfl ?_)|(refine oN ?_;first|refine LA_notT rfl rfl ?_|refine LA_notF rfl rfl ?_|refine LA_not rfl rfl ?_)|(refine oX ?_;first|refine LA_ext0 rfl rfl ?_|refine LA_ext1 rfl rfl ?_|refine LA_ext30 rfl rfl ?_|refine LA_ext31 rfl rfl ?_|refine LA_ext32 rfl rfl ?_)|(refine oB .add ?_;first|refine stAdd rfl rfl rfl ?_|refine LA_addW rfl rfl rfl ?_)|(refine oB .sub ?_;first|refine stSub rfl rfl rfl ?_|refine LA_subW rfl rfl rfl ?_)|(refine oB .mul ?_;first|refine stMul rfl rfl rfl ?_|refine LA_mulW rfl rfl rfl ?_)|(refine oB .quo ?_;refine stQuo rfl rfl rfl ?_)|(refine oB .rem ?_;refine stRem rfl rfl rfl ?_)|(refine oB .shr ?_;refine stShr rfl rfl rfl ?_;try dsimp only [Int.reduceToNat, Int.reducePow])|(refine oB .shl ?_;refine stShl rfl rfl rfl ?_;try dsimp only [Int.reduceToNat, Int.reducePow])|(refine oB _ ?_;first|refine stT rfl rfl rfl rfl ?_|refine stF rfl rfl rfl rfl ?_|(refine LA_cmp rfl rfl rfl rfl (fun hc => ?_) (fun hc => ?_)<;>dsimp only [cmpP] at hc)|refine stBET rfl rfl rfl rfl ?_|refine stBEF rfl rfl rfl rfl ?_|refine LA_boolEq rfl rfl rfl rfl ?_|refine stBNT rfl rfl rfl rfl ?_|refine stBNF rfl rfl rfl rfl ?_|refine LA_boolNe rfl rfl rfl rfl ?_)|(refine oI ?_;first|refine stIN rfl _ rfl (fun _ => rfl) rfl rfl ?_|(refine stII rfl _ rfl (fun _ => rfl) rfl rfl ?_;try dsimp only [Int.reduceToNat]))|(refine oL ?_;refine LA_load rfl (fun _ => rfl) rfl ?_)|(refine oV ?_;first|refine stCnv rfl rfl rfl rfl ?_|refine LA_conv rfl rfl rfl rfl ?_)|(refine oS ?_;first|(refine stSL rfl _ rfl rfl rfl (fun _ => rfl) ?_;try dsimp only [Int.reduceToNat, Int.toNat_natCast])|(refine stSH rfl _ rfl rfl rfl (fun _ => rfl) ?_;try dsimp only [Int.reduceToNat, Int.toNat_natCast])|(refine stSLH rfl _ rfl rfl rfl rfl (fun _ => rfl) ?_;try dsimp only [Int.reduceToNat, Int.toNat_natCast]))|(refine oLen ?_;refine stLen rfl _ rfl rfl ?_)
         |(refine LA_nil (hK [] _ (LX_nil ?_));clear hK K)|(refine LA_nil (hK _ ?_);clear hK K))
         |(refine oCX ?_;first
         |refine CX_seq ?_|refine CX_skip ?_|refine CX_block ?_|refine CX_exit ?_|refine CX_ret ?_|refine CX_condT rfl ?_|refine CX_condF rfl ?_|refine CX_region (by kernel_rfl) (fun K hK => ?_)|refine CX_regionA (by kernel_rfl) (by kernel_rfl) (fun K hK => ?_)|refine CX_label ?_|refine CX_scope ?_)
         |(refine oPX ?_;first
         |refine PX_then ?_|refine PX_thenX ?_|refine PX_thenR ?_|refine PX_blockN ?_|refine PX_blockR ?_|refine PX_blockX ?_|refine PX_blockO (by decide) ?_|refine PX_scopeN ?_|refine PX_scopeR ?_|refine PX_scopeX ?_
         |exact PX_retE2 rfl rfl rfl (he.trans ex) rfl rfl)
         |(refine oLX ?_;first
         |refine LX_nil ?_))
      · rw [if_neg hneg] at hsel
        rw [hsel]
        have hf0 : fst ((fst rs k, mor rs k) :: rs.drop (k + 1)) 0 = fst rs k := rfl
        have hln : (((fst rs k, mor rs k) :: rs.drop (k + 1)).length : Int) = (rs.drop (k + 1)).length + 1 := by simp
        repeat' (first
         |(refine oLA ?_;first
         |refine LA_pass rfl ?_
         |(refine oD 32 ?_; refine LA_lenR rfl _ rfl rfl (HasR.val (hv1.ext ex)) ?_; rw [hln])
         |(refine oD 36 ?_; refine LA_indexR (j := 0) rfl _ rfl (fun _ => rfl) rfl (HasR.val (hv1.ext ex)) rfl (by simp) ?_; rw [hf0])
         |(refine oD 37 ?_; refine LA_fieldC (f := 0) (o := 0) rfl rfl (fun _ _ => rfl) ?_)
         |(refine oD 38 ?_; refine LA_loadH rfl (fun _ => rfl) rfl rfl ?_)
         |(refine oI ?_; refine LA_indexR rfl _ rfl (fun _ => rfl) rfl (by first | exact HasR.val (by assumption) | exact HasR.own | exact HasR.ownV (by assumption)) rfl (by omega) ?_)
         |(refine oLt 71 ?_; refine LA_loadC rfl (fun _ => rfl) (fun _ => rfl) rfl ?_)
         |(show LA _ _ _ _ (⟨some 7, .alloc _, _, _, _, _⟩ :: _) _; refine LA_stop (hK _ _ (LX_var rfl rfl (by decide) (fun _ => rfl) (fun _ => rfl) (fun _ => rfl) rfl (by intro u hu; simp [Value.cells] at hu; rcases hu with rfl | rfl <;> rfl) (fun bx wx ex hbx hbc => ?_))); clear hK K; refine LX_la (by kernel_rfl) (fun K hK => ?_))
         |(refine oF 0 ?_; refine LA_fieldAddr (a := ⟨bx, 0, none⟩) (a' := ⟨bx, 0, none⟩) rfl rfl (fun _ => rfl) ?_)
         |(refine oF 1 ?_; refine LA_fieldAddr (a := ⟨bx, 0, none⟩) (a' := ⟨bx, 1, none⟩) rfl rfl (fun _ => rfl) ?_)
         |(refine oLt 71 ?_; refine LA_loadBN rfl (fun _ => rfl) (fun _ => rfl) rfl hbc ?_)
         |(refine oLt 30 ?_; refine LA_loadB rfl (fun _ => rfl) rfl hbc rfl ?_)
         |(refine oLen ?_; refine LA_lenR rfl _ rfl rfl (by first | exact HasR.val (by assumption) | exact HasR.own | exact HasR.ownV (by assumption)) ?_)|(refine oM ?_;first|refine LA_moveV rfl rfl ?_|refine LA_moveP rfl rfl ?_|refine LA_moveT rfl rfl ?_|refine LA_moveU rfl rfl ?_)|(refine oA ?_;first|refine LA_assignV rfl rfl ?_|refine LA_assignP rfl rfl ?_|refine LA_assignT rfl rfl ?_)|(refine oP ?_;first|refine LA_pickTV rfl rfl rfl ?_|refine LA_pickFV rfl rfl rfl ?_)|(refine oN ?_;first|refine LA_notT rfl rfl ?_|refine LA_notF rfl rfl ?_|refine LA_not rfl rfl ?_)|(refine oX ?_;first|refine LA_ext0 rfl rfl ?_|refine LA_ext1 rfl rfl ?_|refine LA_ext30 rfl rfl ?_|refine LA_ext31 rfl rfl ?_|refine LA_ext32 rfl rfl ?_)|(refine oB .add ?_;first|refine stAdd rfl rfl rfl ?_|refine LA_addW rfl rfl rfl ?_)|(refine oB .sub ?_;first|refine stSub rfl rfl rfl ?_|refine LA_subW rfl rfl rfl ?_)|(refine oB .mul ?_;first|refine stMul rfl rfl rfl ?_|refine LA_mulW rfl rfl rfl ?_)|(refine oB .quo ?_;refine stQuo rfl rfl rfl ?_)|(refine oB .rem ?_;refine stRem rfl rfl rfl ?_)|(refine oB .shr ?_;refine stShr rfl rfl rfl ?_;try dsimp only [Int.reduceToNat, Int.reducePow])|(refine oB .shl ?_;refine stShl rfl rfl rfl ?_;try dsimp only [Int.reduceToNat, Int.reducePow])|(refine oB _ ?_;first|refine stT rfl rfl rfl rfl ?_|refine stF rfl rfl rfl rfl ?_|(refine LA_cmp rfl rfl rfl rfl (fun hc => ?_) (fun hc => ?_)<;>dsimp only [cmpP] at hc)|refine stBET rfl rfl rfl rfl ?_|refine stBEF rfl rfl rfl rfl ?_|refine LA_boolEq rfl rfl rfl rfl ?_|refine stBNT rfl rfl rfl rfl ?_|refine stBNF rfl rfl rfl rfl ?_|refine LA_boolNe rfl rfl rfl rfl ?_)|(refine oI ?_;first|refine stIN rfl _ rfl (fun _ => rfl) rfl rfl ?_|(refine stII rfl _ rfl (fun _ => rfl) rfl rfl ?_;try dsimp only [Int.reduceToNat]))|(refine oL ?_;refine LA_load rfl (fun _ => rfl) rfl ?_)|(refine oV ?_;first|refine stCnv rfl rfl rfl rfl ?_|refine LA_conv rfl rfl rfl rfl ?_)|(refine oS ?_;first|(refine stSL rfl _ rfl rfl rfl (fun _ => rfl) ?_;try dsimp only [Int.reduceToNat, Int.toNat_natCast])|(refine stSH rfl _ rfl rfl rfl (fun _ => rfl) ?_;try dsimp only [Int.reduceToNat, Int.toNat_natCast])|(refine stSLH rfl _ rfl rfl rfl rfl (fun _ => rfl) ?_;try dsimp only [Int.reduceToNat, Int.toNat_natCast]))|(refine oLen ?_;refine stLen rfl _ rfl rfl ?_)
         |(refine LA_nil (hK [] _ (LX_nil ?_));clear hK K)|(refine LA_nil (hK _ ?_);clear hK K))
         |(refine oCX ?_;first
         |refine CX_seq ?_|refine CX_skip ?_|refine CX_block ?_|refine CX_exit ?_|refine CX_ret ?_|refine CX_condT rfl ?_|refine CX_condF rfl ?_|refine CX_region (by kernel_rfl) (fun K hK => ?_)|refine CX_regionA (by kernel_rfl) (by kernel_rfl) (fun K hK => ?_)|refine CX_label ?_|refine CX_scope ?_)
         |(refine oPX ?_;first
         |refine PX_then ?_|refine PX_thenX ?_|refine PX_thenR ?_|refine PX_blockN ?_|refine PX_blockR ?_|refine PX_blockX ?_|refine PX_blockO (by decide) ?_|refine PX_scopeN ?_|refine PX_scopeR ?_|refine PX_scopeX ?_
         |exact PX_retE2 rfl rfl rfl (he.trans ex) rfl rfl)
         |(refine oLX ?_;first
         |refine LX_nil ?_))
    · rw [if_neg hle] at hsel
      have hvt := SlR.tail hvk
      have hl1 : (1 : Int) ≤ (((fst rs k, mor rs k) :: rs.drop (k + 1)).length : Int) := by rw [List.length_cons]; omega
      have hv1' : SlC w1 vk ((fst rs k, mor rs k) :: rs.drop (k + 1)).length 2 (cellsR ((fst rs k, mor rs k) :: rs.drop (k + 1))) := hv1
      repeat' (first
       |(refine oLA ?_;first
       |refine LA_pass rfl ?_
       |(refine oD 26 ?_; refine LA_sliceL rfl _ rfl rfl (HasC.val (SlC.ext hv1' ex)) rfl (by omega) hl1 (by exact fun _ => rfl) ?_; dsimp only [Int.reduceToNat])
       |(refine oI ?_; refine LA_indexR rfl _ rfl (fun _ => rfl) rfl (by first | exact HasR.val (by assumption) | exact HasR.own | exact HasR.ownV (by assumption)) rfl (by omega) ?_)
       |(refine oLt 71 ?_; refine LA_loadC rfl (fun _ => rfl) (fun _ => rfl) rfl ?_)
       |(show LA _ _ _ _ (⟨some 7, .alloc _, _, _, _, _⟩ :: _) _; refine LA_stop (hK _ _ (LX_var rfl rfl (by decide) (fun _ => rfl) (fun _ => rfl) (fun _ => rfl) rfl (by intro u hu; simp [Value.cells] at hu; rcases hu with rfl | rfl <;> rfl) (fun bx wx ex hbx hbc => ?_))); clear hK K; refine LX_la (by kernel_rfl) (fun K hK => ?_))
       |(refine oF 0 ?_; refine LA_fieldAddr (a := ⟨bx, 0, none⟩) (a' := ⟨bx, 0, none⟩) rfl rfl (fun _ => rfl) ?_)
       |(refine oF 1 ?_; refine LA_fieldAddr (a := ⟨bx, 0, none⟩) (a' := ⟨bx, 1, none⟩) rfl rfl (fun _ => rfl) ?_)
       |(refine oLt 71 ?_; refine LA_loadBN rfl (fun _ => rfl) (fun _ => rfl) rfl hbc ?_)
       |(refine oLt 30 ?_; refine LA_loadB rfl (fun _ => rfl) rfl hbc rfl ?_)
       |(refine oLen ?_; refine LA_lenR rfl _ rfl rfl (by first | exact HasR.val (by assumption) | exact HasR.own | exact HasR.ownV (by assumption)) ?_)|(refine oM ?_;first|refine LA_moveV rfl rfl ?_|refine LA_moveP rfl rfl ?_|refine LA_moveT rfl rfl ?_|refine LA_moveU rfl rfl ?_)|(refine oA ?_;first|refine LA_assignV rfl rfl ?_|refine LA_assignP rfl rfl ?_|refine LA_assignT rfl rfl ?_)|(refine oP ?_;first|refine LA_pickTV rfl rfl rfl ?_|refine LA_pickFV rfl rfl rfl ?_)|(refine oN ?_;first|refine LA_notT rfl rfl ?_|refine LA_notF rfl rfl ?_|refine LA_not rfl rfl ?_)|(refine oX ?_;first|refine LA_ext0 rfl rfl ?_|refine LA_ext1 rfl rfl ?_|refine LA_ext30 rfl rfl ?_|refine LA_ext31 rfl rfl ?_|refine LA_ext32 rfl rfl ?_)|(refine oB .add ?_;first|refine stAdd rfl rfl rfl ?_|refine LA_addW rfl rfl rfl ?_)|(refine oB .sub ?_;first|refine stSub rfl rfl rfl ?_|refine LA_subW rfl rfl rfl ?_)|(refine oB .mul ?_;first|refine stMul rfl rfl rfl ?_|refine LA_mulW rfl rfl rfl ?_)|(refine oB .quo ?_;refine stQuo rfl rfl rfl ?_)|(refine oB .rem ?_;refine stRem rfl rfl rfl ?_)|(refine oB .shr ?_;refine stShr rfl rfl rfl ?_;try dsimp only [Int.reduceToNat, Int.reducePow])|(refine oB .shl ?_;refine stShl rfl rfl rfl ?_;try dsimp only [Int.reduceToNat, Int.reducePow])|(refine oB _ ?_;first|refine stT rfl rfl rfl rfl ?_|refine stF rfl rfl rfl rfl ?_|(refine LA_cmp rfl rfl rfl rfl (fun hc => ?_) (fun hc => ?_)<;>dsimp only [cmpP] at hc)|refine stBET rfl rfl rfl rfl ?_|refine stBEF rfl rfl rfl rfl ?_|refine LA_boolEq rfl rfl rfl rfl ?_|refine stBNT rfl rfl rfl rfl ?_|refine stBNF rfl rfl rfl rfl ?_|refine LA_boolNe rfl rfl rfl rfl ?_)|(refine oI ?_;first|refine stIN rfl _ rfl (fun _ => rfl) rfl rfl ?_|(refine stII rfl _ rfl (fun _ => rfl) rfl rfl ?_;try dsimp only [Int.reduceToNat]))|(refine oL ?_;refine LA_load rfl (fun _ => rfl) rfl ?_)|(refine oV ?_;first|refine stCnv rfl rfl rfl rfl ?_|refine LA_conv rfl rfl rfl rfl ?_)|(refine oS ?_;first|(refine stSL rfl _ rfl rfl rfl (fun _ => rfl) ?_;try dsimp only [Int.reduceToNat, Int.toNat_natCast])|(refine stSH rfl _ rfl rfl rfl (fun _ => rfl) ?_;try dsimp only [Int.reduceToNat, Int.toNat_natCast])|(refine stSLH rfl _ rfl rfl rfl rfl (fun _ => rfl) ?_;try dsimp only [Int.reduceToNat, Int.toNat_natCast]))|(refine oLen ?_;refine stLen rfl _ rfl rfl ?_)
       |(refine LA_nil (hK [] _ (LX_nil ?_));clear hK K)|(refine LA_nil (hK _ ?_);clear hK K))
       |(refine oCX ?_;first
       |refine CX_seq ?_|refine CX_skip ?_|refine CX_block ?_|refine CX_exit ?_|refine CX_ret ?_|refine CX_condT rfl ?_|refine CX_condF rfl ?_|refine CX_region (by kernel_rfl) (fun K hK => ?_)|refine CX_regionA (by kernel_rfl) (by kernel_rfl) (fun K hK => ?_)|refine CX_label ?_|refine CX_scope ?_)
       |(refine oPX ?_;first
       |refine PX_then ?_|refine PX_thenX ?_|refine PX_thenR ?_|refine PX_blockN ?_|refine PX_blockR ?_|refine PX_blockX ?_|refine PX_blockO (by decide) ?_|refine PX_scopeN ?_|refine PX_scopeR ?_|refine PX_scopeX ?_)
       |(refine oLX ?_;first
       |refine LX_nil ?_))
      skip
      exact PX_rndV (k + 1, subS vk 1 ((fst rs k, mor rs k) :: rs.drop (k + 1)).length 2, kk - (mor rs k + 1)) (fun w5 e5 => ⟨he.trans (ex.trans e5), hkl, hvt, hsel, by dsimp only; omega⟩) (by dsimp only; omega) (by repeat' (first | exact Sub.nil | refine Sub.val rfl (by first | with_reducible rfl | (congr 1; omega)) ?_ | refine Sub.same rfl ?_))
  · obtain rfl : k = rs.length := by omega
    rw [List.drop_length] at hv1 hsel
    have hs0 : selR [] kk = (0, false) := rfl
    rw [hs0] at hsel
    rw [hsel]
    by_cases hneg : kk < 0
    all_goals
      repeat' (first
       |(refine oLA ?_;first
       |refine LA_pass rfl ?_
       |(refine oD 32 ?_; refine LA_lenR rfl _ rfl rfl (HasR.val hv1) ?_; rw [show ((([] : List Rn).length : Nat) : Int) = 0 from rfl])
       |(refine oI ?_; refine LA_indexR rfl _ rfl (fun _ => rfl) rfl (by first | exact HasR.val (by assumption) | exact HasR.own | exact HasR.ownV (by assumption)) rfl (by omega) ?_)
       |(refine oLt 71 ?_; refine LA_loadC rfl (fun _ => rfl) (fun _ => rfl) rfl ?_)
       |(show LA _ _ _ _ (⟨some 7, .alloc _, _, _, _, _⟩ :: _) _; refine LA_stop (hK _ _ (LX_var rfl rfl (by decide) (fun _ => rfl) (fun _ => rfl) (fun _ => rfl) rfl (by intro u hu; simp [Value.cells] at hu; rcases hu with rfl | rfl <;> rfl) (fun bx wx ex hbx hbc => ?_))); clear hK K; refine LX_la (by kernel_rfl) (fun K hK => ?_))
       |(refine oF 0 ?_; refine LA_fieldAddr (a := ⟨bx, 0, none⟩) (a' := ⟨bx, 0, none⟩) rfl rfl (fun _ => rfl) ?_)
       |(refine oF 1 ?_; refine LA_fieldAddr (a := ⟨bx, 0, none⟩) (a' := ⟨bx, 1, none⟩) rfl rfl (fun _ => rfl) ?_)
       |(refine oLt 71 ?_; refine LA_loadBN rfl (fun _ => rfl) (fun _ => rfl) rfl hbc ?_)
       |(refine oLt 30 ?_; refine LA_loadB rfl (fun _ => rfl) rfl hbc rfl ?_)
       |(refine oLen ?_; refine LA_lenR rfl _ rfl rfl (by first | exact HasR.val (by assumption) | exact HasR.own | exact HasR.ownV (by assumption)) ?_)|(refine oM ?_;first|refine LA_moveV rfl rfl ?_|refine LA_moveP rfl rfl ?_|refine LA_moveT rfl rfl ?_|refine LA_moveU rfl rfl ?_)|(refine oA ?_;first|refine LA_assignV rfl rfl ?_|refine LA_assignP rfl rfl ?_|refine LA_assignT rfl rfl ?_)|(refine oP ?_;first|refine LA_pickTV rfl rfl rfl ?_|refine LA_pickFV rfl rfl rfl ?_)|(refine oN ?_;first|refine LA_notT rfl rfl ?_|refine LA_notF rfl rfl ?_|refine LA_not rfl rfl ?_)|(refine oX ?_;first|refine LA_ext0 rfl rfl ?_|refine LA_ext1 rfl rfl ?_|refine LA_ext30 rfl rfl ?_|refine LA_ext31 rfl rfl ?_|refine LA_ext32 rfl rfl ?_)|(refine oB .add ?_;first|refine stAdd rfl rfl rfl ?_|refine LA_addW rfl rfl rfl ?_)|(refine oB .sub ?_;first|refine stSub rfl rfl rfl ?_|refine LA_subW rfl rfl rfl ?_)|(refine oB .mul ?_;first|refine stMul rfl rfl rfl ?_|refine LA_mulW rfl rfl rfl ?_)|(refine oB .quo ?_;refine stQuo rfl rfl rfl ?_)|(refine oB .rem ?_;refine stRem rfl rfl rfl ?_)|(refine oB .shr ?_;refine stShr rfl rfl rfl ?_;try dsimp only [Int.reduceToNat, Int.reducePow])|(refine oB .shl ?_;refine stShl rfl rfl rfl ?_;try dsimp only [Int.reduceToNat, Int.reducePow])|(refine oB _ ?_;first|refine stT rfl rfl rfl rfl ?_|refine stF rfl rfl rfl rfl ?_|(refine LA_cmp rfl rfl rfl rfl (fun hc => ?_) (fun hc => ?_)<;>dsimp only [cmpP] at hc)|refine stBET rfl rfl rfl rfl ?_|refine stBEF rfl rfl rfl rfl ?_|refine LA_boolEq rfl rfl rfl rfl ?_|refine stBNT rfl rfl rfl rfl ?_|refine stBNF rfl rfl rfl rfl ?_|refine LA_boolNe rfl rfl rfl rfl ?_)|(refine oI ?_;first|refine stIN rfl _ rfl (fun _ => rfl) rfl rfl ?_|(refine stII rfl _ rfl (fun _ => rfl) rfl rfl ?_;try dsimp only [Int.reduceToNat]))|(refine oL ?_;refine LA_load rfl (fun _ => rfl) rfl ?_)|(refine oV ?_;first|refine stCnv rfl rfl rfl rfl ?_|refine LA_conv rfl rfl rfl rfl ?_)|(refine oS ?_;first|(refine stSL rfl _ rfl rfl rfl (fun _ => rfl) ?_;try dsimp only [Int.reduceToNat, Int.toNat_natCast])|(refine stSH rfl _ rfl rfl rfl (fun _ => rfl) ?_;try dsimp only [Int.reduceToNat, Int.toNat_natCast])|(refine stSLH rfl _ rfl rfl rfl rfl (fun _ => rfl) ?_;try dsimp only [Int.reduceToNat, Int.toNat_natCast]))|(refine oLen ?_;refine stLen rfl _ rfl rfl ?_)
       |(refine LA_nil (hK [] _ (LX_nil ?_));clear hK K)|(refine LA_nil (hK _ ?_);clear hK K))
       |(refine oCX ?_;first
       |refine CX_seq ?_|refine CX_skip ?_|refine CX_block ?_|refine CX_exit ?_|refine CX_ret ?_|refine CX_condT rfl ?_|refine CX_condF rfl ?_|refine CX_region (by kernel_rfl) (fun K hK => ?_)|refine CX_regionA (by kernel_rfl) (by kernel_rfl) (fun K hK => ?_)|refine CX_label ?_|refine CX_scope ?_)
       |(refine oPX ?_;first
       |refine PX_then ?_|refine PX_thenX ?_|refine PX_thenR ?_|refine PX_blockN ?_|refine PX_blockR ?_|refine PX_blockX ?_|refine PX_blockO (by decide) ?_|refine PX_scopeN ?_|refine PX_scopeR ?_|refine PX_scopeX ?_
       |exact PX_retE2 rfl rfl rfl he rfl rfl)
       |(refine oLX ?_;first
       |refine LX_nil ?_))
theorem ret_tup2R {f : FuncId} {args : Array Value} {w : World} {a b a' b' : Value} (ha : a = a') (hb : b = b') (h : Fc Tryd.prog f args w (Ret w (.tup2 (.val a) (.val b)))) : Fc Tryd.prog f args w (Ret w (.tup2 (.val a') (.val b'))) := by
  subst ha; subst hb; exact h

/-! ### The runs of an array -/
theorem last_cells {a : List Rn} {f m : Int} : cellsR (a ++ [(f, m)]) = cellsR a ++ [.int .u16 f, .int .u16 m] := by rw [cellsR_app]; rfl
theorem last_at {cur : Array Value} {a : List Rn} {f m : Int} (h : cur.toList.take ((a ++ [(f, m)]).length * 2) = cellsR (a ++ [(f, m)])) : cur[a.length * 2 + 1]? = some (.int .u16 m) := by
  rw [last_cells, List.length_append] at h
  have h1 := congrArg (fun l => l[a.length * 2 + 1]?) h
  simp only [List.getElem?_take] at h1
  rw [if_pos (by simp; omega), List.getElem?_append_right (by rw [cellsR_len]; omega), cellsR_len, show a.length * 2 + 1 - a.length * 2 = 1 by omega] at h1
  rw [← Array.getElem?_toList, h1]; rfl
theorem OwnR.bump {base e b cap : Nat} {w : World} {cur : Array Value} {a : List Rn} {f m : Int} (hb : base ≤ b) (hg : w.heap[b]? = some (.cells cur e (0, 0))) (hnc : (a ++ [(f, m)]).length ≤ cap) (hm : cap ≤ maxLen) (hsz : cur.size = cap * 2) (ht : cur.toList.take ((a ++ [(f, m)]).length * 2) = cellsR (a ++ [(f, m)])) (c : Int) :
    OwnR base e (w.setRow b (cur.setIfInBounds (a.length * 2 + 1) (.int .u16 c))) (.slice (some ⟨b, 0, none⟩) (a ++ [(f, m)]).length cap) (a ++ [(f, c)]) := by
  have hl : (a ++ [(f, c)]).length = (a ++ [(f, m)]).length := by simp
  unfold OwnR
  rw [hl]
  refine ⟨by rw [cellsR_len, hl], .inr ⟨b, cap, cur.setIfInBounds (a.length * 2 + 1) (.int .u16 c), rfl, hb, setRow_heap w b cur _ e _ hg, hnc, hm, by simpa using hsz, ?_⟩⟩
  rw [Array.toList_setIfInBounds, List.take_set, ht, last_cells, last_cells, List.set_append_right _ _ (by rw [cellsR_len]; omega), cellsR_len, show a.length * 2 + 1 - a.length * 2 = 1 by omega]
  rfl
def Tk (xs : List Int) : Nat → Nat
  | 0 => 0
  | k + 1 => (xs.getD k 0).toNat + 1
theorem inc_gap {xs : List Int} (h : Inc xs) (hl : Low xs) {k : Nat} (hk : k < xs.length) : Tk xs k ≤ (xs.getD k 0).toNat ∧ (∀ z, Tk xs k ≤ z → z < (xs.getD k 0).toNat → memb xs z = false) ∧ memb xs (xs.getD k 0).toNat = true := by
  have hb : ∀ j, j < xs.length → 0 ≤ xs.getD j 0 ∧ xs.getD j 0 < 65536 := fun j hj => by rw [getD_eq hj]; exact hl _ (List.getElem_mem hj)
  have hlt : ∀ i j, i < j → j < xs.length → xs.getD i 0 < xs.getD j 0 := fun i j hij hj => by
    rw [getD_eq hj, getD_eq (by omega)]
    exact List.pairwise_iff_getElem.1 h i j (by omega) hj hij
  refine ⟨?_, fun z h1 h2 => ?_, ?_⟩
  · cases k with
    | zero => exact Nat.zero_le _
    | succ k => have := hlt k (k + 1) (by omega) hk; have := hb k (by omega); simp only [Tk]; omega
  · unfold memb
    refine decide_eq_false fun hm => ?_
    obtain ⟨j, hj, he⟩ := List.getElem_of_mem hm
    have he' : xs.getD j 0 = z := by rw [getD_eq hj]; exact he
    rcases Nat.lt_or_ge j k with h3 | h3
    · obtain ⟨k', rfl⟩ : ∃ k', k = k' + 1 := ⟨k - 1, by omega⟩
      simp only [Tk] at h1
      rcases Nat.lt_or_ge j k' with h4 | h4
      · have := hlt j k' h4 (by omega); have := hb k' (by omega); omega
      · obtain rfl : j = k' := by omega
        omega
    · rcases Nat.lt_or_ge k j with h4 | h4
      · have := hlt k j h4 hj; have := hb k hk; omega
      · obtain rfl : j = k := by omega
        omega
  · unfold memb
    have := hb k hk
    rw [show (((xs.getD k 0).toNat : Nat) : Int) = xs.getD k 0 by omega]
    exact decide_eq_true (by rw [getD_eq hk]; exact List.getElem_mem hk)
set_option maxHeartbeats 4000000 in
theorem rofR_c (w : World) (v : Value) (xs : List Int) (h : SlI .u16 w v xs) (hi : Inc xs) (hl : Low xs) : Fc Tryd.prog 57 #[v] w (Ret w (.pred (ownR w.heap.size 71 (runsL (memb xs))))) := by
  have hlen := h.len
  refine Fc.of (args := [_]) Tryd.func57 rfl rfl Tryd.ntmps57 (Nat.le_of_ble_eq_true rfl) ?_
  repeat' (first
   |(refine oLA ?_;first
   |refine LA_pass rfl ?_|(refine oM ?_;first|refine LA_moveV rfl rfl ?_|refine LA_moveP rfl rfl ?_|refine LA_moveT rfl rfl ?_|refine LA_moveU rfl rfl ?_)|(refine oA ?_;first|refine LA_assignV rfl rfl ?_|refine LA_assignP rfl rfl ?_|refine LA_assignT rfl rfl ?_)|(refine oP ?_;first|refine LA_pickTV rfl rfl rfl ?_|refine LA_pickFV rfl rfl rfl ?_)|(refine oN ?_;first|refine LA_notT rfl rfl ?_|refine LA_notF rfl rfl ?_|refine LA_not rfl rfl ?_)|(refine oX ?_;first|refine LA_ext0 rfl rfl ?_|refine LA_ext1 rfl rfl ?_|refine LA_ext30 rfl rfl ?_|refine LA_ext31 rfl rfl ?_|refine LA_ext32 rfl rfl ?_)|(refine oB .add ?_;first|refine stAdd rfl rfl rfl ?_|refine LA_addW rfl rfl rfl ?_)|(refine oB .sub ?_;first|refine stSub rfl rfl rfl ?_|refine LA_subW rfl rfl rfl ?_)|(refine oB .mul ?_;first|refine stMul rfl rfl rfl ?_|refine LA_mulW rfl rfl rfl ?_)|(refine oB .quo ?_;refine stQuo rfl rfl rfl ?_)|(refine oB .rem ?_;refine stRem rfl rfl rfl ?_)|(refine oB .shr ?_;refine stShr rfl rfl rfl ?_;try dsimp only [Int.reduceToNat, Int.reducePow])|(refine oB .shl ?_;refine stShl rfl rfl rfl ?_;try dsimp only [Int.reduceToNat, Int.reducePow])|(refine oB _ ?_;first|refine stT rfl rfl rfl rfl ?_|refine stF rfl rfl rfl rfl ?_|(refine LA_cmp rfl rfl rfl rfl (fun hc => ?_) (fun hc => ?_)<;>dsimp only [cmpP] at hc)|refine stBET rfl rfl rfl rfl ?_|refine stBEF rfl rfl rfl rfl ?_|refine LA_boolEq rfl rfl rfl rfl ?_|refine stBNT rfl rfl rfl rfl ?_|refine stBNF rfl rfl rfl rfl ?_|refine LA_boolNe rfl rfl rfl rfl ?_)|(refine oI ?_;first|refine stIN rfl _ rfl (fun _ => rfl) rfl rfl ?_|(refine stII rfl _ rfl (fun _ => rfl) rfl rfl ?_;try dsimp only [Int.reduceToNat]))|(refine oL ?_;refine LA_load rfl (fun _ => rfl) rfl ?_)|(refine oV ?_;first|refine stCnv rfl rfl rfl rfl ?_|refine LA_conv rfl rfl rfl rfl ?_)|(refine oS ?_;first|(refine stSL rfl _ rfl rfl rfl (fun _ => rfl) ?_;try dsimp only [Int.reduceToNat, Int.toNat_natCast])|(refine stSH rfl _ rfl rfl rfl (fun _ => rfl) ?_;try dsimp only [Int.reduceToNat, Int.toNat_natCast])|(refine stSLH rfl _ rfl rfl rfl rfl (fun _ => rfl) ?_;try dsimp only [Int.reduceToNat, Int.toNat_natCast]))|(refine oLen ?_;refine stLen rfl _ rfl rfl ?_)
   |(refine LA_nil (hK [] _ (LX_nil ?_));clear hK K)|(refine LA_nil (hK _ ?_);clear hK K))
   |(refine oCX ?_;first
   |refine CX_seq ?_|refine CX_skip ?_|refine CX_block ?_|refine CX_exit ?_|refine CX_ret ?_|refine CX_condT rfl ?_|refine CX_condF rfl ?_|refine CX_region (by kernel_rfl) (fun K hK => ?_)|refine CX_regionA (by kernel_rfl) (by kernel_rfl) (fun K hK => ?_)|refine CX_label ?_|refine CX_scope ?_)
   |(refine oPX ?_;first
   |refine PX_then ?_|refine PX_thenX ?_|refine PX_thenR ?_|refine PX_blockN ?_|refine PX_blockR ?_|refine PX_blockX ?_|refine PX_blockO (by decide) ?_|refine PX_scopeN ?_|refine PX_scopeR ?_|refine PX_scopeX ?_)
   |(refine oLX ?_;first
   |refine LX_nil ?_))
  refine CX_loopV (ι := Nat × Value) (fun i => [(0, .val v), (3, .val i.2), (6, .val v), (7, .val (.int .i64 xs.length)), (8, .val (.int .i64 i.1))]) (fun i w' => Ext w w' ∧ i.1 ≤ xs.length ∧ OwnR w.heap.size 71 w' i.2 (opn (memb xs) (Tk xs i.1))) (fun i => xs.length - i.1)
    (fun w2 e2 => ⟨(0, .slice none 0 0), ⟨e2, Nat.zero_le _, OwnR.nil⟩, (by repeat' (first | exact Sub.nil | refine Sub.val rfl (by first | with_reducible rfl | (congr 1; omega)) ?_ | refine Sub.same rfl ?_))⟩) ?_
  rintro ⟨k, so⟩ w1 ⟨he, hk, ho⟩
  dsimp only at hk ho ⊢
  have h1 := h.ext he
  by_cases hkl : k < xs.length
  · obtain ⟨g1, g2, g3⟩ := inc_gap hi hl hkl
    have hxb : 0 ≤ xs.getD k 0 ∧ xs.getD k 0 < 65536 := by rw [getD_eq hkl]; exact hl _ (List.getElem_mem hkl)
    obtain ⟨X, hX⟩ := Int.eq_ofNat_of_zero_le hxb.1
    have hXb : X < 65536 := by omega
    have hTs : Tk xs (k + 1) = X + 1 := by simp only [Tk]; rw [hX]; rfl
    rw [hX, Int.toNat_natCast] at g1 g2 g3
    have hof := opn_flat X g1 g2
    rw [← hof] at ho
    by_cases hA : 0 < k ∧ Tk xs k = X
    · obtain ⟨j, rfl⟩ : ∃ j, k = j + 1 := ⟨k - 1, by omega⟩
      have hjb : 0 ≤ xs.getD j 0 ∧ xs.getD j 0 < 65536 := by rw [getD_eq (by omega)]; exact hl _ (List.getElem_mem _)
      have hjX : xs.getD j 0 + 1 = X := by have := hA.2; simp only [Tk] at this; omega
      have hji : (((j + 1 : Nat) : Int) - 1) = (j : Int) := by omega
      obtain ⟨Y, rfl⟩ : ∃ Y, X = Y + 1 := ⟨X - 1, by omega⟩
      have hbl : bel (memb xs) (Y + 1) = true := by
        show memb xs Y = true
        have := (inc_gap hi hl (k := j) (by omega)).2.2
        rwa [show (xs.getD j 0).toNat = Y by omega] at this
      have hfl := frm_lt (memb xs) (Y + 1) hbl
      rw [opn_at hbl] at ho
      have hnew := opn_more g3 hbl
      obtain ⟨f, hf⟩ : ∃ f : Int, f = frm (memb xs) (Y + 1) := ⟨_, rfl⟩
      obtain ⟨a, ha⟩ : ∃ a, a = rnC (memb xs) (Y + 1) := ⟨_, rfl⟩
      obtain ⟨m, hm⟩ : ∃ m : Int, m = ((Y + 1 : Nat) : Int) - f - 1 := ⟨_, rfl⟩
      rw [← hf, ← ha, ← hm] at ho
      rw [← hf, ← ha, show ((Y + 1 : Nat) : Int) - f = m + 1 by omega, ← hTs] at hnew
      have hal : a.length ≤ Y + 1 := ha ▸ rnC_len _ _
      have hfb : 0 ≤ f ∧ f < Y + 1 := by omega
      obtain ⟨gb, cap, cur, rfl, hgb, hgc, hgn, hgm, hgs, hgt⟩ := ho.row (by simp)
      have hra := last_at hgt
      have hln : ((a ++ [(f, m)]).length : Int) = (a.length : Int) + 1 := by simp
      have hlN : (a ++ [(f, m)]).length = a.length + 1 := by simp
      repeat' (first
       |(refine oLA ?_;first
       |refine LA_pass rfl ?_
       |(refine oD 19 ?_; refine LA_subF rfl rfl rfl (by dsimp only [fits]; omega) ?_; rw [hji])
       |(refine oD 12 ?_; refine LA_load rfl (fun _ => rfl) rfl ?_; rw [hX])
       |(refine oD 27 ?_; refine LA_lenR rfl _ rfl rfl (HasR.ownV ho) ?_; rw [hln])
       |(refine oD 28 ?_; refine LA_subF rfl rfl rfl (by dsimp only [fits]; omega) ?_; rw [Int.add_sub_cancel])
       |(refine oD 29 ?_; refine LA_indexS (s := 2) rfl rfl (fun _ => rfl) rfl rfl (by omega) (by omega) ?_; rw [Int.toNat_natCast])
       |(refine oD 33 ?_; refine LA_indexS (s := 2) rfl rfl (fun _ => rfl) rfl rfl (by omega) (by omega) ?_; rw [Int.toNat_natCast])
       |(refine oF 1 ?_; refine LA_fieldAddr (a := ⟨gb, 0 + a.length * 2, none⟩) (a' := ⟨gb, a.length * 2 + 1, none⟩) rfl rfl (fun w => by rw [Nat.zero_add]; rfl) ?_)
       |(refine oD 31 ?_; refine LA_loadB rfl (fun _ => rfl) rfl hgc hra ?_)
       |(refine LA_stop (hK _ _ (LX_store1 rfl rfl rfl hgc (fun _ => rfl) (by omega) rfl rfl (fun w4 e4 => ?_))); clear hK K; dsimp only [vals]; refine LX_la (by kernel_rfl) (fun K hK => ?_))|(refine oM ?_;first|refine LA_moveV rfl rfl ?_|refine LA_moveP rfl rfl ?_|refine LA_moveT rfl rfl ?_|refine LA_moveU rfl rfl ?_)|(refine oA ?_;first|refine LA_assignV rfl rfl ?_|refine LA_assignP rfl rfl ?_|refine LA_assignT rfl rfl ?_)|(refine oP ?_;first|refine LA_pickTV rfl rfl rfl ?_|refine LA_pickFV rfl rfl rfl ?_)|(refine oN ?_;first|refine LA_notT rfl rfl ?_|refine LA_notF rfl rfl ?_|refine LA_not rfl rfl ?_)|(refine oX ?_;first|refine LA_ext0 rfl rfl ?_|refine LA_ext1 rfl rfl ?_|refine LA_ext30 rfl rfl ?_|refine LA_ext31 rfl rfl ?_|refine LA_ext32 rfl rfl ?_)|(refine oB .add ?_;first|refine stAdd rfl rfl rfl ?_|refine LA_addW rfl rfl rfl ?_)|(refine oB .sub ?_;first|refine stSub rfl rfl rfl ?_|refine LA_subW rfl rfl rfl ?_)|(refine oB .mul ?_;first|refine stMul rfl rfl rfl ?_|refine LA_mulW rfl rfl rfl ?_)|(refine oB .quo ?_;refine stQuo rfl rfl rfl ?_)|(refine oB .rem ?_;refine stRem rfl rfl rfl ?_)|(refine oB .shr ?_;refine stShr rfl rfl rfl ?_;try dsimp only [Int.reduceToNat, Int.reducePow])|(refine oB .shl ?_;refine stShl rfl rfl rfl ?_;try dsimp only [Int.reduceToNat, Int.reducePow])|(refine oB _ ?_;first|refine stT rfl rfl rfl rfl ?_|refine stF rfl rfl rfl rfl ?_|(refine LA_cmp rfl rfl rfl rfl (fun hc => ?_) (fun hc => ?_)<;>dsimp only [cmpP] at hc)|refine stBET rfl rfl rfl rfl ?_|refine stBEF rfl rfl rfl rfl ?_|refine LA_boolEq rfl rfl rfl rfl ?_|refine stBNT rfl rfl rfl rfl ?_|refine stBNF rfl rfl rfl rfl ?_|refine LA_boolNe rfl rfl rfl rfl ?_)|(refine oI ?_;first|refine stIN rfl _ rfl (fun _ => rfl) rfl rfl ?_|(refine stII rfl _ rfl (fun _ => rfl) rfl rfl ?_;try dsimp only [Int.reduceToNat]))|(refine oL ?_;refine LA_load rfl (fun _ => rfl) rfl ?_)|(refine oV ?_;first|refine stCnv rfl rfl rfl rfl ?_|refine LA_conv rfl rfl rfl rfl ?_)|(refine oS ?_;first|(refine stSL rfl _ rfl rfl rfl (fun _ => rfl) ?_;try dsimp only [Int.reduceToNat, Int.toNat_natCast])|(refine stSH rfl _ rfl rfl rfl (fun _ => rfl) ?_;try dsimp only [Int.reduceToNat, Int.toNat_natCast])|(refine stSLH rfl _ rfl rfl rfl rfl (fun _ => rfl) ?_;try dsimp only [Int.reduceToNat, Int.toNat_natCast]))|(refine oLen ?_;refine stLen rfl _ rfl rfl ?_)
       |(refine LA_nil (hK [] _ (LX_nil ?_));clear hK K)|(refine LA_nil (hK _ ?_);clear hK K))
       |(refine oCX ?_;first
       |refine CX_seq ?_|refine CX_skip ?_|refine CX_block ?_|refine CX_exit ?_|refine CX_ret ?_|refine CX_condT rfl ?_|refine CX_condF rfl ?_|refine CX_region (by kernel_rfl) (fun K hK => ?_)|refine CX_regionA (by kernel_rfl) (by kernel_rfl) (fun K hK => ?_)|refine CX_label ?_|refine CX_scope ?_)
       |(refine oPX ?_;first
       |refine PX_then ?_|refine PX_thenX ?_|refine PX_thenR ?_|refine PX_blockN ?_|refine PX_blockR ?_|refine PX_blockX ?_|refine PX_blockO (by decide) ?_|refine PX_scopeN ?_|refine PX_scopeR ?_|refine PX_scopeX ?_)
       |(refine oLX ?_;first
       |refine LX_nil ?_))
      refine PX_rndV (j + 1 + 1, _) (fun w5 e5 => ⟨((he.trans e4).setRow hgb _).trans e5, hkl, ?_⟩) (by dsimp only; omega) (by repeat' (first | exact Sub.nil | refine Sub.val rfl (by first | with_reducible rfl | (congr 1; omega)) ?_ | refine Sub.same rfl ?_))
      dsimp only
      rw [hnew]
      exact OwnR.ext (OwnR.bump hgb (e4.block hgc) hgn hgm hgs hgt (m + 1)) e5
    · have hbl : bel (memb xs) X = false := by
        cases X with
        | zero => rfl
        | succ Y =>
          show memb xs Y = false
          cases k with
          | zero => exact g2 Y (Nat.zero_le _) (by omega)
          | succ j => exact g2 Y (by have : ¬ Tk xs (j + 1) = Y + 1 := fun e => hA ⟨by omega, e⟩; omega) (by omega)
      have hnew := opn_new g3 hbl
      rw [← hTs] at hnew
      have hol : (opn (memb xs) X).length ≤ X := by rw [many_opn]; exact cnt_le _ _
      by_cases hk0 : 0 < k
      · obtain ⟨j, rfl⟩ : ∃ j, k = j + 1 := ⟨k - 1, by omega⟩
        have hjb : 0 ≤ xs.getD j 0 ∧ xs.getD j 0 < 65536 := by rw [getD_eq (by omega)]; exact hl _ (List.getElem_mem _)
        have hjX : ¬ (X : Int) = xs.getD j 0 + 1 := fun e => hA ⟨by omega, by simp only [Tk]; omega⟩
        have hjl : xs.getD j 0 + 1 ≤ X := by have := g1; simp only [Tk] at this; omega
        have hji : (((j + 1 : Nat) : Int) - 1) = (j : Int) := by omega
        repeat' (first
         |(refine oLA ?_;first
         |refine LA_pass rfl ?_
         |(refine oD 19 ?_; refine LA_subF rfl rfl rfl (by dsimp only [fits]; omega) ?_; rw [hji])
         |(refine oD 12 ?_; refine LA_load rfl (fun _ => rfl) rfl ?_; rw [hX])
         |refine LA_build1 (c := runV X 0) rfl rfl (fun w => run_build w _ _ _ (by kernel_rfl)) ?_
         |refine LA_oneS rfl run_el rfl rfl (by decide) ?_
         |(refine LA_stop (hK _ _ (LX_appendR rfl (by decide) run_el rfl ho rfl (by omega) (by omega) he (fun v' w' he' ho' => ?_))); clear hK K; dsimp only [vals]; refine LX_la (by kernel_rfl) (fun K hK => ?_))|(refine oM ?_;first|refine LA_moveV rfl rfl ?_|refine LA_moveP rfl rfl ?_|refine LA_moveT rfl rfl ?_|refine LA_moveU rfl rfl ?_)|(refine oA ?_;first|refine LA_assignV rfl rfl ?_|refine LA_assignP rfl rfl ?_|refine LA_assignT rfl rfl ?_)|(refine oP ?_;first|refine LA_pickTV rfl rfl rfl ?_|refine LA_pickFV rfl rfl rfl ?_)|(refine oN ?_;first|refine LA_notT rfl rfl ?_|refine LA_notF rfl rfl ?_|refine LA_not rfl rfl ?_)|(refine oX ?_;first|refine LA_ext0 rfl rfl ?_|refine LA_ext1 rfl rfl ?_|refine LA_ext30 rfl rfl ?_|refine LA_ext31 rfl rfl ?_|refine LA_ext32 rfl rfl ?_)|(refine oB .add ?_;first|refine stAdd rfl rfl rfl ?_|refine LA_addW rfl rfl rfl ?_)|(refine oB .sub ?_;first|refine stSub rfl rfl rfl ?_|refine LA_subW rfl rfl rfl ?_)|(refine oB .mul ?_;first|refine stMul rfl rfl rfl ?_|refine LA_mulW rfl rfl rfl ?_)|(refine oB .quo ?_;refine stQuo rfl rfl rfl ?_)|(refine oB .rem ?_;refine stRem rfl rfl rfl ?_)|(refine oB .shr ?_;refine stShr rfl rfl rfl ?_;try dsimp only [Int.reduceToNat, Int.reducePow])|(refine oB .shl ?_;refine stShl rfl rfl rfl ?_;try dsimp only [Int.reduceToNat, Int.reducePow])|(refine oB _ ?_;first|refine stT rfl rfl rfl rfl ?_|refine stF rfl rfl rfl rfl ?_|(refine LA_cmp rfl rfl rfl rfl (fun hc => ?_) (fun hc => ?_)<;>dsimp only [cmpP] at hc)|refine stBET rfl rfl rfl rfl ?_|refine stBEF rfl rfl rfl rfl ?_|refine LA_boolEq rfl rfl rfl rfl ?_|refine stBNT rfl rfl rfl rfl ?_|refine stBNF rfl rfl rfl rfl ?_|refine LA_boolNe rfl rfl rfl rfl ?_)|(refine oI ?_;first|refine stIN rfl _ rfl (fun _ => rfl) rfl rfl ?_|(refine stII rfl _ rfl (fun _ => rfl) rfl rfl ?_;try dsimp only [Int.reduceToNat]))|(refine oL ?_;refine LA_load rfl (fun _ => rfl) rfl ?_)|(refine oV ?_;first|refine stCnv rfl rfl rfl rfl ?_|refine LA_conv rfl rfl rfl rfl ?_)|(refine oS ?_;first|(refine stSL rfl _ rfl rfl rfl (fun _ => rfl) ?_;try dsimp only [Int.reduceToNat, Int.toNat_natCast])|(refine stSH rfl _ rfl rfl rfl (fun _ => rfl) ?_;try dsimp only [Int.reduceToNat, Int.toNat_natCast])|(refine stSLH rfl _ rfl rfl rfl rfl (fun _ => rfl) ?_;try dsimp only [Int.reduceToNat, Int.toNat_natCast]))|(refine oLen ?_;refine stLen rfl _ rfl rfl ?_)
         |(refine LA_nil (hK [] _ (LX_nil ?_));clear hK K)|(refine LA_nil (hK _ ?_);clear hK K))
         |(refine oCX ?_;first
         |refine CX_seq ?_|refine CX_skip ?_|refine CX_block ?_|refine CX_exit ?_|refine CX_ret ?_|refine CX_condT rfl ?_|refine CX_condF rfl ?_|refine CX_region (by kernel_rfl) (fun K hK => ?_)|refine CX_regionA (by kernel_rfl) (by kernel_rfl) (fun K hK => ?_)|refine CX_label ?_|refine CX_scope ?_)
         |(refine oPX ?_;first
         |refine PX_then ?_|refine PX_thenX ?_|refine PX_thenR ?_|refine PX_blockN ?_|refine PX_blockR ?_|refine PX_blockX ?_|refine PX_blockO (by decide) ?_|refine PX_scopeN ?_|refine PX_scopeR ?_|refine PX_scopeX ?_)
         |(refine oLX ?_;first
         |refine LX_nil ?_))
        exact PX_rndV (j + 1 + 1, v') (fun w5 e5 => ⟨he'.trans e5, hkl, by dsimp only; rw [hnew]; exact ho'.ext e5⟩) (by dsimp only; omega) (by repeat' (first | exact Sub.nil | refine Sub.val rfl (by first | with_reducible rfl | (congr 1; omega)) ?_ | refine Sub.same rfl ?_))
      · obtain rfl : k = 0 := by omega
        repeat' (first
         |(refine oLA ?_;first
         |refine LA_pass rfl ?_
         |(refine oD 12 ?_; refine LA_load rfl (fun _ => rfl) rfl ?_; rw [hX])
         |refine LA_build1 (c := runV X 0) rfl rfl (fun w => run_build w _ _ _ (by kernel_rfl)) ?_
         |refine LA_oneS rfl run_el rfl rfl (by decide) ?_
         |(refine LA_stop (hK _ _ (LX_appendR rfl (by decide) run_el rfl ho rfl (by omega) (by omega) he (fun v' w' he' ho' => ?_))); clear hK K; dsimp only [vals]; refine LX_la (by kernel_rfl) (fun K hK => ?_))|(refine oM ?_;first|refine LA_moveV rfl rfl ?_|refine LA_moveP rfl rfl ?_|refine LA_moveT rfl rfl ?_|refine LA_moveU rfl rfl ?_)|(refine oA ?_;first|refine LA_assignV rfl rfl ?_|refine LA_assignP rfl rfl ?_|refine LA_assignT rfl rfl ?_)|(refine oP ?_;first|refine LA_pickTV rfl rfl rfl ?_|refine LA_pickFV rfl rfl rfl ?_)|(refine oN ?_;first|refine LA_notT rfl rfl ?_|refine LA_notF rfl rfl ?_|refine LA_not rfl rfl ?_)|(refine oX ?_;first|refine LA_ext0 rfl rfl ?_|refine LA_ext1 rfl rfl ?_|refine LA_ext30 rfl rfl ?_|refine LA_ext31 rfl rfl ?_|refine LA_ext32 rfl rfl ?_)|(refine oB .add ?_;first|refine stAdd rfl rfl rfl ?_|refine LA_addW rfl rfl rfl ?_)|(refine oB .sub ?_;first|refine stSub rfl rfl rfl ?_|refine LA_subW rfl rfl rfl ?_)|(refine oB .mul ?_;first|refine stMul rfl rfl rfl ?_|refine LA_mulW rfl rfl rfl ?_)|(refine oB .quo ?_;refine stQuo rfl rfl rfl ?_)|(refine oB .rem ?_;refine stRem rfl rfl rfl ?_)|(refine oB .shr ?_;refine stShr rfl rfl rfl ?_;try dsimp only [Int.reduceToNat, Int.reducePow])|(refine oB .shl ?_;refine stShl rfl rfl rfl ?_;try dsimp only [Int.reduceToNat, Int.reducePow])|(refine oB _ ?_;first|refine stT rfl rfl rfl rfl ?_|refine stF rfl rfl rfl rfl ?_|(refine LA_cmp rfl rfl rfl rfl (fun hc => ?_) (fun hc => ?_)<;>dsimp only [cmpP] at hc)|refine stBET rfl rfl rfl rfl ?_|refine stBEF rfl rfl rfl rfl ?_|refine LA_boolEq rfl rfl rfl rfl ?_|refine stBNT rfl rfl rfl rfl ?_|refine stBNF rfl rfl rfl rfl ?_|refine LA_boolNe rfl rfl rfl rfl ?_)|(refine oI ?_;first|refine stIN rfl _ rfl (fun _ => rfl) rfl rfl ?_|(refine stII rfl _ rfl (fun _ => rfl) rfl rfl ?_;try dsimp only [Int.reduceToNat]))|(refine oL ?_;refine LA_load rfl (fun _ => rfl) rfl ?_)|(refine oV ?_;first|refine stCnv rfl rfl rfl rfl ?_|refine LA_conv rfl rfl rfl rfl ?_)|(refine oS ?_;first|(refine stSL rfl _ rfl rfl rfl (fun _ => rfl) ?_;try dsimp only [Int.reduceToNat, Int.toNat_natCast])|(refine stSH rfl _ rfl rfl rfl (fun _ => rfl) ?_;try dsimp only [Int.reduceToNat, Int.toNat_natCast])|(refine stSLH rfl _ rfl rfl rfl rfl (fun _ => rfl) ?_;try dsimp only [Int.reduceToNat, Int.toNat_natCast]))|(refine oLen ?_;refine stLen rfl _ rfl rfl ?_)
         |(refine LA_nil (hK [] _ (LX_nil ?_));clear hK K)|(refine LA_nil (hK _ ?_);clear hK K))
         |(refine oCX ?_;first
         |refine CX_seq ?_|refine CX_skip ?_|refine CX_block ?_|refine CX_exit ?_|refine CX_ret ?_|refine CX_condT rfl ?_|refine CX_condF rfl ?_|refine CX_region (by kernel_rfl) (fun K hK => ?_)|refine CX_regionA (by kernel_rfl) (by kernel_rfl) (fun K hK => ?_)|refine CX_label ?_|refine CX_scope ?_)
         |(refine oPX ?_;first
         |refine PX_then ?_|refine PX_thenX ?_|refine PX_thenR ?_|refine PX_blockN ?_|refine PX_blockR ?_|refine PX_blockX ?_|refine PX_blockO (by decide) ?_|refine PX_scopeN ?_|refine PX_scopeR ?_|refine PX_scopeX ?_)
         |(refine oLX ?_;first
         |refine LX_nil ?_))
        exact PX_rndV (0 + 1, v') (fun w5 e5 => ⟨he'.trans e5, hkl, by dsimp only; rw [hnew]; exact ho'.ext e5⟩) (by dsimp only; omega) (by repeat' (first | exact Sub.nil | refine Sub.val rfl (by first | with_reducible rfl | (congr 1; omega)) ?_ | refine Sub.same rfl ?_))
  · obtain rfl : k = xs.length := by omega
    have hend : opn (memb xs) (Tk xs xs.length) = runsL (memb xs) := by
      have hT : Tk xs xs.length ≤ 65536 := by
        cases hxl : xs.length with
        | zero => exact Nat.zero_le _
        | succ j =>
          have : 0 ≤ xs.getD j 0 ∧ xs.getD j 0 < 65536 := by rw [getD_eq (by omega)]; exact hl _ (List.getElem_mem _)
          simp only [Tk]; omega
      unfold runsL
      refine (opn_flat 65536 hT fun z h1 h2 => ?_).symm
      unfold memb
      refine decide_eq_false fun hm => ?_
      obtain ⟨j, hj, hej⟩ := List.getElem_of_mem hm
      cases hxl : xs.length with
      | zero => omega
      | succ n =>
        rw [hxl] at h1 hj
        simp only [Tk] at h1
        have e1 : xs.getD j 0 = z := by rw [getD_eq (by omega)]; exact hej
        rcases Nat.lt_or_ge j n with h4 | h4
        · have := List.pairwise_iff_getElem.1 hi j n (by omega) (by omega) h4
          rw [← getD_eq (by omega), ← getD_eq (by omega)] at this; omega
        · obtain rfl : j = n := by omega
          omega
    rw [hend] at ho
    repeat' (first
     |(refine oLA ?_;first
     |refine LA_pass rfl ?_|(refine oM ?_;first|refine LA_moveV rfl rfl ?_|refine LA_moveP rfl rfl ?_|refine LA_moveT rfl rfl ?_|refine LA_moveU rfl rfl ?_)|(refine oA ?_;first|refine LA_assignV rfl rfl ?_|refine LA_assignP rfl rfl ?_|refine LA_assignT rfl rfl ?_)|(refine oP ?_;first|refine LA_pickTV rfl rfl rfl ?_|refine LA_pickFV rfl rfl rfl ?_)|(refine oN ?_;first|refine LA_notT rfl rfl ?_|refine LA_notF rfl rfl ?_|refine LA_not rfl rfl ?_)|(refine oX ?_;first|refine LA_ext0 rfl rfl ?_|refine LA_ext1 rfl rfl ?_|refine LA_ext30 rfl rfl ?_|refine LA_ext31 rfl rfl ?_|refine LA_ext32 rfl rfl ?_)|(refine oB .add ?_;first|refine stAdd rfl rfl rfl ?_|refine LA_addW rfl rfl rfl ?_)|(refine oB .sub ?_;first|refine stSub rfl rfl rfl ?_|refine LA_subW rfl rfl rfl ?_)|(refine oB .mul ?_;first|refine stMul rfl rfl rfl ?_|refine LA_mulW rfl rfl rfl ?_)|(refine oB .quo ?_;refine stQuo rfl rfl rfl ?_)|(refine oB .rem ?_;refine stRem rfl rfl rfl ?_)|(refine oB .shr ?_;refine stShr rfl rfl rfl ?_;try dsimp only [Int.reduceToNat, Int.reducePow])|(refine oB .shl ?_;refine stShl rfl rfl rfl ?_;try dsimp only [Int.reduceToNat, Int.reducePow])|(refine oB _ ?_;first|refine stT rfl rfl rfl rfl ?_|refine stF rfl rfl rfl rfl ?_|(refine LA_cmp rfl rfl rfl rfl (fun hc => ?_) (fun hc => ?_)<;>dsimp only [cmpP] at hc)|refine stBET rfl rfl rfl rfl ?_|refine stBEF rfl rfl rfl rfl ?_|refine LA_boolEq rfl rfl rfl rfl ?_|refine stBNT rfl rfl rfl rfl ?_|refine stBNF rfl rfl rfl rfl ?_|refine LA_boolNe rfl rfl rfl rfl ?_)|(refine oI ?_;first|refine stIN rfl _ rfl (fun _ => rfl) rfl rfl ?_|(refine stII rfl _ rfl (fun _ => rfl) rfl rfl ?_;try dsimp only [Int.reduceToNat]))|(refine oL ?_;refine LA_load rfl (fun _ => rfl) rfl ?_)|(refine oV ?_;first|refine stCnv rfl rfl rfl rfl ?_|refine LA_conv rfl rfl rfl rfl ?_)|(refine oS ?_;first|(refine stSL rfl _ rfl rfl rfl (fun _ => rfl) ?_;try dsimp only [Int.reduceToNat, Int.toNat_natCast])|(refine stSH rfl _ rfl rfl rfl (fun _ => rfl) ?_;try dsimp only [Int.reduceToNat, Int.toNat_natCast])|(refine stSLH rfl _ rfl rfl rfl rfl (fun _ => rfl) ?_;try dsimp only [Int.reduceToNat, Int.toNat_natCast]))|(refine oLen ?_;refine stLen rfl _ rfl rfl ?_)
     |(refine LA_nil (hK [] _ (LX_nil ?_));clear hK K)|(refine LA_nil (hK _ ?_);clear hK K))
     |(refine oCX ?_;first
     |refine CX_seq ?_|refine CX_skip ?_|refine CX_block ?_|refine CX_exit ?_|refine CX_ret ?_|refine CX_condT rfl ?_|refine CX_condF rfl ?_|refine CX_region (by kernel_rfl) (fun K hK => ?_)|refine CX_regionA (by kernel_rfl) (by kernel_rfl) (fun K hK => ?_)|refine CX_label ?_|refine CX_scope ?_)
     |(refine oPX ?_;first
     |refine PX_then ?_|refine PX_thenX ?_|refine PX_thenR ?_|refine PX_blockN ?_|refine PX_blockR ?_|refine PX_blockX ?_|refine PX_blockO (by decide) ?_|refine PX_scopeN ?_|refine PX_scopeR ?_|refine PX_scopeX ?_)
     |(refine oLX ?_;first
     |refine LX_nil ?_))
    exact PX_retP rfl rfl he (fun u w5 e5 hu' => by obtain rfl : u = _ := hu'; exact ho.ext e5)

theorem right_one {f m : Int} (h0 : 0 ≤ f) (h : f + m + 1 ≤ 65536) : Right [(f, m)] := fun k hk => by
  obtain rfl : k = 0 := by simp at hk; omega
  exact ⟨h0, h⟩
theorem right_two {f m f' m' : Int} (h0 : 0 ≤ f) (h : f + m + 2 ≤ f') (hm : 0 ≤ m') (h' : f' + m' + 1 ≤ 65536) : Right [(f, m), (f', m')] := fun k hk => by
  have : k = 0 ∨ k = 1 := by simp at hk; omega
  rcases this with rfl | rfl
  · exact ⟨h0, by show f + m + 1 ≤ 65536; omega⟩
  · exact ⟨h, h'⟩
theorem U16.two {f m f' m' : Int} (h : 0 ≤ f ∧ f < 65536 ∧ 0 ≤ m ∧ m < 65536) (h' : 0 ≤ f' ∧ f' < 65536 ∧ 0 ≤ m' ∧ m' < 65536) : U16 [(f, m), (f', m')] := fun x hx => by
  simp only [List.mem_cons, List.not_mem_nil, or_false] at hx
  rcases hx with rfl | rfl
  · exact h
  · exact h'
theorem kr_of : runsL (memb [1, 2, 3, 7]) = [(1, 2), (7, 0)] := by
  rw [← right_L (right_two (f := 1) (m := 2) (f' := 7) (m' := 0) (by decide) (by decide) (by decide) (by decide)) (U16.two (by decide) (by decide))]
  refine runsL_congr fun i _ => ?_
  rw [Bool.eq_iff_iff]; simp [memb, inR]; omega
theorem kr_one : runsL (inR [(1, 2)]) = [(1, 2)] := right_L (right_one (by decide) (by decide)) (U16.one (by decide) (by decide) (by decide) (by decide))
theorem kr_flip : runsL (two fXor' (inR [(1, 2)]) (spanM 0 3)) = [(0, 0), (3, 0)] := by
  rw [← right_L (right_two (f := 0) (m := 0) (f' := 3) (m' := 0) (by decide) (by decide) (by decide) (by decide)) (U16.two (by decide) (by decide))]
  refine runsL_congr fun i _ => ?_
  by_cases h0 : i = 0
  · subst h0; decide
  · by_cases h1 : i = 1
    · subst h1; decide
    · by_cases h2 : i = 2
      · subst h2; decide
      · by_cases h3 : i = 3
        · subst h3; decide
        · have e1 : inR [(1, 2)] i = false := by simp [inR]; omega
          have e2 : spanM 0 3 i = false := by simp [spanM]; omega
          have e3 : inR [(0, 0), (3, 0)] i = false := by simp [inR]; omega
          unfold two
          rw [e1, e2, e3]; rfl
theorem notright : ¬ Right [(1, 0), (2, 0)] := fun h => by
  have := (h 1 (by decide)).1
  simp [lst, fst, mor] at this
theorem kr_rank : rankR [(1, 2), (7, 0)] 3 = 2 := rfl
theorem kr_sel : selR [(1, 2), (7, 0)] 3 = (7, true) := rfl
theorem slR_one {w : World} {base : Nat} {v : Value} {f m : Int} (h : Own base 71 2 w v 1 (runV f m).cells.toList) : SlR w v [(f, m)] := Own.slC h
theorem slR_two {w : World} {base : Nat} {v : Value} {a b : Rn} (h : Own base 71 2 w v 2 (cellsR [a, b])) : SlR w v [a, b] := Own.slC h
theorem u16_four : El Tryd.prog 22 30 (.int .u16 0) 1 2 := ⟨rfl, rfl, rfl, by decide⟩

set_option maxHeartbeats 4000000 in
theorem rknown_c (w : World) : Fc Tryd.prog 37 #[] w (Ret w (.val (.bool true))) := by
  have hR : Right [(1, 2), (7, 0)] := right_two (f := 1) (m := 2) (f' := 7) (m' := 0) (by decide) (by decide) (by decide) (by decide)
  have hU : U16 [(1, 2), (7, 0)] := U16.two (by decide) (by decide)
  have hz : inR [(1, 2)] 65536 = false := rfl
  refine Fc.of (args := []) Tryd.func37 rfl rfl Tryd.ntmps37 (Nat.le_of_ble_eq_true rfl) ?_
  repeat' (first
   |(refine oLA ?_;first
   |refine LA_pass rfl ?_
   |refine LA_litI 30 .u16 [1, 2, 3, 7] rfl (fun _ => rfl) (fun _ => by kernel_rfl) rfl (by decide) ?_
   |(refine oD 7 ?_; refine LA_build2 (c := runV 1 2) rfl rfl rfl (fun w => run_build w _ _ _ (by kernel_rfl)) ?_)
   |(refine oD 22 ?_; refine LA_build2 (c := runV 1 2) rfl rfl rfl (fun w => run_build w _ _ _ (by kernel_rfl)) ?_)
   |(refine oD 29 ?_; refine LA_build1 (c := runV 7 0) rfl rfl (fun w => run_build w _ _ _ (by kernel_rfl)) ?_)
   |(refine oD 41 ?_; refine LA_build0 (c := runV 0 0) rfl (fun w => run_build w _ _ _ (by kernel_rfl)) ?_)
   |(refine oD 48 ?_; refine LA_build1 (c := runV 3 0) rfl rfl (fun w => run_build w _ _ _ (by kernel_rfl)) ?_)
   |(refine oD 64 ?_; refine LA_build1 (c := runV 1 0) rfl rfl (fun w => run_build w _ _ _ (by kernel_rfl)) ?_)
   |(refine oD 65 ?_; refine LA_build1 (c := runV 2 0) rfl rfl (fun w => run_build w _ _ _ (by kernel_rfl)) ?_)
   |(refine oD 71 ?_; refine LA_build1 (c := runV 65535 0) rfl rfl (fun w => run_build w _ _ _ (by kernel_rfl)) ?_)
   |(refine oD 66 ?_; refine LA_twoR rfl run_el rfl rfl ?_)
   |refine LA_oneS rfl run_el rfl rfl (by decide) ?_
   |(refine oD 67 ?_; refine oC 61 ?_; refine LA_call1 (f := 61) rfl rfl rfl  (.val (.bool false)) (by intro u1 w e hu1; (try obtain rfl : u1 = _ := hu1); exact ret_eq (by rw [decide_eq_false notright]) (rmayR_c _ _ [(1, 0), (2, 0)] (slR_two hu1) (U16.two (by decide) (by decide)))) ?_)
   |(refine oD 73 ?_; refine oC 61 ?_; refine LA_call1 (f := 61) rfl rfl rfl  (.val (.bool true)) (by intro u1 w e hu1; (try obtain rfl : u1 = _ := hu1); exact ret_eq (by rw [decide_eq_true (right_one (f := 65535) (m := 0) (by decide) (by decide))]) (rmayR_c _ _ [(65535, 0)] (slR_one hu1) (U16.one (by decide) (by decide) (by decide) (by decide)))) ?_)
   |(refine oLen ?_; refine LA_lenR rfl _ rfl rfl HasR.own ?_; dsimp only [List.length_cons, List.length_nil, Nat.reduceAdd, Nat.cast_ofNat_Int])
   |(refine oD 20 ?_; refine LA_indexR (j := 0) rfl _ rfl (fun _ => rfl) rfl HasR.own rfl (by decide) ?_)
   |(refine oD 27 ?_; refine LA_indexR (j := 1) rfl _ rfl (fun _ => rfl) rfl HasR.own rfl (by decide) ?_)
   |(refine oD 39 ?_; refine LA_indexR (j := 0) rfl _ rfl (fun _ => rfl) rfl HasR.own rfl (by decide) ?_)
   |(refine oD 46 ?_; refine LA_indexR (j := 1) rfl _ rfl (fun _ => rfl) rfl HasR.own rfl (by decide) ?_)
   |(show LA _ _ _ _ (⟨_, .binOp _ 71 _ _ _, _, _, _, _⟩ :: _) _; refine LA_binV (c := .bool true) rfl rfl rfl (fun w => eqR_op _ _ _ _ _ _ w) ?_)
   |(refine oI ?_; refine LA_indexR rfl _ rfl (fun _ => rfl) rfl (by first | exact HasR.val (by assumption) | exact HasR.own | exact HasR.ownV (by assumption)) rfl (by omega) ?_)
   |(refine oLt 71 ?_; refine LA_loadC rfl (fun _ => rfl) (fun _ => rfl) rfl ?_)
   |(show LA _ _ _ _ (⟨some 99, .alloc _, _, _, _, _⟩ :: _) _; refine LA_stop (hK _ _ (LX_var rfl rfl (by decide) (fun _ => rfl) (fun _ => rfl) (fun _ => rfl) rfl (by intro u hu; simp [Value.cells] at hu; rcases hu with rfl | rfl <;> rfl) (fun bx wx ex hbx hbc => ?_))); clear hK K; refine LX_la (by kernel_rfl) (fun K hK => ?_))
   |(refine oF 0 ?_; refine LA_fieldAddr (a := ⟨bx, 0, none⟩) (a' := ⟨bx, 0, none⟩) rfl rfl (fun _ => rfl) ?_)
   |(refine oF 1 ?_; refine LA_fieldAddr (a := ⟨bx, 0, none⟩) (a' := ⟨bx, 1, none⟩) rfl rfl (fun _ => rfl) ?_)
   |(refine oLt 71 ?_; refine LA_loadBN rfl (fun _ => rfl) (fun _ => rfl) rfl hbc ?_)
   |(refine oLt 30 ?_; refine LA_loadB rfl (fun _ => rfl) rfl hbc rfl ?_)
   |(refine oLen ?_; refine LA_lenR rfl _ rfl rfl (by first | exact HasR.val (by assumption) | exact HasR.own | exact HasR.ownV (by assumption)) ?_)|(refine oM ?_;first|refine LA_moveV rfl rfl ?_|refine LA_moveP rfl rfl ?_|refine LA_moveT rfl rfl ?_|refine LA_moveU rfl rfl ?_)|(refine oA ?_;first|refine LA_assignV rfl rfl ?_|refine LA_assignP rfl rfl ?_|refine LA_assignT rfl rfl ?_)|(refine oP ?_;first|refine LA_pickTV rfl rfl rfl ?_|refine LA_pickFV rfl rfl rfl ?_)|(refine oN ?_;first|refine LA_notT rfl rfl ?_|refine LA_notF rfl rfl ?_|refine LA_not rfl rfl ?_)|(refine oX ?_;first|refine LA_ext0 rfl rfl ?_|refine LA_ext1 rfl rfl ?_|refine LA_ext30 rfl rfl ?_|refine LA_ext31 rfl rfl ?_|refine LA_ext32 rfl rfl ?_)|(refine oB .add ?_;first|refine stAdd rfl rfl rfl ?_|refine LA_addW rfl rfl rfl ?_)|(refine oB .sub ?_;first|refine stSub rfl rfl rfl ?_|refine LA_subW rfl rfl rfl ?_)|(refine oB .mul ?_;first|refine stMul rfl rfl rfl ?_|refine LA_mulW rfl rfl rfl ?_)|(refine oB .quo ?_;refine stQuo rfl rfl rfl ?_)|(refine oB .rem ?_;refine stRem rfl rfl rfl ?_)|(refine oB .shr ?_;refine stShr rfl rfl rfl ?_;try dsimp only [Int.reduceToNat, Int.reducePow])|(refine oB .shl ?_;refine stShl rfl rfl rfl ?_;try dsimp only [Int.reduceToNat, Int.reducePow])|(refine oB _ ?_;first|refine stT rfl rfl rfl rfl ?_|refine stF rfl rfl rfl rfl ?_|(refine LA_cmp rfl rfl rfl rfl (fun hc => ?_) (fun hc => ?_)<;>dsimp only [cmpP] at hc)|refine stBET rfl rfl rfl rfl ?_|refine stBEF rfl rfl rfl rfl ?_|refine LA_boolEq rfl rfl rfl rfl ?_|refine stBNT rfl rfl rfl rfl ?_|refine stBNF rfl rfl rfl rfl ?_|refine LA_boolNe rfl rfl rfl rfl ?_)|(refine oI ?_;first|refine stIN rfl _ rfl (fun _ => rfl) rfl rfl ?_|(refine stII rfl _ rfl (fun _ => rfl) rfl rfl ?_;try dsimp only [Int.reduceToNat]))|(refine oL ?_;refine LA_load rfl (fun _ => rfl) rfl ?_)|(refine oV ?_;first|refine stCnv rfl rfl rfl rfl ?_|refine LA_conv rfl rfl rfl rfl ?_)|(refine oS ?_;first|(refine stSL rfl _ rfl rfl rfl (fun _ => rfl) ?_;try dsimp only [Int.reduceToNat, Int.toNat_natCast])|(refine stSH rfl _ rfl rfl rfl (fun _ => rfl) ?_;try dsimp only [Int.reduceToNat, Int.toNat_natCast])|(refine stSLH rfl _ rfl rfl rfl rfl (fun _ => rfl) ?_;try dsimp only [Int.reduceToNat, Int.toNat_natCast]))|(refine oLen ?_;refine stLen rfl _ rfl rfl ?_)
   |(refine oCv ?_;first
   |(refine oC 57 ?_; refine LA_call1 (f := 57) rfl rfl rfl  (.pred (ownR w.heap.size 71 [(1, 2), (7, 0)])) (by intro u1 w e hu1; (try obtain rfl : u1 = _ := hu1); exact (rofR_c _ _ [1, 2, 3, 7] (OwnI.slI hu1) (by decide) (by unfold Low; decide)).mono (ret_baseR e.size kr_of)) ?_)
   |(refine oC 58 ?_; refine LA_call3 (f := 58) rfl rfl rfl rfl rfl  (.pred (ownR w.heap.size 71 [(0, 0), (3, 0)])) (by intro u1 u2 u3 w e hu1 hu2 hu3; (try obtain rfl : u1 = _ := hu1); (try obtain rfl : u2 = _ := hu2); (try obtain rfl : u3 = _ := hu3); exact (rflipR_c _ _ (inR [(1, 2)]) 0 3 hz (by rw [kr_one]; exact slR_one hu1) (by decide) (by decide)).mono (ret_baseR e.size kr_flip)) ?_)
   |(refine oC 59 ?_; refine LA_call2 (f := 59) rfl rfl rfl rfl  (.tup2 (.val (.int .u16 7)) (.val (.bool true))) (by intro u1 u2 w e hu1 hu2; (try obtain rfl : u1 = _ := hu1); (try obtain rfl : u2 = _ := hu2); exact ret_tup2R (by rw [kr_sel]) (by rw [kr_sel]) (rselR_c _ _ [(1, 2), (7, 0)] 3 (OwnR.slR hu1) hU hR (by decide))) ?_)
   |(refine oC 60 ?_; refine LA_call2 (f := 60) rfl rfl rfl rfl  (.val (.int .i64 2)) (by intro u1 u2 w e hu1 hu2; (try obtain rfl : u1 = _ := hu1); (try obtain rfl : u2 = _ := hu2); exact ret_eq (by rw [kr_rank]) (rrankR_c _ _ [(1, 2), (7, 0)] 3 (OwnR.slR hu1) hU (by decide) (by decide))) ?_))|(refine LA_nil (hK [] _ (LX_nil ?_));clear hK K)|(refine LA_nil (hK _ ?_);clear hK K))
   |(refine oCX ?_;first
   |refine CX_seq ?_|refine CX_skip ?_|refine CX_block ?_|refine CX_exit ?_|refine CX_ret ?_|refine CX_condT rfl ?_|refine CX_condF rfl ?_|refine CX_region (by kernel_rfl) (fun K hK => ?_)|refine CX_regionA (by kernel_rfl) (by kernel_rfl) (fun K hK => ?_)|refine CX_label ?_|refine CX_scope ?_)
   |(refine oPX ?_;first
   |refine PX_then ?_|refine PX_thenX ?_|refine PX_thenR ?_|refine PX_blockN ?_|refine PX_blockR ?_|refine PX_blockX ?_|refine PX_blockO (by decide) ?_|refine PX_scopeN ?_|refine PX_scopeR ?_|refine PX_scopeX ?_)
   |(refine oLX ?_;first
   |refine LX_nil ?_))
  all_goals skip
  all_goals first | exact PX_retE rfl rfl (Ext.refl _) rfl | exact absurd rfl hc

end Go.Proofs.YthcpljmibcacaaaDoor
