import Derived.Test.YthcpljmibcacaaaDoorW4
set_option linter.unusedSimpArgs false
set_option linter.unusedVariables false
namespace Go.Proofs.YthcpljmibcacaaaDoor
open Go.LA Go.ArrP Go.RowKit

theorem wrank_c (w : World) (v : Value) (ws : List Int) (x : Int) (h : SlI .u64 w v ws) (hl : Lw ws) (hn : ws.length ≤ 17592186044416) (hx : -9223372036854775808 ≤ x ∧ x < 9223372036854775808) : Fc Tryd.prog 16 #[v, .int .i64 x] w (Ret w (.val (.int .i64 (cnt (wbit ws) (min (max x 0) (64 * ws.length : Int)).toNat)))) := by
  obtain ⟨r, hr⟩ : ∃ r : Nat, min (max x 0) (64 * ws.length : Int) = r := ⟨(min (max x 0) (64 * ws.length : Int)).toNat, by omega⟩
  have hrl : r ≤ 64 * ws.length := by omega
  have hq : r / 64 ≤ ws.length := by omega
  have hcp := cnt_part ws (r / 64) (r % 64) (by omega)
  rw [show 64 * (r / 64) + r % 64 = r by omega] at hcp
  have hc1 := cnt_le (wbit ws) r
  obtain ⟨e1, e2⟩ := hl.at (r / 64)
  have htk : (ws.take (r / 64)).length = r / 64 := by rw [List.length_take]; omega
  have hct : cnt (wbit (ws.take (r / 64))) (64 * (ws.take (r / 64)).length) = cnt (wbit ws) (64 * (r / 64)) := by
    rw [htk]; exact cnt_congr _ (fun i hi => wbit_take hi)
  have eq1 : ((r : Int) / 64).toNat = r / 64 := by omega
  refine Fc.of (args := [_, _]) Tryd.func16 rfl rfl Tryd.ntmps16 (Nat.le_of_ble_eq_true rfl) ?_
  have hsub : SlI .u64 w (subS v 0 (r / 64) 1) (ws.take (r / 64)) := by have := SlI.sub h (Nat.zero_le (r / 64)) hq; simpa using this
  rw [hr]
  by_cases hm : r % 64 = 0
  · have hcm : cnt (wbit ws) r = cnt (wbit ws) (64 * (r / 64)) := by rw [hcp, hm]; simp [cnt]
    repeat' (first
     |(refine oLA ?_;first
     |refine LA_pass rfl ?_
     |refine LA_max2 rfl rfl rfl ?_
     |(refine LA_min2 rfl rfl rfl ?_; rw [hr])
     |(refine LA_sliceH rfl _ rfl rfl (HasC.val h) rfl (by omega) (by omega) (by exact fun _ => rfl) ?_; rw [eq1])
     |(refine oC 14 ?_; refine LA_call1 (f := 14) rfl rfl rfl  (.val (.int .i64 (cnt (wbit ws) (64 * (r / 64))))) (by intro u1 w e hu1; (try obtain rfl : u1 = _ := hu1); exact ret_eq (by rw [hct]) (wlen_c _ _ (ws.take (r / 64)) (hsub.ext e) (hl.take _) (by omega))) ?_)|(refine oM ?_;first|refine LA_moveV rfl rfl ?_|refine LA_moveP rfl rfl ?_|refine LA_moveT rfl rfl ?_|refine LA_moveU rfl rfl ?_)|(refine oA ?_;first|refine LA_assignV rfl rfl ?_|refine LA_assignP rfl rfl ?_|refine LA_assignT rfl rfl ?_)|(refine oP ?_;first|refine LA_pickTV rfl rfl rfl ?_|refine LA_pickFV rfl rfl rfl ?_)|(refine oN ?_;first|refine LA_notT rfl rfl ?_|refine LA_notF rfl rfl ?_|refine LA_not rfl rfl ?_)|(refine oX ?_;first|refine LA_ext0 rfl rfl ?_|refine LA_ext1 rfl rfl ?_|refine LA_ext30 rfl rfl ?_|refine LA_ext31 rfl rfl ?_|refine LA_ext32 rfl rfl ?_)|(refine oB .add ?_;first|refine stAdd rfl rfl rfl ?_|refine LA_addW rfl rfl rfl ?_)|(refine oB .sub ?_;first|refine stSub rfl rfl rfl ?_|refine LA_subW rfl rfl rfl ?_)|(refine oB .mul ?_;first|refine stMul rfl rfl rfl ?_|refine LA_mulW rfl rfl rfl ?_)|(refine oB .quo ?_;refine stQuo rfl rfl rfl ?_)|(refine oB .rem ?_;refine stRem rfl rfl rfl ?_)|(refine oB .shr ?_;refine stShr rfl rfl rfl ?_;try dsimp only [Int.reduceToNat, Int.reducePow])|(refine oB .shl ?_;refine stShl rfl rfl rfl ?_;try dsimp only [Int.reduceToNat, Int.reducePow])|(refine oB _ ?_;first|refine stT rfl rfl rfl rfl ?_|refine stF rfl rfl rfl rfl ?_|(refine LA_cmp rfl rfl rfl rfl (fun hc => ?_) (fun hc => ?_)<;>dsimp only [cmpP] at hc)|refine stBET rfl rfl rfl rfl ?_|refine stBEF rfl rfl rfl rfl ?_|refine LA_boolEq rfl rfl rfl rfl ?_|refine stBNT rfl rfl rfl rfl ?_|refine stBNF rfl rfl rfl rfl ?_|refine LA_boolNe rfl rfl rfl rfl ?_)|(refine oI ?_;first|refine stIN rfl _ rfl (fun _ => rfl) rfl rfl ?_|(refine stII rfl _ rfl (fun _ => rfl) rfl rfl ?_;try dsimp only [Int.reduceToNat]))|(refine oL ?_;refine LA_load rfl (fun _ => rfl) rfl ?_)|(refine oV ?_;first|refine stCnv rfl rfl rfl rfl ?_|refine LA_conv rfl rfl rfl rfl ?_)|(refine oS ?_;first|(refine stSL rfl _ rfl rfl rfl (fun _ => rfl) ?_;try dsimp only [Int.reduceToNat, Int.toNat_natCast])|(refine stSH rfl _ rfl rfl rfl (fun _ => rfl) ?_;try dsimp only [Int.reduceToNat, Int.toNat_natCast])|(refine stSLH rfl _ rfl rfl rfl rfl (fun _ => rfl) ?_;try dsimp only [Int.reduceToNat, Int.toNat_natCast]))|(refine oLen ?_;refine stLen rfl _ rfl rfl ?_)
     |(refine LA_nil (hK [] _ (LX_nil ?_));clear hK K)|(refine LA_nil (hK _ ?_);clear hK K))
     |(refine oCX ?_;first
     |refine CX_seq ?_|refine CX_skip ?_|refine CX_block ?_|refine CX_exit ?_|refine CX_ret ?_|refine CX_condT rfl ?_|refine CX_condF rfl ?_|refine CX_region (by kernel_rfl) (fun K hK => ?_)|refine CX_regionA (by kernel_rfl) (by kernel_rfl) (fun K hK => ?_)|refine CX_label ?_|refine CX_scope ?_)
     |(refine oPX ?_;first
     |refine PX_then ?_|refine PX_thenX ?_|refine PX_thenR ?_|refine PX_blockN ?_|refine PX_blockR ?_|refine PX_blockX ?_|refine PX_blockO (by decide) ?_|refine PX_scopeN ?_|refine PX_scopeR ?_|refine PX_scopeX ?_)
     |(refine oLX ?_;first
     |refine LX_nil ?_))
    exact PX_retE rfl rfl (Ext.refl _) (by rw [Int.toNat_natCast, hcm])
  · have hsh : IntKind.u64.wrap (ws.getD (r / 64) 0 * 2 ^ (64 - (r : Int) % 64).toNat) = ((wd ws (r / 64) * 2 ^ (64 - r % 64) % 18446744073709551616 : Nat) : Int) := by
      rw [e1, IntKind.wrap_u64, show (64 - (r : Int) % 64).toNat = 64 - r % 64 by omega]
      have h2 : ((2 : Int) ^ (64 - r % 64)) = ((2 ^ (64 - r % 64) : Nat) : Int) := by simp
      rw [h2, ← Int.natCast_mul]; omega
    have hpp := pop_shl (wd ws (r / 64)) (r % 64) (by omega)
    repeat' (first
     |(refine oLA ?_;first
     |refine LA_pass rfl ?_
     |refine LA_max2 rfl rfl rfl ?_
     |(refine LA_min2 rfl rfl rfl ?_; rw [hr])
     |(refine LA_sliceH rfl _ rfl rfl (HasC.val h) rfl (by omega) (by omega) (by exact fun _ => rfl) ?_; rw [eq1])
     |(refine oC 14 ?_; refine LA_call1 (f := 14) rfl rfl rfl  (.val (.int .i64 (cnt (wbit ws) (64 * (r / 64))))) (by intro u1 w e hu1; (try obtain rfl : u1 = _ := hu1); exact ret_eq (by rw [hct]) (wlen_c _ _ (ws.take (r / 64)) (hsub.ext e) (hl.take _) (by omega))) ?_)
     |(refine LA_index rfl _ rfl (fun _ => rfl) rfl (HasI.val h) rfl (by omega) (by omega) ?_; rw [eq1])
     |(show LA _ _ _ _ (⟨_, .binOp .shl _ _ _ _, _, _, _, _⟩ :: _) _; refine LA_shl rfl rfl rfl (by omega) (by dsimp only [IntKind.bits]; omega) ?_; rw [hsh])
     |(refine oC 46 ?_; refine LA_call1 (f := 46) rfl rfl rfl  (.val (.int .i64 (cnt (fun i => (wd ws (r / 64)).testBit i) (r % 64)))) (by intro u1 w e hu1; (try obtain rfl : u1 = _ := hu1); exact ret_eq (by rw [hpp]) (ones_at rfl (by omega))) ?_)|(refine oM ?_;first|refine LA_moveV rfl rfl ?_|refine LA_moveP rfl rfl ?_|refine LA_moveT rfl rfl ?_|refine LA_moveU rfl rfl ?_)|(refine oA ?_;first|refine LA_assignV rfl rfl ?_|refine LA_assignP rfl rfl ?_|refine LA_assignT rfl rfl ?_)|(refine oP ?_;first|refine LA_pickTV rfl rfl rfl ?_|refine LA_pickFV rfl rfl rfl ?_)|(refine oN ?_;first|refine LA_notT rfl rfl ?_|refine LA_notF rfl rfl ?_|refine LA_not rfl rfl ?_)|(refine oX ?_;first|refine LA_ext0 rfl rfl ?_|refine LA_ext1 rfl rfl ?_|refine LA_ext30 rfl rfl ?_|refine LA_ext31 rfl rfl ?_|refine LA_ext32 rfl rfl ?_)|(refine oB .add ?_;first|refine stAdd rfl rfl rfl ?_|refine LA_addW rfl rfl rfl ?_)|(refine oB .sub ?_;first|refine stSub rfl rfl rfl ?_|refine LA_subW rfl rfl rfl ?_)|(refine oB .mul ?_;first|refine stMul rfl rfl rfl ?_|refine LA_mulW rfl rfl rfl ?_)|(refine oB .quo ?_;refine stQuo rfl rfl rfl ?_)|(refine oB .rem ?_;refine stRem rfl rfl rfl ?_)|(refine oB .shr ?_;refine stShr rfl rfl rfl ?_;try dsimp only [Int.reduceToNat, Int.reducePow])|(refine oB .shl ?_;refine stShl rfl rfl rfl ?_;try dsimp only [Int.reduceToNat, Int.reducePow])|(refine oB _ ?_;first|refine stT rfl rfl rfl rfl ?_|refine stF rfl rfl rfl rfl ?_|(refine LA_cmp rfl rfl rfl rfl (fun hc => ?_) (fun hc => ?_)<;>dsimp only [cmpP] at hc)|refine stBET rfl rfl rfl rfl ?_|refine stBEF rfl rfl rfl rfl ?_|refine LA_boolEq rfl rfl rfl rfl ?_|refine stBNT rfl rfl rfl rfl ?_|refine stBNF rfl rfl rfl rfl ?_|refine LA_boolNe rfl rfl rfl rfl ?_)|(refine oI ?_;first|refine stIN rfl _ rfl (fun _ => rfl) rfl rfl ?_|(refine stII rfl _ rfl (fun _ => rfl) rfl rfl ?_;try dsimp only [Int.reduceToNat]))|(refine oL ?_;refine LA_load rfl (fun _ => rfl) rfl ?_)|(refine oV ?_;first|refine stCnv rfl rfl rfl rfl ?_|refine LA_conv rfl rfl rfl rfl ?_)|(refine oS ?_;first|(refine stSL rfl _ rfl rfl rfl (fun _ => rfl) ?_;try dsimp only [Int.reduceToNat, Int.toNat_natCast])|(refine stSH rfl _ rfl rfl rfl (fun _ => rfl) ?_;try dsimp only [Int.reduceToNat, Int.toNat_natCast])|(refine stSLH rfl _ rfl rfl rfl rfl (fun _ => rfl) ?_;try dsimp only [Int.reduceToNat, Int.toNat_natCast]))|(refine oLen ?_;refine stLen rfl _ rfl rfl ?_)
     |(refine LA_nil (hK [] _ (LX_nil ?_));clear hK K)|(refine LA_nil (hK _ ?_);clear hK K))
     |(refine oCX ?_;first
     |refine CX_seq ?_|refine CX_skip ?_|refine CX_block ?_|refine CX_exit ?_|refine CX_ret ?_|refine CX_condT rfl ?_|refine CX_condF rfl ?_|refine CX_region (by kernel_rfl) (fun K hK => ?_)|refine CX_regionA (by kernel_rfl) (by kernel_rfl) (fun K hK => ?_)|refine CX_label ?_|refine CX_scope ?_)
     |(refine oPX ?_;first
     |refine PX_then ?_|refine PX_thenX ?_|refine PX_thenR ?_|refine PX_blockN ?_|refine PX_blockR ?_|refine PX_blockX ?_|refine PX_blockO (by decide) ?_|refine PX_scopeN ?_|refine PX_scopeR ?_|refine PX_scopeX ?_)
     |(refine oLX ?_;first
     |refine LX_nil ?_))
    exact PX_retE rfl rfl (Ext.refl _) (by rw [Int.toNat_natCast]; congr 1; omega)
theorem whas_c (w : World) (v : Value) (ws : List Int) (x : Nat) (h : SlI .u64 w v ws) (hl : Lw ws) (hx : x < 65536) : Fc Tryd.prog 17 #[v, .int .u16 x] w (Ret w (.val (.bool (wbit ws x)))) := by
  have hlen := h.len
  refine Fc.of (args := [_, _]) Tryd.func17 rfl rfl Tryd.ntmps17 (Nat.le_of_ble_eq_true rfl) ?_
  obtain ⟨e1, e2⟩ := hl.at (x / 64)
  by_cases hc : x / 64 < ws.length
  · have eq1 : ((x : Int) / 64).toNat = x / 64 := by omega
    obtain ⟨y, hy⟩ : ∃ y, y = wd ws (x / 64) / 2 ^ (x % 64) := ⟨_, rfl⟩
    have hyl : y ≤ wd ws (x / 64) := by rw [hy]; exact Nat.div_le_self _ _
    have hsh : ws.getD (x / 64) 0 / 2 ^ ((x : Int) % 64).toNat = (y : Int) := by
      rw [e1, hy, show ((x : Int) % 64).toNat = x % 64 by omega, Int.natCast_ediv]; simp
    have han : bits .and .u64 (y : Int) 1 = ((y % 2 : Nat) : Int) := by
      rw [show (1 : Int) = ((1 : Nat) : Int) by rfl, bits_and_u64_nat y 1 (by omega) (by decide)]
      exact congrArg _ (Nat.and_one_is_mod y)
    have hb : wbit ws x = decide (y % 2 = 1) := by rw [hy]; unfold wbit; exact Nat.testBit_eq_decide_div_mod_eq
    cases hv : wbit ws x
    all_goals rw [hv] at hb
    all_goals have hb' := hb.symm
    all_goals simp only [decide_eq_true_eq, decide_eq_false_iff_not] at hb'
    all_goals
      repeat' (first
       |(refine oLA ?_;first
       |refine LA_pass rfl ?_
       |(refine LA_index rfl _ rfl (fun _ => rfl) rfl (HasI.val h) rfl (by omega) (by omega) ?_; rw [eq1])
       |(show LA _ _ _ _ (⟨_, .binOp .shr _ _ _ _, _, _, _, _⟩ :: _) _; refine LA_shr rfl rfl rfl (by omega) (by dsimp only [IntKind.bits]; omega) ?_; rw [hsh])
       |(refine LA_bits (.inl rfl) rfl rfl rfl ?_; rw [han])|(refine oM ?_;first|refine LA_moveV rfl rfl ?_|refine LA_moveP rfl rfl ?_|refine LA_moveT rfl rfl ?_|refine LA_moveU rfl rfl ?_)|(refine oA ?_;first|refine LA_assignV rfl rfl ?_|refine LA_assignP rfl rfl ?_|refine LA_assignT rfl rfl ?_)|(refine oP ?_;first|refine LA_pickTV rfl rfl rfl ?_|refine LA_pickFV rfl rfl rfl ?_)|(refine oN ?_;first|refine LA_notT rfl rfl ?_|refine LA_notF rfl rfl ?_|refine LA_not rfl rfl ?_)|(refine oX ?_;first|refine LA_ext0 rfl rfl ?_|refine LA_ext1 rfl rfl ?_|refine LA_ext30 rfl rfl ?_|refine LA_ext31 rfl rfl ?_|refine LA_ext32 rfl rfl ?_)|(refine oB .add ?_;first|refine stAdd rfl rfl rfl ?_|refine LA_addW rfl rfl rfl ?_)|(refine oB .sub ?_;first|refine stSub rfl rfl rfl ?_|refine LA_subW rfl rfl rfl ?_)|(refine oB .mul ?_;first|refine stMul rfl rfl rfl ?_|refine LA_mulW rfl rfl rfl ?_)|(refine oB .quo ?_;refine stQuo rfl rfl rfl ?_)|(refine oB .rem ?_;refine stRem rfl rfl rfl ?_)|(refine oB .shr ?_;refine stShr rfl rfl rfl ?_;try dsimp only [Int.reduceToNat, Int.reducePow])|(refine oB .shl ?_;refine stShl rfl rfl rfl ?_;try dsimp only [Int.reduceToNat, Int.reducePow])|(refine oB _ ?_;first|refine stT rfl rfl rfl rfl ?_|refine stF rfl rfl rfl rfl ?_|(refine LA_cmp rfl rfl rfl rfl (fun hc => ?_) (fun hc => ?_)<;>dsimp only [cmpP] at hc)|refine stBET rfl rfl rfl rfl ?_|refine stBEF rfl rfl rfl rfl ?_|refine LA_boolEq rfl rfl rfl rfl ?_|refine stBNT rfl rfl rfl rfl ?_|refine stBNF rfl rfl rfl rfl ?_|refine LA_boolNe rfl rfl rfl rfl ?_)|(refine oI ?_;first|refine stIN rfl _ rfl (fun _ => rfl) rfl rfl ?_|(refine stII rfl _ rfl (fun _ => rfl) rfl rfl ?_;try dsimp only [Int.reduceToNat]))|(refine oL ?_;refine LA_load rfl (fun _ => rfl) rfl ?_)|(refine oV ?_;first|refine stCnv rfl rfl rfl rfl ?_|refine LA_conv rfl rfl rfl rfl ?_)|(refine oS ?_;first|(refine stSL rfl _ rfl rfl rfl (fun _ => rfl) ?_;try dsimp only [Int.reduceToNat, Int.toNat_natCast])|(refine stSH rfl _ rfl rfl rfl (fun _ => rfl) ?_;try dsimp only [Int.reduceToNat, Int.toNat_natCast])|(refine stSLH rfl _ rfl rfl rfl rfl (fun _ => rfl) ?_;try dsimp only [Int.reduceToNat, Int.toNat_natCast]))|(refine oLen ?_;refine stLen rfl _ rfl rfl ?_)
       |(refine LA_nil (hK [] _ (LX_nil ?_));clear hK K)|(refine LA_nil (hK _ ?_);clear hK K))
       |(refine oCX ?_;first
       |refine CX_seq ?_|refine CX_skip ?_|refine CX_block ?_|refine CX_exit ?_|refine CX_ret ?_|refine CX_condT rfl ?_|refine CX_condF rfl ?_|refine CX_region (by kernel_rfl) (fun K hK => ?_)|refine CX_regionA (by kernel_rfl) (by kernel_rfl) (fun K hK => ?_)|refine CX_label ?_|refine CX_scope ?_)
       |(refine oPX ?_;first
       |refine PX_then ?_|refine PX_thenX ?_|refine PX_thenR ?_|refine PX_blockN ?_|refine PX_blockR ?_|refine PX_blockX ?_|refine PX_blockO (by decide) ?_|refine PX_scopeN ?_|refine PX_scopeR ?_|refine PX_scopeX ?_)
       |(refine oLX ?_;first
       |refine LX_nil ?_))
    all_goals exact PX_retE rfl rfl (Ext.refl _) rfl
  · have hv : wbit ws x = false := wbit_none (by omega)
    rw [hv]
    repeat' (first
     |(refine oLA ?_;first
     |refine LA_pass rfl ?_|(refine oM ?_;first|refine LA_moveV rfl rfl ?_|refine LA_moveP rfl rfl ?_|refine LA_moveT rfl rfl ?_|refine LA_moveU rfl rfl ?_)|(refine oA ?_;first|refine LA_assignV rfl rfl ?_|refine LA_assignP rfl rfl ?_|refine LA_assignT rfl rfl ?_)|(refine oP ?_;first|refine LA_pickTV rfl rfl rfl ?_|refine LA_pickFV rfl rfl rfl ?_)|(refine oN ?_;first|refine LA_notT rfl rfl ?_|refine LA_notF rfl rfl ?_|refine LA_not rfl rfl ?_)|(refine oX ?_;first|refine LA_ext0 rfl rfl ?_|refine LA_ext1 rfl rfl ?_|refine LA_ext30 rfl rfl ?_|refine LA_ext31 rfl rfl ?_|refine LA_ext32 rfl rfl ?_)|(refine oB .add ?_;first|refine stAdd rfl rfl rfl ?_|refine LA_addW rfl rfl rfl ?_)|(refine oB .sub ?_;first|refine stSub rfl rfl rfl ?_|refine LA_subW rfl rfl rfl ?_)|(refine oB .mul ?_;first|refine stMul rfl rfl rfl ?_|refine LA_mulW rfl rfl rfl ?_)|(refine oB .quo ?_;refine stQuo rfl rfl rfl ?_)|(refine oB .rem ?_;refine stRem rfl rfl rfl ?_)|(refine oB .shr ?_;refine stShr rfl rfl rfl ?_;try dsimp only [Int.reduceToNat, Int.reducePow])|(refine oB .shl ?_;refine stShl rfl rfl rfl ?_;try dsimp only [Int.reduceToNat, Int.reducePow])|(refine oB _ ?_;first|refine stT rfl rfl rfl rfl ?_|refine stF rfl rfl rfl rfl ?_|(refine LA_cmp rfl rfl rfl rfl (fun hc => ?_) (fun hc => ?_)<;>dsimp only [cmpP] at hc)|refine stBET rfl rfl rfl rfl ?_|refine stBEF rfl rfl rfl rfl ?_|refine LA_boolEq rfl rfl rfl rfl ?_|refine stBNT rfl rfl rfl rfl ?_|refine stBNF rfl rfl rfl rfl ?_|refine LA_boolNe rfl rfl rfl rfl ?_)|(refine oI ?_;first|refine stIN rfl _ rfl (fun _ => rfl) rfl rfl ?_|(refine stII rfl _ rfl (fun _ => rfl) rfl rfl ?_;try dsimp only [Int.reduceToNat]))|(refine oL ?_;refine LA_load rfl (fun _ => rfl) rfl ?_)|(refine oV ?_;first|refine stCnv rfl rfl rfl rfl ?_|refine LA_conv rfl rfl rfl rfl ?_)|(refine oS ?_;first|(refine stSL rfl _ rfl rfl rfl (fun _ => rfl) ?_;try dsimp only [Int.reduceToNat, Int.toNat_natCast])|(refine stSH rfl _ rfl rfl rfl (fun _ => rfl) ?_;try dsimp only [Int.reduceToNat, Int.toNat_natCast])|(refine stSLH rfl _ rfl rfl rfl rfl (fun _ => rfl) ?_;try dsimp only [Int.reduceToNat, Int.toNat_natCast]))|(refine oLen ?_;refine stLen rfl _ rfl rfl ?_)
     |(refine LA_nil (hK [] _ (LX_nil ?_));clear hK K)|(refine LA_nil (hK _ ?_);clear hK K))
     |(refine oCX ?_;first
     |refine CX_seq ?_|refine CX_skip ?_|refine CX_block ?_|refine CX_exit ?_|refine CX_ret ?_|refine CX_condT rfl ?_|refine CX_condF rfl ?_|refine CX_region (by kernel_rfl) (fun K hK => ?_)|refine CX_regionA (by kernel_rfl) (by kernel_rfl) (fun K hK => ?_)|refine CX_label ?_|refine CX_scope ?_)
     |(refine oPX ?_;first
     |refine PX_then ?_|refine PX_thenX ?_|refine PX_thenR ?_|refine PX_blockN ?_|refine PX_blockR ?_|refine PX_blockX ?_|refine PX_blockO (by decide) ?_|refine PX_scopeN ?_|refine PX_scopeR ?_|refine PX_scopeX ?_)
     |(refine oLX ?_;first
     |refine LX_nil ?_))
    exact PX_retE rfl rfl (Ext.refl _) rfl
end Go.Proofs.YthcpljmibcacaaaDoor
