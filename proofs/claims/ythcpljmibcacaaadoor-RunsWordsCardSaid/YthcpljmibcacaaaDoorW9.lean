import Derived.Test.YthcpljmibcacaaaDoorW8

set_option linter.unusedSimpArgs false
set_option linter.unusedVariables false
namespace Go.Proofs.YthcpljmibcacaaaDoor
open Go.LA Go.ArrP Go.RowKit

/-- W without its j lowest bits. -/
def Cut (W j x : Nat) : Prop := x < 18446744073709551616 ∧ ∀ b, x.testBit b = (W.testBit b && decide (j ≤ cnt (fun i => W.testBit i) b))
theorem cut_low {W j x : Nat} (hW : W < 18446744073709551616) (h : Cut W j x) (hj : j < pop64 W) : x ≠ 0 ∧ W.testBit (Lib.ctz 64 x) = true ∧ cnt (fun i => W.testBit i) (Lib.ctz 64 x) = j ∧ Lib.ctz 64 x < 64 ∧ Cut W (j + 1) (x &&& (x - 1)) := by
  obtain ⟨hx, hb⟩ := h
  obtain ⟨b, g1, g2, g3, -⟩ := listS_get (fun i => W.testBit i) 64 j hj
  have hxb : x.testBit b = true := by rw [hb, g3]; simp [g2]
  have h0 : x ≠ 0 := fun e => by rw [e, Nat.zero_testBit] at hxb; cases hxb
  obtain ⟨m, -, hc64⟩ := low_split h0 hx
  have lb := low_bit h0 hx
  obtain ⟨c, hc⟩ : ∃ c, c = Lib.ctz 64 x := ⟨_, rfl⟩
  rw [← hc] at hc64 lb ⊢
  have hxc := (lb 0).1.1
  have hWc : W.testBit c = true ∧ j ≤ cnt (fun i => W.testBit i) c := by rw [hb] at hxc; simpa using hxc
  have hcj : cnt (fun i => W.testBit i) c = j := by
    rcases Nat.lt_or_ge j (cnt (fun i => W.testBit i) c) with h1 | h1
    · obtain ⟨d, d1, d2, d3, -⟩ := listS_get (fun i => W.testBit i) c j h1
      have := (lb d).1.2 d1
      rw [hb, d3] at this; simp [d2] at this
    · omega
  refine ⟨h0, hWc.1, hcj, hc64, Nat.lt_of_le_of_lt Nat.and_le_left hx, fun d => ?_⟩
  rw [(lb d).2, hb]
  cases hd : W.testBit d
  · simp
  · rw [Bool.true_and, Bool.true_and]
    by_cases e : d = c
    · subst e; rw [hcj, decide_eq_false (show ¬ j + 1 ≤ j by omega)]; simp
    · rw [decide_eq_true (show d ≠ c from e), Bool.and_true, decide_eq_decide]
      constructor
      · intro h1
        rcases Nat.lt_or_ge d c with h2 | h2
        · have := cnt_mono (fun i => W.testBit i) (m := d + 1) c h2
          simp only [cnt, hd, if_true] at this; omega
        · have := cnt_mono (fun i => W.testBit i) (m := c + 1) d (by omega)
          simp only [cnt, hWc.1, if_true] at this; omega
      · omega
/-- The k-th number of words, or none. -/
def selS (ws : List Int) (k : Int) : Int × Bool := if 0 ≤ k ∧ k < cnt (wbit ws) (64 * min ws.length 1024) then ((listS (wbit ws) (64 * min ws.length 1024)).getD k.toNat 0, true) else (0, false)
theorem wsel_c (w : World) (v : Value) (ws : List Int) (k : Int) (h : SlI .u64 w v ws) (hl : Lw ws) (hT : Tab w) (hk : -9223372036854775808 ≤ k ∧ k < 9223372036854775808) : Fc Tryd.prog 15 #[v, .int .i64 k] w (Ret w (.tup2 (.val (.int .u16 (selS ws k).1)) (.val (.bool (selS ws k).2)))) := by
  have hlen := h.len
  refine Fc.of (args := [_, _]) Tryd.func15 rfl rfl Tryd.ntmps15 (Nat.le_of_ble_eq_true rfl) ?_
  by_cases hk0 : k < 0
  · have hs : selS ws k = (0, false) := by simp only [selS]; rw [if_neg (by omega)]
    rw [hs]
    repeat' (first
     |(refine oLA ?_;first
     |refine LA_pass rfl ?_|(refine oM ?_;first|refine LA_moveV rfl rfl ?_|refine LA_moveP rfl rfl ?_|refine LA_moveT rfl rfl ?_|refine LA_moveU rfl rfl ?_)|(refine oA ?_;first|refine LA_assignV rfl rfl ?_|refine LA_assignP rfl rfl ?_|refine LA_assignT rfl rfl ?_)|(refine oP ?_;first|refine LA_pickTV rfl rfl rfl ?_|refine LA_pickFV rfl rfl rfl ?_)|(refine oN ?_;first|refine LA_notT rfl rfl ?_|refine LA_notF rfl rfl ?_|refine LA_not rfl rfl ?_)|(refine oX ?_;first|refine LA_ext0 rfl rfl ?_|refine LA_ext1 rfl rfl ?_|refine LA_ext30 rfl rfl ?_|refine LA_ext31 rfl rfl ?_|refine LA_ext32 rfl rfl ?_)|(refine oB .add ?_;first|refine stAdd rfl rfl rfl ?_|refine LA_addW rfl rfl rfl ?_)|(refine oB .sub ?_;first|refine stSub rfl rfl rfl ?_|refine LA_subW rfl rfl rfl ?_)|(refine oB .mul ?_;first|refine stMul rfl rfl rfl ?_|refine LA_mulW rfl rfl rfl ?_)|(refine oB .quo ?_;refine stQuo rfl rfl rfl ?_)|(refine oB .rem ?_;refine stRem rfl rfl rfl ?_)|(refine oB .shr ?_;refine stShr rfl rfl rfl ?_;try dsimp only [Int.reduceToNat, Int.reducePow])|(refine oB .shl ?_;refine stShl rfl rfl rfl ?_;try dsimp only [Int.reduceToNat, Int.reducePow])|(refine oB _ ?_;first|refine stT rfl rfl rfl rfl ?_|refine stF rfl rfl rfl rfl ?_|(refine LA_cmp rfl rfl rfl rfl (fun hc => ?_) (fun hc => ?_)<;>dsimp only [cmpP] at hc)|refine stBET rfl rfl rfl rfl ?_|refine stBEF rfl rfl rfl rfl ?_|refine LA_boolEq rfl rfl rfl rfl ?_|refine stBNT rfl rfl rfl rfl ?_|refine stBNF rfl rfl rfl rfl ?_|refine LA_boolNe rfl rfl rfl rfl ?_)|(refine oI ?_;first|refine stIN rfl _ rfl (fun _ => rfl) rfl rfl ?_|(refine stII rfl _ rfl (fun _ => rfl) rfl rfl ?_;try dsimp only [Int.reduceToNat]))|(refine oL ?_;refine LA_load rfl (fun _ => rfl) rfl ?_)|(refine oV ?_;first|refine stCnv rfl rfl rfl rfl ?_|refine LA_conv rfl rfl rfl rfl ?_)|(refine oS ?_;first|(refine stSL rfl _ rfl rfl rfl (fun _ => rfl) ?_;try dsimp only [Int.reduceToNat, Int.toNat_natCast])|(refine stSH rfl _ rfl rfl rfl (fun _ => rfl) ?_;try dsimp only [Int.reduceToNat, Int.toNat_natCast])|(refine stSLH rfl _ rfl rfl rfl rfl (fun _ => rfl) ?_;try dsimp only [Int.reduceToNat, Int.toNat_natCast]))|(refine oLen ?_;refine stLen rfl _ rfl rfl ?_)
     |(refine LA_nil (hK [] _ (LX_nil ?_));clear hK K)|(refine LA_nil (hK _ ?_);clear hK K))
     |(refine oCX ?_;first
     |refine CX_seq ?_|refine CX_skip ?_|refine CX_block ?_|refine CX_exit ?_|refine CX_ret ?_|refine CX_condT rfl ?_|refine CX_condF rfl ?_|refine CX_region (by kernel_rfl) (fun K hK => ?_)|refine CX_regionA (by kernel_rfl) (by kernel_rfl) (fun K hK => ?_)|refine CX_label ?_|refine CX_scope ?_)
     |(refine oPX ?_;first
     |refine PX_then ?_|refine PX_thenX ?_|refine PX_thenR ?_|refine PX_blockN ?_|refine PX_blockR ?_|refine PX_blockX ?_|refine PX_blockO (by decide) ?_|refine PX_scopeN ?_|refine PX_scopeR ?_|refine PX_scopeX ?_)
     |(refine oLX ?_;first
     |refine LX_nil ?_))
    exact PX_retE2 rfl rfl rfl (Ext.refl _) rfl rfl
  · skip
    repeat' (first
     |(refine oLA ?_;first
     |refine LA_pass rfl ?_
     |refine LA_min2 rfl rfl rfl ?_|(refine oM ?_;first|refine LA_moveV rfl rfl ?_|refine LA_moveP rfl rfl ?_|refine LA_moveT rfl rfl ?_|refine LA_moveU rfl rfl ?_)|(refine oA ?_;first|refine LA_assignV rfl rfl ?_|refine LA_assignP rfl rfl ?_|refine LA_assignT rfl rfl ?_)|(refine oP ?_;first|refine LA_pickTV rfl rfl rfl ?_|refine LA_pickFV rfl rfl rfl ?_)|(refine oN ?_;first|refine LA_notT rfl rfl ?_|refine LA_notF rfl rfl ?_|refine LA_not rfl rfl ?_)|(refine oX ?_;first|refine LA_ext0 rfl rfl ?_|refine LA_ext1 rfl rfl ?_|refine LA_ext30 rfl rfl ?_|refine LA_ext31 rfl rfl ?_|refine LA_ext32 rfl rfl ?_)|(refine oB .add ?_;first|refine stAdd rfl rfl rfl ?_|refine LA_addW rfl rfl rfl ?_)|(refine oB .sub ?_;first|refine stSub rfl rfl rfl ?_|refine LA_subW rfl rfl rfl ?_)|(refine oB .mul ?_;first|refine stMul rfl rfl rfl ?_|refine LA_mulW rfl rfl rfl ?_)|(refine oB .quo ?_;refine stQuo rfl rfl rfl ?_)|(refine oB .rem ?_;refine stRem rfl rfl rfl ?_)|(refine oB .shr ?_;refine stShr rfl rfl rfl ?_;try dsimp only [Int.reduceToNat, Int.reducePow])|(refine oB .shl ?_;refine stShl rfl rfl rfl ?_;try dsimp only [Int.reduceToNat, Int.reducePow])|(refine oB _ ?_;first|refine stT rfl rfl rfl rfl ?_|refine stF rfl rfl rfl rfl ?_|(refine LA_cmp rfl rfl rfl rfl (fun hc => ?_) (fun hc => ?_)<;>dsimp only [cmpP] at hc)|refine stBET rfl rfl rfl rfl ?_|refine stBEF rfl rfl rfl rfl ?_|refine LA_boolEq rfl rfl rfl rfl ?_|refine stBNT rfl rfl rfl rfl ?_|refine stBNF rfl rfl rfl rfl ?_|refine LA_boolNe rfl rfl rfl rfl ?_)|(refine oI ?_;first|refine stIN rfl _ rfl (fun _ => rfl) rfl rfl ?_|(refine stII rfl _ rfl (fun _ => rfl) rfl rfl ?_;try dsimp only [Int.reduceToNat]))|(refine oL ?_;refine LA_load rfl (fun _ => rfl) rfl ?_)|(refine oV ?_;first|refine stCnv rfl rfl rfl rfl ?_|refine LA_conv rfl rfl rfl rfl ?_)|(refine oS ?_;first|(refine stSL rfl _ rfl rfl rfl (fun _ => rfl) ?_;try dsimp only [Int.reduceToNat, Int.toNat_natCast])|(refine stSH rfl _ rfl rfl rfl (fun _ => rfl) ?_;try dsimp only [Int.reduceToNat, Int.toNat_natCast])|(refine stSLH rfl _ rfl rfl rfl rfl (fun _ => rfl) ?_;try dsimp only [Int.reduceToNat, Int.toNat_natCast]))|(refine oLen ?_;refine stLen rfl _ rfl rfl ?_)
     |(refine LA_nil (hK [] _ (LX_nil ?_));clear hK K)|(refine LA_nil (hK _ ?_);clear hK K))
     |(refine oCX ?_;first
     |refine CX_seq ?_|refine CX_skip ?_|refine CX_block ?_|refine CX_exit ?_|refine CX_ret ?_|refine CX_condT rfl ?_|refine CX_condF rfl ?_|refine CX_region (by kernel_rfl) (fun K hK => ?_)|refine CX_regionA (by kernel_rfl) (by kernel_rfl) (fun K hK => ?_)|refine CX_label ?_|refine CX_scope ?_)
     |(refine oPX ?_;first
     |refine PX_then ?_|refine PX_thenX ?_|refine PX_thenR ?_|refine PX_blockN ?_|refine PX_blockR ?_|refine PX_blockX ?_|refine PX_blockO (by decide) ?_|refine PX_scopeN ?_|refine PX_scopeR ?_|refine PX_scopeX ?_)
     |(refine oLX ?_;first
     |refine LX_nil ?_))
    obtain ⟨K, rfl⟩ := Int.eq_ofNat_of_zero_le (by omega : 0 ≤ k)
    obtain ⟨L, hL⟩ : ∃ L, L = min ws.length 1024 := ⟨_, rfl⟩
    have hLi : min (ws.length : Int) 1024 = (L : Int) := by omega
    rw [hLi]
    refine CX_loop (ι := Nat) (fun i => [(0, .val v), (1, .val (.int .i64 ((K : Int) - cnt (wbit ws) (64 * i)))), (13, .val (.int .i64 L)), (14, .val (.int .i64 i))]) (fun i => i ≤ L ∧ cnt (wbit ws) (64 * i) ≤ K) (fun i => L - i) 0 ⟨Nat.zero_le _, Nat.zero_le _⟩ ?_ ?_
    · rw [show cnt (wbit ws) (64 * 0) = 0 by rfl, show ((K : Int) - ((0 : Nat) : Int)) = K by omega]; exact (by repeat' (first | exact Sub.nil | refine Sub.val rfl (by first | with_reducible rfl | (congr 1; omega)) ?_ | refine Sub.same rfl ?_))
    rintro i ⟨hi, hcK⟩
    have hcw := cnt_word ws i
    obtain ⟨e1, e2⟩ := hl.at i
    have hp := pop_le (wd ws i)
    by_cases hiL : i < L
    · by_cases hge : cnt (wbit ws) (64 * i) + pop64 (wd ws i) ≤ K
      · skip
        repeat' (first
         |(refine oLA ?_;first
         |refine LA_pass rfl ?_|(refine oM ?_;first|refine LA_moveV rfl rfl ?_|refine LA_moveP rfl rfl ?_|refine LA_moveT rfl rfl ?_|refine LA_moveU rfl rfl ?_)|(refine oA ?_;first|refine LA_assignV rfl rfl ?_|refine LA_assignP rfl rfl ?_|refine LA_assignT rfl rfl ?_)|(refine oP ?_;first|refine LA_pickTV rfl rfl rfl ?_|refine LA_pickFV rfl rfl rfl ?_)|(refine oN ?_;first|refine LA_notT rfl rfl ?_|refine LA_notF rfl rfl ?_|refine LA_not rfl rfl ?_)|(refine oX ?_;first|refine LA_ext0 rfl rfl ?_|refine LA_ext1 rfl rfl ?_|refine LA_ext30 rfl rfl ?_|refine LA_ext31 rfl rfl ?_|refine LA_ext32 rfl rfl ?_)|(refine oB .add ?_;first|refine stAdd rfl rfl rfl ?_|refine LA_addW rfl rfl rfl ?_)|(refine oB .sub ?_;first|refine stSub rfl rfl rfl ?_|refine LA_subW rfl rfl rfl ?_)|(refine oB .mul ?_;first|refine stMul rfl rfl rfl ?_|refine LA_mulW rfl rfl rfl ?_)|(refine oB .quo ?_;refine stQuo rfl rfl rfl ?_)|(refine oB .rem ?_;refine stRem rfl rfl rfl ?_)|(refine oB .shr ?_;refine stShr rfl rfl rfl ?_;try dsimp only [Int.reduceToNat, Int.reducePow])|(refine oB .shl ?_;refine stShl rfl rfl rfl ?_;try dsimp only [Int.reduceToNat, Int.reducePow])|(refine oB _ ?_;first|refine stT rfl rfl rfl rfl ?_|refine stF rfl rfl rfl rfl ?_|(refine LA_cmp rfl rfl rfl rfl (fun hc => ?_) (fun hc => ?_)<;>dsimp only [cmpP] at hc)|refine stBET rfl rfl rfl rfl ?_|refine stBEF rfl rfl rfl rfl ?_|refine LA_boolEq rfl rfl rfl rfl ?_|refine stBNT rfl rfl rfl rfl ?_|refine stBNF rfl rfl rfl rfl ?_|refine LA_boolNe rfl rfl rfl rfl ?_)|(refine oI ?_;first|refine stIN rfl _ rfl (fun _ => rfl) rfl rfl ?_|(refine stII rfl _ rfl (fun _ => rfl) rfl rfl ?_;try dsimp only [Int.reduceToNat]))|(refine oL ?_;refine LA_load rfl (fun _ => rfl) rfl ?_)|(refine oV ?_;first|refine stCnv rfl rfl rfl rfl ?_|refine LA_conv rfl rfl rfl rfl ?_)|(refine oS ?_;first|(refine stSL rfl _ rfl rfl rfl (fun _ => rfl) ?_;try dsimp only [Int.reduceToNat, Int.toNat_natCast])|(refine stSH rfl _ rfl rfl rfl (fun _ => rfl) ?_;try dsimp only [Int.reduceToNat, Int.toNat_natCast])|(refine stSLH rfl _ rfl rfl rfl rfl (fun _ => rfl) ?_;try dsimp only [Int.reduceToNat, Int.toNat_natCast]))|(refine oLen ?_;refine stLen rfl _ rfl rfl ?_)
         |(refine oCv ?_;first
         |(refine oC 46 ?_; refine LA_call1 (f := 46) rfl rfl rfl  (.val (.int .i64 (pop64 (wd ws i)))) (by intro u1 w e hu1; (try obtain rfl : u1 = _ := hu1); exact ones_at e1 e2) ?_))|(refine LA_nil (hK [] _ (LX_nil ?_));clear hK K)|(refine LA_nil (hK _ ?_);clear hK K))
         |(refine oCX ?_;first
         |refine CX_seq ?_|refine CX_skip ?_|refine CX_block ?_|refine CX_exit ?_|refine CX_ret ?_|refine CX_condT rfl ?_|refine CX_condF rfl ?_|refine CX_region (by kernel_rfl) (fun K hK => ?_)|refine CX_regionA (by kernel_rfl) (by kernel_rfl) (fun K hK => ?_)|refine CX_label ?_|refine CX_scope ?_)
         |(refine oPX ?_;first
         |refine PX_then ?_|refine PX_thenX ?_|refine PX_thenR ?_|refine PX_blockN ?_|refine PX_blockR ?_|refine PX_blockX ?_|refine PX_blockO (by decide) ?_|refine PX_scopeN ?_|refine PX_scopeR ?_|refine PX_scopeX ?_)
         |(refine oLX ?_;first
         |refine LX_nil ?_))
        refine PX_rnd (i + 1) ⟨?_, ?_⟩ ?_ (by repeat' (first | exact Sub.nil | refine Sub.val rfl (by first | with_reducible rfl | (congr 1; omega)) ?_ | refine Sub.same rfl ?_))
        · omega
        · omega
        · omega
      · skip
        repeat' (first
         |(refine oLA ?_;first
         |refine LA_pass rfl ?_|(refine oM ?_;first|refine LA_moveV rfl rfl ?_|refine LA_moveP rfl rfl ?_|refine LA_moveT rfl rfl ?_|refine LA_moveU rfl rfl ?_)|(refine oA ?_;first|refine LA_assignV rfl rfl ?_|refine LA_assignP rfl rfl ?_|refine LA_assignT rfl rfl ?_)|(refine oP ?_;first|refine LA_pickTV rfl rfl rfl ?_|refine LA_pickFV rfl rfl rfl ?_)|(refine oN ?_;first|refine LA_notT rfl rfl ?_|refine LA_notF rfl rfl ?_|refine LA_not rfl rfl ?_)|(refine oX ?_;first|refine LA_ext0 rfl rfl ?_|refine LA_ext1 rfl rfl ?_|refine LA_ext30 rfl rfl ?_|refine LA_ext31 rfl rfl ?_|refine LA_ext32 rfl rfl ?_)|(refine oB .add ?_;first|refine stAdd rfl rfl rfl ?_|refine LA_addW rfl rfl rfl ?_)|(refine oB .sub ?_;first|refine stSub rfl rfl rfl ?_|refine LA_subW rfl rfl rfl ?_)|(refine oB .mul ?_;first|refine stMul rfl rfl rfl ?_|refine LA_mulW rfl rfl rfl ?_)|(refine oB .quo ?_;refine stQuo rfl rfl rfl ?_)|(refine oB .rem ?_;refine stRem rfl rfl rfl ?_)|(refine oB .shr ?_;refine stShr rfl rfl rfl ?_;try dsimp only [Int.reduceToNat, Int.reducePow])|(refine oB .shl ?_;refine stShl rfl rfl rfl ?_;try dsimp only [Int.reduceToNat, Int.reducePow])|(refine oB _ ?_;first|refine stT rfl rfl rfl rfl ?_|refine stF rfl rfl rfl rfl ?_|(refine LA_cmp rfl rfl rfl rfl (fun hc => ?_) (fun hc => ?_)<;>dsimp only [cmpP] at hc)|refine stBET rfl rfl rfl rfl ?_|refine stBEF rfl rfl rfl rfl ?_|refine LA_boolEq rfl rfl rfl rfl ?_|refine stBNT rfl rfl rfl rfl ?_|refine stBNF rfl rfl rfl rfl ?_|refine LA_boolNe rfl rfl rfl rfl ?_)|(refine oI ?_;first|refine stIN rfl _ rfl (fun _ => rfl) rfl rfl ?_|(refine stII rfl _ rfl (fun _ => rfl) rfl rfl ?_;try dsimp only [Int.reduceToNat]))|(refine oL ?_;refine LA_load rfl (fun _ => rfl) rfl ?_)|(refine oV ?_;first|refine stCnv rfl rfl rfl rfl ?_|refine LA_conv rfl rfl rfl rfl ?_)|(refine oS ?_;first|(refine stSL rfl _ rfl rfl rfl (fun _ => rfl) ?_;try dsimp only [Int.reduceToNat, Int.toNat_natCast])|(refine stSH rfl _ rfl rfl rfl (fun _ => rfl) ?_;try dsimp only [Int.reduceToNat, Int.toNat_natCast])|(refine stSLH rfl _ rfl rfl rfl rfl (fun _ => rfl) ?_;try dsimp only [Int.reduceToNat, Int.toNat_natCast]))|(refine oLen ?_;refine stLen rfl _ rfl rfl ?_)
         |(refine oCv ?_;first
         |(refine oC 46 ?_; refine LA_call1 (f := 46) rfl rfl rfl  (.val (.int .i64 (pop64 (wd ws i)))) (by intro u1 w e hu1; (try obtain rfl : u1 = _ := hu1); exact ones_at e1 e2) ?_))|(refine LA_nil (hK [] _ (LX_nil ?_));clear hK K)|(refine LA_nil (hK _ ?_);clear hK K))
         |(refine oCX ?_;first
         |refine CX_seq ?_|refine CX_skip ?_|refine CX_block ?_|refine CX_exit ?_|refine CX_ret ?_|refine CX_condT rfl ?_|refine CX_condF rfl ?_|refine CX_region (by kernel_rfl) (fun K hK => ?_)|refine CX_regionA (by kernel_rfl) (by kernel_rfl) (fun K hK => ?_)|refine CX_label ?_|refine CX_scope ?_)
         |(refine oPX ?_;first
         |refine PX_then ?_|refine PX_thenX ?_|refine PX_thenR ?_|refine PX_blockN ?_|refine PX_blockR ?_|refine PX_blockX ?_|refine PX_blockO (by decide) ?_|refine PX_scopeN ?_|refine PX_scopeR ?_|refine PX_scopeX ?_)
         |(refine oLX ?_;first
         |refine LX_nil ?_))
        obtain ⟨q, hq⟩ : ∃ q : Nat, (K : Int) - cnt (wbit ws) (64 * i) = q := ⟨((K : Int) - cnt (wbit ws) (64 * i)).toNat, by omega⟩
        rw [hq]
        refine CX_loop (ι := Nat × Nat) (fun z => [(6, .val (.int .i64 i)), (7, .val (.int .u64 z.2)), (29, .val (.int .i64 q)), (30, .val (.int .i64 z.1))]) (fun z => z.1 ≤ q ∧ Cut (wd ws i) z.1 z.2) (fun z => q - z.1) (0, wd ws i) ⟨Nat.zero_le _, e2, fun b => by simp⟩ ?_ ?_
        · dsimp only; rw [← e1]; exact (by repeat' (first | exact Sub.nil | refine Sub.val rfl (by first | with_reducible rfl | (congr 1; omega)) ?_ | refine Sub.same rfl ?_))
        rintro ⟨j, x⟩ ⟨hjq, hcut⟩
        dsimp only at hjq hcut ⊢
        have hx := hcut.1
        by_cases hj : j < q
        · obtain ⟨h0, -, -, -, hcut'⟩ := cut_low e2 hcut (by omega)
          have hxa : bits .and .u64 (x : Int) ((x : Int) - 1) = ((x &&& (x - 1) : Nat) : Int) := and64 _ _ hx (by omega) rfl (by omega)
          repeat' (first
           |(refine oLA ?_;first
           |refine LA_pass rfl ?_
           |(refine LA_bits (.inl rfl) rfl rfl rfl ?_; rw [hxa])|(refine oM ?_;first|refine LA_moveV rfl rfl ?_|refine LA_moveP rfl rfl ?_|refine LA_moveT rfl rfl ?_|refine LA_moveU rfl rfl ?_)|(refine oA ?_;first|refine LA_assignV rfl rfl ?_|refine LA_assignP rfl rfl ?_|refine LA_assignT rfl rfl ?_)|(refine oP ?_;first|refine LA_pickTV rfl rfl rfl ?_|refine LA_pickFV rfl rfl rfl ?_)|(refine oN ?_;first|refine LA_notT rfl rfl ?_|refine LA_notF rfl rfl ?_|refine LA_not rfl rfl ?_)|(refine oX ?_;first|refine LA_ext0 rfl rfl ?_|refine LA_ext1 rfl rfl ?_|refine LA_ext30 rfl rfl ?_|refine LA_ext31 rfl rfl ?_|refine LA_ext32 rfl rfl ?_)|(refine oB .add ?_;first|refine stAdd rfl rfl rfl ?_|refine LA_addW rfl rfl rfl ?_)|(refine oB .sub ?_;first|refine stSub rfl rfl rfl ?_|refine LA_subW rfl rfl rfl ?_)|(refine oB .mul ?_;first|refine stMul rfl rfl rfl ?_|refine LA_mulW rfl rfl rfl ?_)|(refine oB .quo ?_;refine stQuo rfl rfl rfl ?_)|(refine oB .rem ?_;refine stRem rfl rfl rfl ?_)|(refine oB .shr ?_;refine stShr rfl rfl rfl ?_;try dsimp only [Int.reduceToNat, Int.reducePow])|(refine oB .shl ?_;refine stShl rfl rfl rfl ?_;try dsimp only [Int.reduceToNat, Int.reducePow])|(refine oB _ ?_;first|refine stT rfl rfl rfl rfl ?_|refine stF rfl rfl rfl rfl ?_|(refine LA_cmp rfl rfl rfl rfl (fun hc => ?_) (fun hc => ?_)<;>dsimp only [cmpP] at hc)|refine stBET rfl rfl rfl rfl ?_|refine stBEF rfl rfl rfl rfl ?_|refine LA_boolEq rfl rfl rfl rfl ?_|refine stBNT rfl rfl rfl rfl ?_|refine stBNF rfl rfl rfl rfl ?_|refine LA_boolNe rfl rfl rfl rfl ?_)|(refine oI ?_;first|refine stIN rfl _ rfl (fun _ => rfl) rfl rfl ?_|(refine stII rfl _ rfl (fun _ => rfl) rfl rfl ?_;try dsimp only [Int.reduceToNat]))|(refine oL ?_;refine LA_load rfl (fun _ => rfl) rfl ?_)|(refine oV ?_;first|refine stCnv rfl rfl rfl rfl ?_|refine LA_conv rfl rfl rfl rfl ?_)|(refine oS ?_;first|(refine stSL rfl _ rfl rfl rfl (fun _ => rfl) ?_;try dsimp only [Int.reduceToNat, Int.toNat_natCast])|(refine stSH rfl _ rfl rfl rfl (fun _ => rfl) ?_;try dsimp only [Int.reduceToNat, Int.toNat_natCast])|(refine stSLH rfl _ rfl rfl rfl rfl (fun _ => rfl) ?_;try dsimp only [Int.reduceToNat, Int.toNat_natCast]))|(refine oLen ?_;refine stLen rfl _ rfl rfl ?_)
           |(refine LA_nil (hK [] _ (LX_nil ?_));clear hK K)|(refine LA_nil (hK _ ?_);clear hK K))
           |(refine oCX ?_;first
           |refine CX_seq ?_|refine CX_skip ?_|refine CX_block ?_|refine CX_exit ?_|refine CX_ret ?_|refine CX_condT rfl ?_|refine CX_condF rfl ?_|refine CX_region (by kernel_rfl) (fun K hK => ?_)|refine CX_regionA (by kernel_rfl) (by kernel_rfl) (fun K hK => ?_)|refine CX_label ?_|refine CX_scope ?_)
           |(refine oPX ?_;first
           |refine PX_then ?_|refine PX_thenX ?_|refine PX_thenR ?_|refine PX_blockN ?_|refine PX_blockR ?_|refine PX_blockX ?_|refine PX_blockO (by decide) ?_|refine PX_scopeN ?_|refine PX_scopeR ?_|refine PX_scopeX ?_)
           |(refine oLX ?_;first
           |refine LX_nil ?_))
          refine PX_rnd (j + 1, x &&& (x - 1)) ⟨?_, hcut'⟩ ?_ (by repeat' (first | exact Sub.nil | refine Sub.val rfl (by first | with_reducible rfl | (congr 1; omega)) ?_ | refine Sub.same rfl ?_))
          · dsimp only; omega
          · dsimp only; omega
        · obtain rfl : j = q := by omega
          obtain ⟨h0, hc1, hc2, hc3, -⟩ := cut_low e2 hcut (by omega)
          obtain ⟨c, hc⟩ : ∃ c, c = Lib.ctz 64 x := ⟨_, rfl⟩
          rw [← hc] at hc1 hc2 hc3
          have hcp := cnt_part ws i c (by omega)
          have hwb : wbit ws (64 * i + c) = true := by unfold wbit; rw [show (64 * i + c) / 64 = i by omega, show (64 * i + c) % 64 = c by omega]; exact hc1
          have hat := listS_at (wbit ws) (64 * L) (64 * i + c) (by omega) hwb
          have hlt := cnt_mono (wbit ws) (m := 64 * i + c + 1) (64 * L) (by omega)
          simp only [cnt, hwb, if_true] at hlt
          have hsel : selS ws K = (((64 * i + c : Nat) : Int), true) := by
            simp only [selS]
            rw [← hL, if_pos (by omega), Int.toNat_natCast, ← hat]
            congr 2; omega
          rw [hsel]
          repeat' (first
           |(refine oLA ?_;first
           |refine LA_pass rfl ?_
           |(refine oC 45 ?_; refine LA_call1 (f := 45) rfl rfl rfl  (.val (.int .i64 c)) (by intro u1 w e hu1; (try obtain rfl : u1 = _ := hu1); exact (hc ▸ tz_c _ x hx (hT.ext e))) ?_)|(refine oM ?_;first|refine LA_moveV rfl rfl ?_|refine LA_moveP rfl rfl ?_|refine LA_moveT rfl rfl ?_|refine LA_moveU rfl rfl ?_)|(refine oA ?_;first|refine LA_assignV rfl rfl ?_|refine LA_assignP rfl rfl ?_|refine LA_assignT rfl rfl ?_)|(refine oP ?_;first|refine LA_pickTV rfl rfl rfl ?_|refine LA_pickFV rfl rfl rfl ?_)|(refine oN ?_;first|refine LA_notT rfl rfl ?_|refine LA_notF rfl rfl ?_|refine LA_not rfl rfl ?_)|(refine oX ?_;first|refine LA_ext0 rfl rfl ?_|refine LA_ext1 rfl rfl ?_|refine LA_ext30 rfl rfl ?_|refine LA_ext31 rfl rfl ?_|refine LA_ext32 rfl rfl ?_)|(refine oB .add ?_;first|refine stAdd rfl rfl rfl ?_|refine LA_addW rfl rfl rfl ?_)|(refine oB .sub ?_;first|refine stSub rfl rfl rfl ?_|refine LA_subW rfl rfl rfl ?_)|(refine oB .mul ?_;first|refine stMul rfl rfl rfl ?_|refine LA_mulW rfl rfl rfl ?_)|(refine oB .quo ?_;refine stQuo rfl rfl rfl ?_)|(refine oB .rem ?_;refine stRem rfl rfl rfl ?_)|(refine oB .shr ?_;refine stShr rfl rfl rfl ?_;try dsimp only [Int.reduceToNat, Int.reducePow])|(refine oB .shl ?_;refine stShl rfl rfl rfl ?_;try dsimp only [Int.reduceToNat, Int.reducePow])|(refine oB _ ?_;first|refine stT rfl rfl rfl rfl ?_|refine stF rfl rfl rfl rfl ?_|(refine LA_cmp rfl rfl rfl rfl (fun hc => ?_) (fun hc => ?_)<;>dsimp only [cmpP] at hc)|refine stBET rfl rfl rfl rfl ?_|refine stBEF rfl rfl rfl rfl ?_|refine LA_boolEq rfl rfl rfl rfl ?_|refine stBNT rfl rfl rfl rfl ?_|refine stBNF rfl rfl rfl rfl ?_|refine LA_boolNe rfl rfl rfl rfl ?_)|(refine oI ?_;first|refine stIN rfl _ rfl (fun _ => rfl) rfl rfl ?_|(refine stII rfl _ rfl (fun _ => rfl) rfl rfl ?_;try dsimp only [Int.reduceToNat]))|(refine oL ?_;refine LA_load rfl (fun _ => rfl) rfl ?_)|(refine oV ?_;first|refine stCnv rfl rfl rfl rfl ?_|refine LA_conv rfl rfl rfl rfl ?_)|(refine oS ?_;first|(refine stSL rfl _ rfl rfl rfl (fun _ => rfl) ?_;try dsimp only [Int.reduceToNat, Int.toNat_natCast])|(refine stSH rfl _ rfl rfl rfl (fun _ => rfl) ?_;try dsimp only [Int.reduceToNat, Int.toNat_natCast])|(refine stSLH rfl _ rfl rfl rfl rfl (fun _ => rfl) ?_;try dsimp only [Int.reduceToNat, Int.toNat_natCast]))|(refine oLen ?_;refine stLen rfl _ rfl rfl ?_)
           |(refine LA_nil (hK [] _ (LX_nil ?_));clear hK K)|(refine LA_nil (hK _ ?_);clear hK K))
           |(refine oCX ?_;first
           |refine CX_seq ?_|refine CX_skip ?_|refine CX_block ?_|refine CX_exit ?_|refine CX_ret ?_|refine CX_condT rfl ?_|refine CX_condF rfl ?_|refine CX_region (by kernel_rfl) (fun K hK => ?_)|refine CX_regionA (by kernel_rfl) (by kernel_rfl) (fun K hK => ?_)|refine CX_label ?_|refine CX_scope ?_)
           |(refine oPX ?_;first
           |refine PX_then ?_|refine PX_thenX ?_|refine PX_thenR ?_|refine PX_blockN ?_|refine PX_blockR ?_|refine PX_blockX ?_|refine PX_blockO (by decide) ?_|refine PX_scopeN ?_|refine PX_scopeR ?_|refine PX_scopeX ?_)
           |(refine oLX ?_;first
           |refine LX_nil ?_))
          exact PX_retE2 rfl rfl rfl (Ext.refl _) (by congr 1) rfl
    · obtain rfl : i = L := by omega
      have hs : selS ws K = (0, false) := by simp only [selS]; rw [← hL, if_neg (by omega)]
      rw [hs]
      repeat' (first
       |(refine oLA ?_;first
       |refine LA_pass rfl ?_|(refine oM ?_;first|refine LA_moveV rfl rfl ?_|refine LA_moveP rfl rfl ?_|refine LA_moveT rfl rfl ?_|refine LA_moveU rfl rfl ?_)|(refine oA ?_;first|refine LA_assignV rfl rfl ?_|refine LA_assignP rfl rfl ?_|refine LA_assignT rfl rfl ?_)|(refine oP ?_;first|refine LA_pickTV rfl rfl rfl ?_|refine LA_pickFV rfl rfl rfl ?_)|(refine oN ?_;first|refine LA_notT rfl rfl ?_|refine LA_notF rfl rfl ?_|refine LA_not rfl rfl ?_)|(refine oX ?_;first|refine LA_ext0 rfl rfl ?_|refine LA_ext1 rfl rfl ?_|refine LA_ext30 rfl rfl ?_|refine LA_ext31 rfl rfl ?_|refine LA_ext32 rfl rfl ?_)|(refine oB .add ?_;first|refine stAdd rfl rfl rfl ?_|refine LA_addW rfl rfl rfl ?_)|(refine oB .sub ?_;first|refine stSub rfl rfl rfl ?_|refine LA_subW rfl rfl rfl ?_)|(refine oB .mul ?_;first|refine stMul rfl rfl rfl ?_|refine LA_mulW rfl rfl rfl ?_)|(refine oB .quo ?_;refine stQuo rfl rfl rfl ?_)|(refine oB .rem ?_;refine stRem rfl rfl rfl ?_)|(refine oB .shr ?_;refine stShr rfl rfl rfl ?_;try dsimp only [Int.reduceToNat, Int.reducePow])|(refine oB .shl ?_;refine stShl rfl rfl rfl ?_;try dsimp only [Int.reduceToNat, Int.reducePow])|(refine oB _ ?_;first|refine stT rfl rfl rfl rfl ?_|refine stF rfl rfl rfl rfl ?_|(refine LA_cmp rfl rfl rfl rfl (fun hc => ?_) (fun hc => ?_)<;>dsimp only [cmpP] at hc)|refine stBET rfl rfl rfl rfl ?_|refine stBEF rfl rfl rfl rfl ?_|refine LA_boolEq rfl rfl rfl rfl ?_|refine stBNT rfl rfl rfl rfl ?_|refine stBNF rfl rfl rfl rfl ?_|refine LA_boolNe rfl rfl rfl rfl ?_)|(refine oI ?_;first|refine stIN rfl _ rfl (fun _ => rfl) rfl rfl ?_|(refine stII rfl _ rfl (fun _ => rfl) rfl rfl ?_;try dsimp only [Int.reduceToNat]))|(refine oL ?_;refine LA_load rfl (fun _ => rfl) rfl ?_)|(refine oV ?_;first|refine stCnv rfl rfl rfl rfl ?_|refine LA_conv rfl rfl rfl rfl ?_)|(refine oS ?_;first|(refine stSL rfl _ rfl rfl rfl (fun _ => rfl) ?_;try dsimp only [Int.reduceToNat, Int.toNat_natCast])|(refine stSH rfl _ rfl rfl rfl (fun _ => rfl) ?_;try dsimp only [Int.reduceToNat, Int.toNat_natCast])|(refine stSLH rfl _ rfl rfl rfl rfl (fun _ => rfl) ?_;try dsimp only [Int.reduceToNat, Int.toNat_natCast]))|(refine oLen ?_;refine stLen rfl _ rfl rfl ?_)
       |(refine LA_nil (hK [] _ (LX_nil ?_));clear hK K)|(refine LA_nil (hK _ ?_);clear hK K))
       |(refine oCX ?_;first
       |refine CX_seq ?_|refine CX_skip ?_|refine CX_block ?_|refine CX_exit ?_|refine CX_ret ?_|refine CX_condT rfl ?_|refine CX_condF rfl ?_|refine CX_region (by kernel_rfl) (fun K hK => ?_)|refine CX_regionA (by kernel_rfl) (by kernel_rfl) (fun K hK => ?_)|refine CX_label ?_|refine CX_scope ?_)
       |(refine oPX ?_;first
       |refine PX_then ?_|refine PX_thenX ?_|refine PX_thenR ?_|refine PX_blockN ?_|refine PX_blockR ?_|refine PX_blockX ?_|refine PX_blockO (by decide) ?_|refine PX_scopeN ?_|refine PX_scopeR ?_|refine PX_scopeX ?_)
       |(refine oLX ?_;first
       |refine LX_nil ?_))
      exact PX_retE2 rfl rfl rfl (Ext.refl _) rfl rfl
end Go.Proofs.YthcpljmibcacaaaDoor
