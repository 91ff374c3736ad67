import Derived.Test.YthcpljmibcacaaaDoorProg
import Derived.Test.YthcpljmibcacaaaDoorPop
import Derived.Laws.Bits64b

set_option linter.unusedSimpArgs false
set_option linter.unusedVariables false
namespace Go.Proofs.YthcpljmibcacaaaDoor
open Go.LA Go.ArrP Go.RowKit

theorem and_i64 (a : Nat) (ha : a < 9223372036854775808) : bits .and .i64 (a : Int) 127 = ((a % 128 : Nat) : Int) := by
  have h1 : (BitVec.ofInt 64 (a : Int)).toNat = a := by
    rw [BitVec.ofInt_natCast, BitVec.toNat_ofNat]; exact Nat.mod_eq_of_lt (by omega)
  have h2 : (BitVec.ofInt 64 (127 : Int)).toNat = 127 := by decide
  have h3 : a &&& 127 = a % 128 := Nat.and_two_pow_sub_one_eq_mod a 7
  show IntKind.i64.wrap ((BitVec.ofInt 64 (a : Int) &&& BitVec.ofInt 64 (127 : Int)).toNat : Int) = _
  rw [BitVec.toNat_and, h1, h2, h3, IntKind.wrap_i64]
  omega
theorem and64 (a b : Nat) (ha : a < 18446744073709551616) (hb : b < 18446744073709551616) {x y : Int} (hx : x = (a : Int)) (hy : y = (b : Int)) : bits .and .u64 x y = ((a &&& b : Nat) : Int) := by
  subst hx hy; exact bits_and_u64_nat a b ha hb
theorem ones_c (w : World) (n : Nat) (hn : n < 18446744073709551616) : Fc Tryd.prog 46 #[.int .u64 n] w (Ret w (.val (.int .i64 (pop64 n)))) := by
  obtain ⟨n2, hn2⟩ : ∃ n2, n2 = y1 6148914691236517205 n := ⟨_, rfl⟩
  obtain ⟨n3, hn3⟩ : ∃ n3, n3 = y2 3689348814741910323 n2 := ⟨_, rfl⟩
  obtain ⟨z, hz⟩ : ∃ z, z = y3 1085102592571150095 n3 := ⟨_, rfl⟩
  have ho := ones_plain n hn (z := z) (by rw [hz, hn3, hn2])
  obtain ⟨o1, o2, o3, o4, o5⟩ := ho
  have l1 : n / 2 &&& 6148914691236517205 ≤ 6148914691236517205 := Nat.and_le_right
  have l2 : n &&& 6148914691236517205 ≤ 6148914691236517205 := Nat.and_le_right
  have l3 : n2 / 4 &&& 3689348814741910323 ≤ 3689348814741910323 := Nat.and_le_right
  have l4 : n2 &&& 3689348814741910323 ≤ 3689348814741910323 := Nat.and_le_right
  have d2 : n2 = (n / 2 &&& 6148914691236517205) + (n &&& 6148914691236517205) := hn2
  have d3 : n3 = (n2 / 4 &&& 3689348814741910323) + (n2 &&& 3689348814741910323) := hn3
  have d4 : z = (n3 / 16 + n3) &&& 1085102592571150095 := hz
  have e5 : bits .and .u64 ((n : Int) / 2) 6148914691236517205 = ((n / 2 &&& 6148914691236517205 : Nat) : Int) := and64 _ _ (by omega) (by omega) (by omega) rfl
  have e7 : bits .and .u64 (n : Int) 6148914691236517205 = ((n &&& 6148914691236517205 : Nat) : Int) := and64 _ _ (by omega) (by omega) rfl rfl
  have e11 : bits .and .u64 ((n2 : Int) / 4) 3689348814741910323 = ((n2 / 4 &&& 3689348814741910323 : Nat) : Int) := and64 _ _ (by omega) (by omega) (by omega) rfl
  have e13 : bits .and .u64 (n2 : Int) 3689348814741910323 = ((n2 &&& 3689348814741910323 : Nat) : Int) := and64 _ _ (by omega) (by omega) rfl rfl
  have e19 : bits .and .u64 ((n3 : Int) / 16 + (n3 : Int)) 1085102592571150095 = (z : Int) := by rw [d4]; exact and64 _ _ (by omega) (by omega) (by omega) rfl
  have s8 : ((n / 2 &&& 6148914691236517205 : Nat) : Int) + ((n &&& 6148914691236517205 : Nat) : Int) = (n2 : Int) := by omega
  have s14 : ((n2 / 4 &&& 3689348814741910323 : Nat) : Int) + ((n2 &&& 3689348814741910323 : Nat) : Int) = (n3 : Int) := by omega
  obtain ⟨u, hu⟩ : ∃ u, u = z + z / 256 := ⟨_, rfl⟩
  rw [← hu] at o2 o3 o4 o5
  obtain ⟨t, ht⟩ : ∃ t, t = u + u / 65536 := ⟨_, rfl⟩
  rw [← ht] at o3 o4 o5
  obtain ⟨r, hr⟩ : ∃ r, r = t + t / 4294967296 := ⟨_, rfl⟩
  rw [← hr] at o4 o5
  have s23 : (z : Int) + (z : Int) / 256 = (u : Int) := by omega
  have s27 : (u : Int) + (u : Int) / 65536 = (t : Int) := by omega
  have s31 : (t : Int) + (t : Int) / 4294967296 = (r : Int) := by omega
  have e34 := and_i64 r o4
  rw [o5] at e34
  refine Fc.of (args := [_]) Tryd.func46 rfl rfl Tryd.ntmps46 (Nat.le_of_ble_eq_true rfl) ?_
  repeat' (first
   |(refine oLA ?_;first
   |refine LA_pass rfl ?_
   |(show LA _ _ _ _ (⟨some 5, .binOp .and _ _ _ _, _, _, _, _⟩ :: _) _; refine LA_bits (.inl rfl) rfl rfl rfl ?_; rw [e5])
   |(show LA _ _ _ _ (⟨some 7, .binOp .and _ _ _ _, _, _, _, _⟩ :: _) _; refine LA_bits (.inl rfl) rfl rfl rfl ?_; rw [e7])
   |(show LA _ _ _ _ (⟨some 11, .binOp .and _ _ _ _, _, _, _, _⟩ :: _) _; refine LA_bits (.inl rfl) rfl rfl rfl ?_; rw [e11])
   |(show LA _ _ _ _ (⟨some 13, .binOp .and _ _ _ _, _, _, _, _⟩ :: _) _; refine LA_bits (.inl rfl) rfl rfl rfl ?_; rw [e13])
   |(show LA _ _ _ _ (⟨some 19, .binOp .and _ _ _ _, _, _, _, _⟩ :: _) _; refine LA_bits (.inl rfl) rfl rfl rfl ?_; rw [e19])
   |(show LA _ _ _ _ (⟨some 34, .binOp .and _ _ _ _, _, _, _, _⟩ :: _) _; refine LA_bits (.inl rfl) rfl rfl rfl ?_; rw [e34])
   |(show LA _ _ _ _ (⟨some 8, .binOp .add _ _ _ _, _, _, _, _⟩ :: _) _; refine LA_addF rfl rfl rfl (by rw [s8]; dsimp only [fits]; omega) ?_; rw [s8])
   |(show LA _ _ _ _ (⟨some 14, .binOp .add _ _ _ _, _, _, _, _⟩ :: _) _; refine LA_addF rfl rfl rfl (by rw [s14]; dsimp only [fits]; omega) ?_; rw [s14])
   |(show LA _ _ _ _ (⟨some 23, .binOp .add _ _ _ _, _, _, _, _⟩ :: _) _; refine LA_addF rfl rfl rfl (by rw [s23]; dsimp only [fits]; omega) ?_; rw [s23])
   |(show LA _ _ _ _ (⟨some 27, .binOp .add _ _ _ _, _, _, _, _⟩ :: _) _; refine LA_addF rfl rfl rfl (by rw [s27]; dsimp only [fits]; omega) ?_; rw [s27])
   |(show LA _ _ _ _ (⟨some 31, .binOp .add _ _ _ _, _, _, _, _⟩ :: _) _; refine LA_addF rfl rfl rfl (by rw [s31]; dsimp only [fits]; omega) ?_; rw [s31])|(refine oM ?_;first|refine LA_moveV rfl rfl ?_|refine LA_moveP rfl rfl ?_|refine LA_moveT rfl rfl ?_|refine LA_moveU rfl rfl ?_)|(refine oA ?_;first|refine LA_assignV rfl rfl ?_|refine LA_assignP rfl rfl ?_|refine LA_assignT rfl rfl ?_)|(refine oP ?_;first|refine LA_pickTV rfl rfl rfl ?_|refine LA_pickFV rfl rfl rfl ?_)|(refine oN ?_;first|refine LA_notT rfl rfl ?_|refine LA_notF rfl rfl ?_|refine LA_not rfl rfl ?_)|(refine oX ?_;first|refine LA_ext0 rfl rfl ?_|refine LA_ext1 rfl rfl ?_|refine LA_ext30 rfl rfl ?_|refine LA_ext31 rfl rfl ?_|refine LA_ext32 rfl rfl ?_)|(refine oB .add ?_;first|refine stAdd rfl rfl rfl ?_|refine LA_addW rfl rfl rfl ?_)|(refine oB .sub ?_;first|refine stSub rfl rfl rfl ?_|refine LA_subW rfl rfl rfl ?_)|(refine oB .mul ?_;first|refine stMul rfl rfl rfl ?_|refine LA_mulW rfl rfl rfl ?_)|(refine oB .quo ?_;refine stQuo rfl rfl rfl ?_)|(refine oB .rem ?_;refine stRem rfl rfl rfl ?_)|(refine oB .shr ?_;refine stShr rfl rfl rfl ?_;try dsimp only [Int.reduceToNat, Int.reducePow])|(refine oB .shl ?_;refine stShl rfl rfl rfl ?_;try dsimp only [Int.reduceToNat, Int.reducePow])|(refine oB _ ?_;first|refine stT rfl rfl rfl rfl ?_|refine stF rfl rfl rfl rfl ?_|(refine LA_cmp rfl rfl rfl rfl (fun hc => ?_) (fun hc => ?_)<;>dsimp only [cmpP] at hc)|refine stBET rfl rfl rfl rfl ?_|refine stBEF rfl rfl rfl rfl ?_|refine LA_boolEq rfl rfl rfl rfl ?_|refine stBNT rfl rfl rfl rfl ?_|refine stBNF rfl rfl rfl rfl ?_|refine LA_boolNe rfl rfl rfl rfl ?_)|(refine oI ?_;first|refine stIN rfl _ rfl (fun _ => rfl) rfl rfl ?_|(refine stII rfl _ rfl (fun _ => rfl) rfl rfl ?_;try dsimp only [Int.reduceToNat]))|(refine oL ?_;refine LA_load rfl (fun _ => rfl) rfl ?_)|(refine oV ?_;first|refine stCnv rfl rfl rfl rfl ?_|refine LA_conv rfl rfl rfl rfl ?_)|(refine oS ?_;first|(refine stSL rfl _ rfl rfl rfl (fun _ => rfl) ?_;try dsimp only [Int.reduceToNat, Int.toNat_natCast])|(refine stSH rfl _ rfl rfl rfl (fun _ => rfl) ?_;try dsimp only [Int.reduceToNat, Int.toNat_natCast])|(refine stSLH rfl _ rfl rfl rfl rfl (fun _ => rfl) ?_;try dsimp only [Int.reduceToNat, Int.toNat_natCast]))|(refine oLen ?_;refine stLen rfl _ rfl rfl ?_)
   |(refine LA_nil (hK [] _ (LX_nil ?_));clear hK K)|(refine LA_nil (hK _ ?_);clear hK K))
   |(refine oCX ?_;first
   |refine CX_seq ?_|refine CX_skip ?_|refine CX_block ?_|refine CX_exit ?_|refine CX_ret ?_|refine CX_condT rfl ?_|refine CX_condF rfl ?_|refine CX_region (by kernel_rfl) (fun K hK => ?_)|refine CX_regionA (by kernel_rfl) (by kernel_rfl) (fun K hK => ?_)|refine CX_label ?_|refine CX_scope ?_)
   |(refine oPX ?_;first
   |refine PX_then ?_|refine PX_thenX ?_|refine PX_thenR ?_|refine PX_blockN ?_|refine PX_blockR ?_|refine PX_blockX ?_|refine PX_blockO (by decide) ?_|refine PX_scopeN ?_|refine PX_scopeR ?_|refine PX_scopeX ?_)
   |(refine oLX ?_;first
   |refine LX_nil ?_))
  all_goals exact PX_retE rfl rfl (Ext.refl _) rfl
end Go.Proofs.YthcpljmibcacaaaDoor
