import Derived.Test.YtjiacignpmabcaaDoorProg
import Derived.Test.YtjiacignpmabcaaDoorPop
import Derived.Laws.Bits64b

set_option linter.unusedSimpArgs false
set_option linter.unusedVariables false
set_option maxRecDepth 3000
namespace Go.Proofs.YtjiacignpmabcaaDoor
open Go.LA Go.ArrP Go.RowKit

theorem and_i64 (a : Nat) (ha : a < 9223372036854775808) : bits .and .i64 (a : Int) 127 = ((a % 128 : Nat) : Int) := by
  have h1 : (BitVec.ofInt 64 (a : Int)).toNat = a := by
    rw [BitVec.ofInt_natCast, BitVec.toNat_ofNat]; exact Nat.mod_eq_of_lt (by omega)
  have h2 : (BitVec.ofInt 64 (127 : Int)).toNat = 127 := by decide
  have h3 : a &&& 127 = a % 128 := Nat.and_two_pow_sub_one_eq_mod a 7
  show IntKind.i64.wrap ((BitVec.ofInt 64 (a : Int) &&& BitVec.ofInt 64 (127 : Int)).toNat : Int) = _
  rw [BitVec.toNat_and, h1, h2, h3, IntKind.wrap_i64]
  omega
theorem and64 (a b : Nat) (ha : a < 18446744073709551616) (hb : b < 18446744073709551616) {x y : Int} (hx : x = (a : Int)) (hy : y = (b : Int)) : bits .and .u64 x y = ((a &&& b : Nat) : Int) := by
  subst hx hy; exact bits_and_u64_nat a b ha hb
theorem ones_c (w : World) (n : Nat) (hn : n < 18446744073709551616) : Fc Tryd.prog 99 #[.int .u64 n] w (Ret w (.val (.int .i64 (pop64 n)))) := by
  obtain ⟨n2, hn2⟩ : ∃ n2, n2 = y1 6148914691236517205 n := ⟨_, rfl⟩
  obtain ⟨n3, hn3⟩ : ∃ n3, n3 = y2 3689348814741910323 n2 := ⟨_, rfl⟩
  obtain ⟨z, hz⟩ : ∃ z, z = y3 1085102592571150095 n3 := ⟨_, rfl⟩
  have ho := ones_plain n hn (z := z) (by rw [hz, hn3, hn2])
  obtain ⟨o1, o2, o3, o4, o5⟩ := ho
  have l1 : n / 2 &&& 6148914691236517205 ≤ 6148914691236517205 := Nat.and_le_right
  have l2 : n &&& 6148914691236517205 ≤ 6148914691236517205 := Nat.and_le_right
  have l3 : n2 / 4 &&& 3689348814741910323 ≤ 3689348814741910323 := Nat.and_le_right
  have l4 : n2 &&& 3689348814741910323 ≤ 3689348814741910323 := Nat.and_le_right
  have d2 : n2 = (n / 2 &&& 6148914691236517205) + (n &&& 6148914691236517205) := hn2
  have d3 : n3 = (n2 / 4 &&& 3689348814741910323) + (n2 &&& 3689348814741910323) := hn3
  have d4 : z = (n3 / 16 + n3) &&& 1085102592571150095 := hz
  have e5 : bits .and .u64 ((n : Int) / 2) 6148914691236517205 = ((n / 2 &&& 6148914691236517205 : Nat) : Int) := and64 _ _ (by omega) (by omega) (by omega) rfl
  have e7 : bits .and .u64 (n : Int) 6148914691236517205 = ((n &&& 6148914691236517205 : Nat) : Int) := and64 _ _ (by omega) (by omega) rfl rfl
  have e11 : bits .and .u64 ((n2 : Int) / 4) 3689348814741910323 = ((n2 / 4 &&& 3689348814741910323 : Nat) : Int) := and64 _ _ (by omega) (by omega) (by omega) rfl
  have e13 : bits .and .u64 (n2 : Int) 3689348814741910323 = ((n2 &&& 3689348814741910323 : Nat) : Int) := and64 _ _ (by omega) (by omega) rfl rfl
  have e19 : bits .and .u64 ((n3 : Int) / 16 + (n3 : Int)) 1085102592571150095 = (z : Int) := by rw [d4]; exact and64 _ _ (by omega) (by omega) (by omega) rfl
  have s8 : ((n / 2 &&& 6148914691236517205 : Nat) : Int) + ((n &&& 6148914691236517205 : Nat) : Int) = (n2 : Int) := by omega
  have s14 : ((n2 / 4 &&& 3689348814741910323 : Nat) : Int) + ((n2 &&& 3689348814741910323 : Nat) : Int) = (n3 : Int) := by omega
  obtain ⟨u, hu⟩ : ∃ u, u = z + z / 256 := ⟨_, rfl⟩
  rw [← hu] at o2 o3 o4 o5
  obtain ⟨t, ht⟩ : ∃ t, t = u + u / 65536 := ⟨_, rfl⟩
  rw [← ht] at o3 o4 o5
  obtain ⟨r, hr⟩ : ∃ r, r = t + t / 4294967296 := ⟨_, rfl⟩
  rw [← hr] at o4 o5
  have s23 : (z : Int) + (z : Int) / 256 = (u : Int) := by omega
  have s27 : (u : Int) + (u : Int) / 65536 = (t : Int) := by omega
  have s31 : (t : Int) + (t : Int) / 4294967296 = (r : Int) := by omega
  have e34 := and_i64 r o4
  rw [o5] at e34
  refine Fc.of (args := [_]) Tryd.func99 rfl rfl Tryd.ntmps99 (Nat.le_of_ble_eq_true rfl) ?_
  repeat' (first
   |(refine oLA ?_;first
   |refine LA_pass rfl ?_
   |(show LA _ _ _ _ (⟨some 5, .binOp .and _ _ _ _, _, _, _, _⟩ :: _) _; refine LA_bits (.inl rfl) rfl rfl rfl ?_; rw [e5])
   |(show LA _ _ _ _ (⟨some 7, .binOp .and _ _ _ _, _, _, _, _⟩ :: _) _; refine LA_bits (.inl rfl) rfl rfl rfl ?_; rw [e7])
   |(show LA _ _ _ _ (⟨some 11, .binOp .and _ _ _ _, _, _, _, _⟩ :: _) _; refine LA_bits (.inl rfl) rfl rfl rfl ?_; rw [e11])
   |(show LA _ _ _ _ (⟨some 13, .binOp .and _ _ _ _, _, _, _, _⟩ :: _) _; refine LA_bits (.inl rfl) rfl rfl rfl ?_; rw [e13])
   |(show LA _ _ _ _ (⟨some 19, .binOp .and _ _ _ _, _, _, _, _⟩ :: _) _; refine LA_bits (.inl rfl) rfl rfl rfl ?_; rw [e19])
   |(show LA _ _ _ _ (⟨some 34, .binOp .and _ _ _ _, _, _, _, _⟩ :: _) _; refine LA_bits (.inl rfl) rfl rfl rfl ?_; rw [e34])
   |(show LA _ _ _ _ (⟨some 8, .binOp .add _ _ _ _, _, _, _, _⟩ :: _) _; refine LA_addF rfl rfl rfl (by rw [s8]; dsimp only [fits]; omega) ?_; rw [s8])
   |(show LA _ _ _ _ (⟨some 14, .binOp .add _ _ _ _, _, _, _, _⟩ :: _) _; refine LA_addF rfl rfl rfl (by rw [s14]; dsimp only [fits]; omega) ?_; rw [s14])
   |(show LA _ _ _ _ (⟨some 23, .binOp .add _ _ _ _, _, _, _, _⟩ :: _) _; refine LA_addF rfl rfl rfl (by rw [s23]; dsimp only [fits]; omega) ?_; rw [s23])
   |(show LA _ _ _ _ (⟨some 27, .binOp .add _ _ _ _, _, _, _, _⟩ :: _) _; refine LA_addF rfl rfl rfl (by rw [s27]; dsimp only [fits]; omega) ?_; rw [s27])
   |(show LA _ _ _ _ (⟨some 31, .binOp .add _ _ _ _, _, _, _, _⟩ :: _) _; refine LA_addF rfl rfl rfl (by rw [s31]; dsimp only [fits]; omega) ?_; rw [s31])|(refine wOpB ?_;try dsimp only [Int.reduceToNat, Int.reducePow])|refine wOp ?_|(refine wOpD ?_;try dsimp only [Int.reduceToNat, Int.toNat_natCast])|(refine LA_cmp rfl rfl rfl rfl (fun hc => ?_) (fun hc => ?_)<;>dsimp only [cmpP] at hc)|(refine LA_nil (hK [] _ (LX_nil ?_));clear hK K)|(refine LA_nil (hK _ ?_);clear hK K))
   |(refine oCX ?_;first
   |refine wCX ?_|(refine wCR ?_;intro K hK))
   |(refine oPX ?_;first
   |refine wPX ?_)
   |(refine oLX ?_;first
   |refine LX_nil ?_))
  all_goals exact PX_retE rfl rfl (Ext.refl _) rfl
end Go.Proofs.YtjiacignpmabcaaDoor
