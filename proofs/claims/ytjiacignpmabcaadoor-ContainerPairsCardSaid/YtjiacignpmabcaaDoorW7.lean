import Derived.Test.YtjiacignpmabcaaDoorW6

set_option linter.unusedSimpArgs false
set_option linter.unusedVariables false
set_option maxRecDepth 3000
namespace Go.Proofs.YtjiacignpmabcaaDoor
open Go.LA Go.ArrP Go.RowKit

theorem bv_nat (a : Nat) : BitVec.ofInt 64 (a : Int) = BitVec.ofNat 64 a := by
  rw [BitVec.ofInt_natCast]
theorem wrap_bv (v : BitVec 64) : IntKind.u64.wrap (v.toNat : Int) = (v.toNat : Int) := by
  have := v.isLt
  rw [IntKind.wrap_u64]; omega
def gXor (x y : Nat) : Nat := (BitVec.ofNat 64 x ^^^ BitVec.ofNat 64 y).toNat
def gNot (x y : Nat) : Nat := (BitVec.ofNat 64 x &&& ~~~BitVec.ofNat 64 y).toNat
theorem xor64 (a b : Nat) : bits .xor .u64 (a : Int) (b : Int) = ((gXor a b : Nat) : Int) := by
  show IntKind.u64.wrap ((BitVec.ofInt 64 (a : Int) ^^^ BitVec.ofInt 64 (b : Int)).toNat : Int) = _
  rw [bv_nat, bv_nat, wrap_bv]; rfl
theorem not64 (a b : Nat) : bits .andNot .u64 (a : Int) (b : Int) = ((gNot a b : Nat) : Int) := by
  show IntKind.u64.wrap ((BitVec.ofInt 64 (a : Int) &&& ~~~BitVec.ofInt 64 (b : Int)).toNat : Int) = _
  rw [bv_nat, bv_nat, wrap_bv]; rfl
theorem gXor_bit (x y i : Nat) (hi : i < 64) : (gXor x y).testBit i = !(x.testBit i == y.testBit i) := by
  unfold gXor
  rw [BitVec.testBit_toNat, BitVec.getLsbD_xor, BitVec.getLsbD_ofNat, BitVec.getLsbD_ofNat]
  simp only [hi, decide_true, Bool.true_and]
  cases x.testBit i <;> cases y.testBit i <;> rfl
theorem gNot_bit (x y i : Nat) (hi : i < 64) : (gNot x y).testBit i = (x.testBit i && !y.testBit i) := by
  unfold gNot
  rw [BitVec.testBit_toNat, BitVec.getLsbD_and, BitVec.getLsbD_not, BitVec.getLsbD_ofNat, BitVec.getLsbD_ofNat]
  simp [hi]
theorem wand1_c (x y : Nat) (w : World) (hx : x < 18446744073709551616) (hy : y < 18446744073709551616) : Fc Tryd.prog 84 #[.int .u64 x, .int .u64 y] w (Ret w (.val (.int .u64 ((x &&& y : Nat) : Int)))) := by
  refine Fc.of (args := [_, _]) Tryd.func84 rfl rfl Tryd.ntmps84 (Nat.le_of_ble_eq_true rfl) ?_
  repeat' (first
   |(refine oLA ?_;first
   |refine LA_pass rfl ?_
   |refine LA_bits (.inl rfl) rfl rfl rfl ?_|(refine wOpB ?_;try dsimp only [Int.reduceToNat, Int.reducePow])|refine wOp ?_|(refine wOpD ?_;try dsimp only [Int.reduceToNat, Int.toNat_natCast])|(refine LA_cmp rfl rfl rfl rfl (fun hc => ?_) (fun hc => ?_)<;>dsimp only [cmpP] at hc)|(refine LA_nil (hK [] _ (LX_nil ?_));clear hK K)|(refine LA_nil (hK _ ?_);clear hK K))
   |(refine oCX ?_;first
   |refine wCX ?_|(refine wCR ?_;intro K hK))
   |(refine oPX ?_;first
   |refine wPX ?_)
   |(refine oLX ?_;first
   |refine LX_nil ?_))
  exact PX_retE rfl rfl (Ext.refl _) (by rw [bits_and_u64_nat x y hx hy])
theorem wor1_c (x y : Nat) (w : World) (hx : x < 18446744073709551616) (hy : y < 18446744073709551616) : Fc Tryd.prog 87 #[.int .u64 x, .int .u64 y] w (Ret w (.val (.int .u64 ((x ||| y : Nat) : Int)))) := by
  refine Fc.of (args := [_, _]) Tryd.func87 rfl rfl Tryd.ntmps87 (Nat.le_of_ble_eq_true rfl) ?_
  repeat' (first
   |(refine oLA ?_;first
   |refine LA_pass rfl ?_
   |refine LA_bits (.inr (.inl rfl)) rfl rfl rfl ?_|(refine wOpB ?_;try dsimp only [Int.reduceToNat, Int.reducePow])|refine wOp ?_|(refine wOpD ?_;try dsimp only [Int.reduceToNat, Int.toNat_natCast])|(refine LA_cmp rfl rfl rfl rfl (fun hc => ?_) (fun hc => ?_)<;>dsimp only [cmpP] at hc)|(refine LA_nil (hK [] _ (LX_nil ?_));clear hK K)|(refine LA_nil (hK _ ?_);clear hK K))
   |(refine oCX ?_;first
   |refine wCX ?_|(refine wCR ?_;intro K hK))
   |(refine oPX ?_;first
   |refine wPX ?_)
   |(refine oLX ?_;first
   |refine LX_nil ?_))
  exact PX_retE rfl rfl (Ext.refl _) (by rw [or64 x y hx hy])
theorem wxor1_c (x y : Nat) (w : World) (hx : x < 18446744073709551616) (hy : y < 18446744073709551616) : Fc Tryd.prog 94 #[.int .u64 x, .int .u64 y] w (Ret w (.val (.int .u64 ((gXor x y : Nat) : Int)))) := by
  refine Fc.of (args := [_, _]) Tryd.func94 rfl rfl Tryd.ntmps94 (Nat.le_of_ble_eq_true rfl) ?_
  repeat' (first
   |(refine oLA ?_;first
   |refine LA_pass rfl ?_
   |refine LA_bits (.inr (.inr (.inl rfl))) rfl rfl rfl ?_|(refine wOpB ?_;try dsimp only [Int.reduceToNat, Int.reducePow])|refine wOp ?_|(refine wOpD ?_;try dsimp only [Int.reduceToNat, Int.toNat_natCast])|(refine LA_cmp rfl rfl rfl rfl (fun hc => ?_) (fun hc => ?_)<;>dsimp only [cmpP] at hc)|(refine LA_nil (hK [] _ (LX_nil ?_));clear hK K)|(refine LA_nil (hK _ ?_);clear hK K))
   |(refine oCX ?_;first
   |refine wCX ?_|(refine wCR ?_;intro K hK))
   |(refine oPX ?_;first
   |refine wPX ?_)
   |(refine oLX ?_;first
   |refine LX_nil ?_))
  exact PX_retE rfl rfl (Ext.refl _) (by rw [xor64])
theorem wnot1_c (x y : Nat) (w : World) (hx : x < 18446744073709551616) (hy : y < 18446744073709551616) : Fc Tryd.prog 91 #[.int .u64 x, .int .u64 y] w (Ret w (.val (.int .u64 ((gNot x y : Nat) : Int)))) := by
  refine Fc.of (args := [_, _]) Tryd.func91 rfl rfl Tryd.ntmps91 (Nat.le_of_ble_eq_true rfl) ?_
  repeat' (first
   |(refine oLA ?_;first
   |refine LA_pass rfl ?_
   |refine LA_bits (.inr (.inr (.inr rfl))) rfl rfl rfl ?_|(refine wOpB ?_;try dsimp only [Int.reduceToNat, Int.reducePow])|refine wOp ?_|(refine wOpD ?_;try dsimp only [Int.reduceToNat, Int.toNat_natCast])|(refine LA_cmp rfl rfl rfl rfl (fun hc => ?_) (fun hc => ?_)<;>dsimp only [cmpP] at hc)|(refine LA_nil (hK [] _ (LX_nil ?_));clear hK K)|(refine LA_nil (hK _ ?_);clear hK K))
   |(refine oCX ?_;first
   |refine wCX ?_|(refine wCR ?_;intro K hK))
   |(refine oPX ?_;first
   |refine wPX ?_)
   |(refine oLX ?_;first
   |refine LX_nil ?_))
  exact PX_retE rfl rfl (Ext.refl _) (by rw [not64])
section
variable (w : World) (va vb : Value) (a b : List Int) (ha : SlI .u64 w va a) (hb : SlI .u64 w vb b) (hla : Lw a) (hlb : Lw b)
include ha hb hla hlb
theorem wand_c : Fc Tryd.prog 50 #[va, vb] w (Ret w (.pred (ownI w.heap.size 66 .u64 (wordsOf (eachP (fun x y => x && y) a b))))) := by
  refine Fc.of (args := [_, _]) Tryd.func50 rfl rfl Tryd.ntmps50 (Nat.le_of_ble_eq_true rfl) ?_
  repeat' (first
   |(refine oLA ?_;first
   |refine LA_pass rfl ?_|(refine wOpB ?_;try dsimp only [Int.reduceToNat, Int.reducePow])|refine wOp ?_|(refine wOpD ?_;try dsimp only [Int.reduceToNat, Int.toNat_natCast])|(refine LA_cmp rfl rfl rfl rfl (fun hc => ?_) (fun hc => ?_)<;>dsimp only [cmpP] at hc)|(refine oCv ?_;first
   |(refine oC 83 ?_; refine LA_call3 (f := 83) rfl rfl rfl rfl rfl  (.pred (ownI w.heap.size 66 .u64 (wordsOf (eachP (fun x y => x && y) a b)))) (by intro u1 u2 u3 w e hu1 hu2 hu3; (try obtain rfl : u1 = _ := hu1); (try obtain rfl : u2 = _ := hu2); (try obtain rfl : u3 = _ := hu3); exact (each_c (fun x y => x && y) (fun x y => x &&& y) _ wand1_c (fun x y hx hy => ⟨Nat.lt_of_le_of_lt Nat.and_le_left hx, fun i _ => Nat.testBit_and x y i⟩) _ _ _ a b (ha.ext e) (hb.ext e) hla hlb).mono (ret_base e.size)) ?_))|(refine LA_nil (hK [] _ (LX_nil ?_));clear hK K)|(refine LA_nil (hK _ ?_);clear hK K))
   |(refine oCX ?_;first
   |refine wCX ?_|(refine wCR ?_;intro K hK))
   |(refine oPX ?_;first
   |refine wPX ?_)
   |(refine oLX ?_;first
   |refine LX_nil ?_))
  exact PX_retP rfl rfl (Ext.refl _) (fun _ _ _ h => h)
theorem wor_c : Fc Tryd.prog 54 #[va, vb] w (Ret w (.pred (ownI w.heap.size 66 .u64 (wordsOf (eachP (fun x y => x || y) a b))))) := by
  refine Fc.of (args := [_, _]) Tryd.func54 rfl rfl Tryd.ntmps54 (Nat.le_of_ble_eq_true rfl) ?_
  repeat' (first
   |(refine oLA ?_;first
   |refine LA_pass rfl ?_|(refine wOpB ?_;try dsimp only [Int.reduceToNat, Int.reducePow])|refine wOp ?_|(refine wOpD ?_;try dsimp only [Int.reduceToNat, Int.toNat_natCast])|(refine LA_cmp rfl rfl rfl rfl (fun hc => ?_) (fun hc => ?_)<;>dsimp only [cmpP] at hc)|(refine oCv ?_;first
   |(refine oC 83 ?_; refine LA_call3 (f := 83) rfl rfl rfl rfl rfl  (.pred (ownI w.heap.size 66 .u64 (wordsOf (eachP (fun x y => x || y) a b)))) (by intro u1 u2 u3 w e hu1 hu2 hu3; (try obtain rfl : u1 = _ := hu1); (try obtain rfl : u2 = _ := hu2); (try obtain rfl : u3 = _ := hu3); exact (each_c (fun x y => x || y) (fun x y => x ||| y) _ wor1_c (fun x y hx hy => ⟨Nat.or_lt_two_pow (n := 64) hx hy, fun i _ => Nat.testBit_or x y i⟩) _ _ _ a b (ha.ext e) (hb.ext e) hla hlb).mono (ret_base e.size)) ?_))|(refine LA_nil (hK [] _ (LX_nil ?_));clear hK K)|(refine LA_nil (hK _ ?_);clear hK K))
   |(refine oCX ?_;first
   |refine wCX ?_|(refine wCR ?_;intro K hK))
   |(refine oPX ?_;first
   |refine wPX ?_)
   |(refine oLX ?_;first
   |refine LX_nil ?_))
  exact PX_retP rfl rfl (Ext.refl _) (fun _ _ _ h => h)
theorem wnot_c : Fc Tryd.prog 60 #[va, vb] w (Ret w (.pred (ownI w.heap.size 66 .u64 (wordsOf (eachP (fun x y => x && !y) a b))))) := by
  refine Fc.of (args := [_, _]) Tryd.func60 rfl rfl Tryd.ntmps60 (Nat.le_of_ble_eq_true rfl) ?_
  repeat' (first
   |(refine oLA ?_;first
   |refine LA_pass rfl ?_|(refine wOpB ?_;try dsimp only [Int.reduceToNat, Int.reducePow])|refine wOp ?_|(refine wOpD ?_;try dsimp only [Int.reduceToNat, Int.toNat_natCast])|(refine LA_cmp rfl rfl rfl rfl (fun hc => ?_) (fun hc => ?_)<;>dsimp only [cmpP] at hc)|(refine oCv ?_;first
   |(refine oC 83 ?_; refine LA_call3 (f := 83) rfl rfl rfl rfl rfl  (.pred (ownI w.heap.size 66 .u64 (wordsOf (eachP (fun x y => x && !y) a b)))) (by intro u1 u2 u3 w e hu1 hu2 hu3; (try obtain rfl : u1 = _ := hu1); (try obtain rfl : u2 = _ := hu2); (try obtain rfl : u3 = _ := hu3); exact (each_c (fun x y => x && !y) gNot _ wnot1_c (fun x y hx hy => ⟨(BitVec.ofNat 64 x &&& ~~~BitVec.ofNat 64 y).isLt, fun i hi => gNot_bit x y i hi⟩) _ _ _ a b (ha.ext e) (hb.ext e) hla hlb).mono (ret_base e.size)) ?_))|(refine LA_nil (hK [] _ (LX_nil ?_));clear hK K)|(refine LA_nil (hK _ ?_);clear hK K))
   |(refine oCX ?_;first
   |refine wCX ?_|(refine wCR ?_;intro K hK))
   |(refine oPX ?_;first
   |refine wPX ?_)
   |(refine oLX ?_;first
   |refine LX_nil ?_))
  exact PX_retP rfl rfl (Ext.refl _) (fun _ _ _ h => h)
theorem wxor_c : Fc Tryd.prog 63 #[va, vb] w (Ret w (.pred (ownI w.heap.size 66 .u64 (wordsOf (eachP (fun x y => !(x == y)) a b))))) := by
  refine Fc.of (args := [_, _]) Tryd.func63 rfl rfl Tryd.ntmps63 (Nat.le_of_ble_eq_true rfl) ?_
  repeat' (first
   |(refine oLA ?_;first
   |refine LA_pass rfl ?_|(refine wOpB ?_;try dsimp only [Int.reduceToNat, Int.reducePow])|refine wOp ?_|(refine wOpD ?_;try dsimp only [Int.reduceToNat, Int.toNat_natCast])|(refine LA_cmp rfl rfl rfl rfl (fun hc => ?_) (fun hc => ?_)<;>dsimp only [cmpP] at hc)|(refine oCv ?_;first
   |(refine oC 83 ?_; refine LA_call3 (f := 83) rfl rfl rfl rfl rfl  (.pred (ownI w.heap.size 66 .u64 (wordsOf (eachP (fun x y => !(x == y)) a b)))) (by intro u1 u2 u3 w e hu1 hu2 hu3; (try obtain rfl : u1 = _ := hu1); (try obtain rfl : u2 = _ := hu2); (try obtain rfl : u3 = _ := hu3); exact (each_c (fun x y => !(x == y)) gXor _ wxor1_c (fun x y hx hy => ⟨(BitVec.ofNat 64 x ^^^ BitVec.ofNat 64 y).isLt, fun i hi => gXor_bit x y i hi⟩) _ _ _ a b (ha.ext e) (hb.ext e) hla hlb).mono (ret_base e.size)) ?_))|(refine LA_nil (hK [] _ (LX_nil ?_));clear hK K)|(refine LA_nil (hK _ ?_);clear hK K))
   |(refine oCX ?_;first
   |refine wCX ?_|(refine wCR ?_;intro K hK))
   |(refine oPX ?_;first
   |refine wPX ?_)
   |(refine oLX ?_;first
   |refine LX_nil ?_))
  exact PX_retP rfl rfl (Ext.refl _) (fun _ _ _ h => h)
end
end Go.Proofs.YtjiacignpmabcaaDoor
