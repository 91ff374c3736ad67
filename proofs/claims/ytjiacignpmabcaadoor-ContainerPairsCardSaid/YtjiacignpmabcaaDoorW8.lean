import Derived.Test.YtjiacignpmabcaaDoorW7

set_option linter.unusedSimpArgs false
set_option linter.unusedVariables false
set_option maxRecDepth 3000
namespace Go.Proofs.YtjiacignpmabcaaDoor
open Go.LA Go.ArrP Go.RowKit

def lastN (ws : List Int) : Nat → Nat
  | 0 => 0
  | k + 1 => wd ws k / 9223372036854775808
theorem last_bit (ws : List Int) (hl : Lw ws) (k i : Nat) : (lastN ws k).testBit i = (decide (i = 0) && (decide (0 < k) && wbit ws (64 * k - 1))) := by
  cases k with
  | zero => simp [lastN]
  | succ k =>
    have h2 := (hl.at k).2
    have e : wbit ws (64 * (k + 1) - 1) = (wd ws k).testBit 63 := by
      unfold wbit; rw [show (64 * (k + 1) - 1) / 64 = k by omega, show (64 * (k + 1) - 1) % 64 = 63 by omega]
    rw [e, lastN, show wd ws k / 9223372036854775808 = (wd ws k) >>> 63 by rw [Nat.shiftRight_eq_div_pow], Nat.testBit_shiftRight]
    by_cases h : i = 0
    · subst h; simp
    · rw [decide_eq_false h, Nat.testBit_lt_two_pow (Nat.lt_of_lt_of_le h2 (Nat.pow_le_pow_right (n := 2) (by decide) (by omega : 64 ≤ 63 + i)))]; simp
theorem starts_word (ws : List Int) (hl : Lw ws) (k : Nat) : cnt (startsS (wbit ws)) (64 * (k + 1)) = cnt (startsS (wbit ws)) (64 * k) + pop64 (gNot (wd ws k) ((wd ws k * 2 % 18446744073709551616) ||| lastN ws k)) := by
  rw [show 64 * (k + 1) = 64 * k + 64 by omega, cnt_shift]
  congr 1
  unfold pop64
  refine cnt_congr 64 fun i hi => ?_
  rw [gNot_bit _ _ _ hi, Nat.testBit_or, last_bit ws hl]
  have hs : (wd ws k * 2 % 18446744073709551616).testBit i = (decide (1 ≤ i) && (wd ws k).testBit (i - 1)) := by
    rw [show (18446744073709551616 : Nat) = 2 ^ 64 by rfl, Nat.testBit_mod_two_pow, decide_eq_true hi, Bool.true_and, Nat.mul_comm, show 2 * wd ws k = 2 ^ 1 * wd ws k by rfl, Nat.testBit_two_pow_mul]
  rw [hs]
  have hb : ∀ j, j < 64 → wbit ws (64 * k + j) = (wd ws k).testBit j := fun j hj => by
    unfold wbit; rw [show (64 * k + j) / 64 = k by omega, show (64 * k + j) % 64 = j by omega]
  simp only [startsS]
  rw [hb i hi]
  congr 1
  by_cases h0 : i = 0
  · subst h0
    rw [decide_eq_false (show ¬ 1 ≤ 0 by omega), Nat.add_zero]
    by_cases hk : k = 0
    · subst hk; simp
    · rw [decide_eq_true (by omega : 0 < k), show (64 * k == 0) = false by simp; omega]; simp
  · rw [decide_eq_true (by omega : 1 ≤ i), decide_eq_false h0, show (64 * k + i == 0) = false by simp; omega, show 64 * k + i - 1 = 64 * k + (i - 1) by omega, hb (i - 1) (by omega)]; simp
theorem wruns_c (w : World) (v : Value) (ws : List Int) (h : SlI .u64 w v ws) (hl : Lw ws) (hn : ws.length ≤ 17592186044416) : Fc Tryd.prog 70 #[v] w (Ret w (.val (.int .i64 (cnt (startsS (wbit ws)) (64 * ws.length))))) := by
  refine Fc.of (args := [_]) Tryd.func70 rfl rfl Tryd.ntmps70 (Nat.le_of_ble_eq_true rfl) ?_
  repeat' (first
   |(refine oLA ?_;first
   |refine LA_pass rfl ?_|(refine wOpB ?_;try dsimp only [Int.reduceToNat, Int.reducePow])|refine wOp ?_|(refine wOpD ?_;try dsimp only [Int.reduceToNat, Int.toNat_natCast])|(refine LA_cmp rfl rfl rfl rfl (fun hc => ?_) (fun hc => ?_)<;>dsimp only [cmpP] at hc)|(refine LA_nil (hK [] _ (LX_nil ?_));clear hK K)|(refine LA_nil (hK _ ?_);clear hK K))
   |(refine oCX ?_;first
   |refine wCX ?_|(refine wCR ?_;intro K hK))
   |(refine oPX ?_;first
   |refine wPX ?_)
   |(refine oLX ?_;first
   |refine LX_nil ?_))
  refine CX_loop (ι := Nat) (fun k => [(3, .val (.int .i64 (cnt (startsS (wbit ws)) (64 * k)))), (4, .val (.int .u64 (lastN ws k))), (7, .val v), (8, .val (.int .i64 ws.length)), (9, .val (.int .i64 k))]) (fun k => k ≤ ws.length) (fun k => ws.length - k) 0 (by omega) (by repeat' (first | exact Sub.nil | refine Sub.val rfl (by first | with_reducible rfl | (congr 1; omega)) ?_ | refine Sub.same rfl ?_)) ?_
  intro k hk
  have hs := starts_word ws hl k
  have hc := cnt_le (startsS (wbit ws)) (64 * k)
  obtain ⟨e1, e2⟩ := hl.at k
  have hla : lastN ws k < 18446744073709551616 := by
    cases k with
    | zero => simp [lastN]
    | succ j => simp only [lastN]; have := (hl.at j).2; omega
  have hla2 : lastN ws (k + 1) = wd ws k / 9223372036854775808 := rfl
  have hsh : IntKind.u64.wrap (ws.getD k 0 * 2 ^ (1 : Int).toNat) = ((wd ws k * 2 % 18446744073709551616 : Nat) : Int) := by
    rw [e1, IntKind.wrap_u64, show (1 : Int).toNat = 1 by rfl, Int.pow_one]; omega
  have hor := or64 (wd ws k * 2 % 18446744073709551616) (lastN ws k) (by omega) hla
  have han := not64 (wd ws k) (wd ws k * 2 % 18446744073709551616 ||| lastN ws k)
  obtain ⟨G, hG⟩ : ∃ G, G = gNot (wd ws k) (wd ws k * 2 % 18446744073709551616 ||| lastN ws k) := ⟨_, rfl⟩
  have hGl : G < 18446744073709551616 := hG ▸ (BitVec.ofNat 64 (wd ws k) &&& ~~~BitVec.ofNat 64 (wd ws k * 2 % 18446744073709551616 ||| lastN ws k)).isLt
  rw [← hG] at hs han
  rw [← e1] at han
  have hp := pop_le G
  by_cases hkl : k < ws.length
  · skip
    repeat' (first
     |(refine oLA ?_;first
     |refine LA_pass rfl ?_
     |(show LA _ _ _ _ (⟨_, .binOp .shl _ _ _ _, _, _, _, _⟩ :: _) _; refine LA_shl rfl rfl rfl (by omega) (by dsimp only [IntKind.bits]; omega) ?_; rw [hsh])
     |(show LA _ _ _ _ (⟨_, .binOp .or _ _ _ _, _, _, _, _⟩ :: _) _; refine LA_bits (.inr (.inl rfl)) rfl rfl rfl ?_; rw [hor])
     |(show LA _ _ _ _ (⟨_, .binOp .andNot _ _ _ _, _, _, _, _⟩ :: _) _; refine LA_bits (.inr (.inr (.inr rfl))) rfl rfl rfl ?_; rw [han])
     |(refine oC 99 ?_; refine LA_call1 (f := 99) rfl rfl rfl  (.val (.int .i64 (pop64 G))) (by intro u1 w e hu1; (try obtain rfl : u1 = _ := hu1); exact ones_at rfl hGl) ?_)|(refine wOpB ?_;try dsimp only [Int.reduceToNat, Int.reducePow])|refine wOp ?_|(refine wOpD ?_;try dsimp only [Int.reduceToNat, Int.toNat_natCast])|(refine LA_cmp rfl rfl rfl rfl (fun hc => ?_) (fun hc => ?_)<;>dsimp only [cmpP] at hc)|(refine LA_nil (hK [] _ (LX_nil ?_));clear hK K)|(refine LA_nil (hK _ ?_);clear hK K))
     |(refine oCX ?_;first
     |refine wCX ?_|(refine wCR ?_;intro K hK))
     |(refine oPX ?_;first
     |refine wPX ?_)
     |(refine oLX ?_;first
     |refine LX_nil ?_))
    refine PX_rnd (k + 1) ?_ ?_ (by repeat' (first | exact Sub.nil | refine Sub.val rfl (by first | with_reducible rfl | (congr 1; omega)) ?_ | refine Sub.same rfl ?_))
    · omega
    · omega
  · obtain rfl : k = ws.length := by omega
    repeat' (first
     |(refine oLA ?_;first
     |refine LA_pass rfl ?_|(refine wOpB ?_;try dsimp only [Int.reduceToNat, Int.reducePow])|refine wOp ?_|(refine wOpD ?_;try dsimp only [Int.reduceToNat, Int.toNat_natCast])|(refine LA_cmp rfl rfl rfl rfl (fun hc => ?_) (fun hc => ?_)<;>dsimp only [cmpP] at hc)|(refine LA_nil (hK [] _ (LX_nil ?_));clear hK K)|(refine LA_nil (hK _ ?_);clear hK K))
     |(refine oCX ?_;first
     |refine wCX ?_|(refine wCR ?_;intro K hK))
     |(refine oPX ?_;first
     |refine wPX ?_)
     |(refine oLX ?_;first
     |refine LX_nil ?_))
    exact PX_retE rfl rfl (Ext.refl _) rfl
end Go.Proofs.YtjiacignpmabcaaDoor
