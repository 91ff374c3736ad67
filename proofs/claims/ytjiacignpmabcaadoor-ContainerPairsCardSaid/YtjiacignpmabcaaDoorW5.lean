import Derived.Test.YtjiacignpmabcaaDoorW4
set_option linter.unusedSimpArgs false
set_option linter.unusedVariables false
set_option maxRecDepth 3000
namespace Go.Proofs.YtjiacignpmabcaaDoor
open Go.LA Go.ArrP Go.RowKit

theorem whas_c (w : World) (v : Value) (ws : List Int) (x : Nat) (h : SlI .u64 w v ws) (hl : Lw ws) (hx : x < 65536) : Fc Tryd.prog 97 #[v, .int .u16 x] w (Ret w (.val (.bool (wbit ws x)))) := by
  have hlen := h.len
  refine Fc.of (args := [_, _]) Tryd.func97 rfl rfl Tryd.ntmps97 (Nat.le_of_ble_eq_true rfl) ?_
  obtain ⟨e1, e2⟩ := hl.at (x / 64)
  by_cases hc : x / 64 < ws.length
  · have eq1 : ((x : Int) / 64).toNat = x / 64 := by omega
    obtain ⟨y, hy⟩ : ∃ y, y = wd ws (x / 64) / 2 ^ (x % 64) := ⟨_, rfl⟩
    have hyl : y ≤ wd ws (x / 64) := by rw [hy]; exact Nat.div_le_self _ _
    have hsh : ws.getD (x / 64) 0 / 2 ^ ((x : Int) % 64).toNat = (y : Int) := by
      rw [e1, hy, show ((x : Int) % 64).toNat = x % 64 by omega, Int.natCast_ediv]; simp
    have han : bits .and .u64 (y : Int) 1 = ((y % 2 : Nat) : Int) := by
      rw [show (1 : Int) = ((1 : Nat) : Int) by rfl, bits_and_u64_nat y 1 (by omega) (by decide)]
      exact congrArg _ (Nat.and_one_is_mod y)
    have hb : wbit ws x = decide (y % 2 = 1) := by rw [hy]; unfold wbit; exact Nat.testBit_eq_decide_div_mod_eq
    cases hv : wbit ws x
    all_goals rw [hv] at hb
    all_goals have hb' := hb.symm
    all_goals simp only [decide_eq_true_eq, decide_eq_false_iff_not] at hb'
    all_goals
      repeat' (first
       |(refine oLA ?_;first
       |refine LA_pass rfl ?_
       |(refine LA_index rfl _ rfl (fun _ => rfl) rfl (HasI.val h) rfl (by omega) (by omega) ?_; rw [eq1])
       |(show LA _ _ _ _ (⟨_, .binOp .shr _ _ _ _, _, _, _, _⟩ :: _) _; refine LA_shr rfl rfl rfl (by omega) (by dsimp only [IntKind.bits]; omega) ?_; rw [hsh])
       |(refine LA_bits (.inl rfl) rfl rfl rfl ?_; rw [han])|(refine wOpB ?_;try dsimp only [Int.reduceToNat, Int.reducePow])|refine wOp ?_|(refine wOpD ?_;try dsimp only [Int.reduceToNat, Int.toNat_natCast])|(refine LA_cmp rfl rfl rfl rfl (fun hc => ?_) (fun hc => ?_)<;>dsimp only [cmpP] at hc)|(refine LA_nil (hK [] _ (LX_nil ?_));clear hK K)|(refine LA_nil (hK _ ?_);clear hK K))
       |(refine oCX ?_;first
       |refine wCX ?_|(refine wCR ?_;intro K hK))
       |(refine oPX ?_;first
       |refine wPX ?_)
       |(refine oLX ?_;first
       |refine LX_nil ?_))
    all_goals exact PX_retE rfl rfl (Ext.refl _) rfl
  · have hv : wbit ws x = false := wbit_none (by omega)
    rw [hv]
    repeat' (first
     |(refine oLA ?_;first
     |refine LA_pass rfl ?_|(refine wOpB ?_;try dsimp only [Int.reduceToNat, Int.reducePow])|refine wOp ?_|(refine wOpD ?_;try dsimp only [Int.reduceToNat, Int.toNat_natCast])|(refine LA_cmp rfl rfl rfl rfl (fun hc => ?_) (fun hc => ?_)<;>dsimp only [cmpP] at hc)|(refine LA_nil (hK [] _ (LX_nil ?_));clear hK K)|(refine LA_nil (hK _ ?_);clear hK K))
     |(refine oCX ?_;first
     |refine wCX ?_|(refine wCR ?_;intro K hK))
     |(refine oPX ?_;first
     |refine wPX ?_)
     |(refine oLX ?_;first
     |refine LX_nil ?_))
    exact PX_retE rfl rfl (Ext.refl _) rfl
end Go.Proofs.YtjiacignpmabcaaDoor
