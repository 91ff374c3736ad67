import Derived.Test.YtjiacignpmabcaaDoorW1
set_option linter.unusedSimpArgs false
set_option linter.unusedVariables false
set_option maxRecDepth 3000
namespace Go.Proofs.YtjiacignpmabcaaDoor
open Go.LA Go.ArrP Go.RowKit

/-- The table of math/bits lies in its variable. -/
def Tab (w : World) : Prop := ∀ j, j < 64 → w.cell? ⟨0, j, none⟩ = some (.int .u8 (Lib.deBruijn64tab.getD j 0))
theorem Tab.ext {w w' : World} (h : Tab w) (e : Ext w w') : Tab w' := fun j hj => e.cell (h j hj)
theorem tz_e3 (p : Nat) : IntKind.u64.wrap ((p : Int) * 285870213051353865) / 288230376151711744 = ((p * 285870213051353865 % 18446744073709551616 / 288230376151711744 : Nat) : Int) := by
  rw [IntKind.wrap_u64]; omega
theorem tz_c (w : World) (n : Nat) (hn : n < 18446744073709551616) (hT : Tab w) : Fc Tryd.prog 72 #[.int .u64 n] w (Ret w (.val (.int .i64 (Lib.ctz 64 n)))) := by
  by_cases h0 : n = 0
  · subst h0
    refine Fc.of (args := [_]) Tryd.func72 rfl rfl Tryd.ntmps72 (Nat.le_of_ble_eq_true rfl) ?_
    repeat' (first
     |(refine oLA ?_;first
     |refine LA_pass rfl ?_|(refine wOpB ?_;try dsimp only [Int.reduceToNat, Int.reducePow])|refine wOp ?_|(refine wOpD ?_;try dsimp only [Int.reduceToNat, Int.toNat_natCast])|(refine LA_cmp rfl rfl rfl rfl (fun hc => ?_) (fun hc => ?_)<;>dsimp only [cmpP] at hc)|(refine LA_nil (hK [] _ (LX_nil ?_));clear hK K)|(refine LA_nil (hK _ ?_);clear hK K))
     |(refine oCX ?_;first
     |refine wCX ?_|(refine wCR ?_;intro K hK))
     |(refine oPX ?_;first
     |refine wPX ?_)
     |(refine oLX ?_;first
     |refine LX_nil ?_))
    exact PX_retE rfl rfl (Ext.refl _) rfl
  · obtain ⟨hlow, hk⟩ := Lib.lowest_bit 64 n h0 hn
    obtain ⟨hi, htab⟩ := Lib.deBruijn64_at _ hk
    have hcell := hT _ hi
    rw [htab] at hcell
    obtain ⟨p, hp⟩ : ∃ p, p = 2 ^ Lib.ctz 64 n := ⟨_, rfl⟩
    rw [← hp] at hlow hi htab hcell
    have e1 : IntKind.u64.wrap (-(n : Int)) = ((18446744073709551616 - n : Nat) : Int) := by rw [IntKind.wrap_u64]; omega
    have e2 : bits .and .u64 (n : Int) (IntKind.u64.wrap (-(n : Int))) = (p : Int) := by rw [e1, bits_and_u64_nat n _ hn (by omega)]; exact congrArg _ hlow
    have e3 : IntKind.u64.wrap ((p : Int) * 285870213051353865) / 288230376151711744 = ((p * 285870213051353865 % 18446744073709551616 / 288230376151711744 : Nat) : Int) := by
      exact tz_e3 p
    obtain ⟨q, hq⟩ : ∃ q, q = p * 285870213051353865 % 18446744073709551616 / 288230376151711744 := ⟨_, rfl⟩
    rw [← hq] at hcell e3 hi
    refine Fc.of (args := [_]) Tryd.func72 rfl rfl Tryd.ntmps72 (Nat.le_of_ble_eq_true rfl) ?_
    repeat' (first
     |(refine oLA ?_;first
     |refine LA_pass rfl ?_
     |refine LA_neg rfl rfl ?_
     |(show LA _ _ _ _ (⟨some 8, .binOp .and _ _ _ _, _, _, _, _⟩ :: _) _; refine LA_bits (.inl rfl) rfl rfl rfl ?_; rw [e2])
     |(show LA _ _ _ _ (⟨some 9, .binOp .mul _ _ _ _, _, _, _, _⟩ :: _) _; refine LA_mulW rfl rfl rfl ?_)
     |(show LA _ _ _ _ (⟨some 10, .binOp .shr _ _ _ _, _, _, _, _⟩ :: _) _; refine LA_shr rfl rfl rfl (by omega) (by dsimp only [IntKind.bits]; omega) ?_; dsimp only [Int.reduceToNat, Int.reducePow]; rw [e3])
     |refine LA_indexArr (n := 64) (s := 1) rfl rfl (fun _ => rfl) rfl rfl q rfl hi ?_
     |refine LA_loadV rfl (fun _ => rfl) rfl (by rw [show 0 + q * 1 = q by omega]; exact hcell) ?_|(refine wOpB ?_;try dsimp only [Int.reduceToNat, Int.reducePow])|refine wOp ?_|(refine wOpD ?_;try dsimp only [Int.reduceToNat, Int.toNat_natCast])|(refine LA_cmp rfl rfl rfl rfl (fun hc => ?_) (fun hc => ?_)<;>dsimp only [cmpP] at hc)|(refine LA_nil (hK [] _ (LX_nil ?_));clear hK K)|(refine LA_nil (hK _ ?_);clear hK K))
     |(refine oCX ?_;first
     |refine wCX ?_|(refine wCR ?_;intro K hK))
     |(refine oPX ?_;first
     |refine wPX ?_)
     |(refine oLX ?_;first
     |refine LX_nil ?_))
    all_goals exact PX_retE rfl rfl (Ext.refl _) rfl
end Go.Proofs.YtjiacignpmabcaaDoor
