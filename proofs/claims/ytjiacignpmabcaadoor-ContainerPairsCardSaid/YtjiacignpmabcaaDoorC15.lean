import Derived.Test.YtjiacignpmabcaaDoorC14

set_option linter.unusedSimpArgs false
set_option linter.unusedVariables false
set_option maxRecDepth 3000
namespace Go.Proofs.YtjiacignpmabcaaDoor
open Go.LA Go.ArrP Go.RowKit
set_option maxHeartbeats 2000000 in
theorem rkind_c {w : World} {v : Value} {base : Nat} {p : Nat → Bool} (h : MkI base tM w v p) : Fc Tryd.prog 28 #[v] w (Ret w (.val (.int .u8 (kindP p)))) := by
  obtain ⟨n, r, kq, en, er, eq, h1, h2, hK⟩ := kind_cases p
  have hl : ∀ w', Ext w w' → _ := fun w' e => mlist_c w' v base p (h.ext e)
  have hm : ∀ w', Ext w w' → _ := fun w' e => mruns_c w' v base p (h.ext e)
  have hln : (listS p 65536).length = n := by rw [listS_len]; exact en
  rw [er] at hm; rw [eq]
  obtain ⟨xs, hxs⟩ : ∃ xs, xs = listS p 65536 := ⟨_, rfl⟩
  rw [← hxs] at hl hln
  clear en er eq hxs
  rcases hK with ⟨a1, a2, rfl⟩ | ⟨a1, a2, rfl⟩ | ⟨a1, a2, rfl⟩ | ⟨a1, a2, rfl⟩
  all_goals
    refine Fc.of (args := [_]) Tryd.func28 rfl rfl Tryd.ntmps28 (Nat.le_of_ble_eq_true rfl) ?_
    repeat' (first
     |(refine oLA ?_;first
     |refine LA_pass rfl ?_
     |(refine oLen ?_; refine LA_len rfl _ rfl rfl HasI.own.c ?_; rw [hln])|(refine wOpB ?_;try dsimp only [Int.reduceToNat, Int.reducePow])|refine wOp ?_|(refine wOpD ?_;try dsimp only [Int.reduceToNat, Int.toNat_natCast])|(refine LA_cmp rfl rfl rfl rfl (fun hc => ?_) (fun hc => ?_)<;>dsimp only [cmpP] at hc)|(refine oCv ?_;first
     |(refine oC 11 ?_; refine LA_call1 (f := 11) rfl rfl rfl  (.pred (ownI _ 29 .u16 xs)) (by intro u1 w e hu1; (try obtain rfl : u1 = _ := hu1); exact (hl _ e).mono (ret_base e.size)) ?_)
     |(refine oC 65 ?_; refine LA_call1 (f := 65) rfl rfl rfl  (.val (.int .i64 r)) (by intro u1 w e hu1; (try obtain rfl : u1 = _ := hu1); exact hm _ e) ?_))|(refine LA_nil (hK [] _ (LX_nil ?_));clear hK K)|(refine LA_nil (hK _ ?_);clear hK K))
     |(refine oCX ?_;first
     |refine wCX ?_|(refine wCR ?_;intro K hK))
     |(refine oPX ?_;first
     |refine wPX ?_
     |exact PX_retE rfl rfl (Ext.refl _) rfl)
     |(refine oLX ?_;first
     |refine LX_nil ?_))
    all_goals skip
end Go.Proofs.YtjiacignpmabcaaDoor
