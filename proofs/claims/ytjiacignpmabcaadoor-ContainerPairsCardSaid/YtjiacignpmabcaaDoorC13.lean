import Derived.Test.YtjiacignpmabcaaDoorC12

set_option linter.unusedSimpArgs false
set_option linter.unusedVariables false
set_option maxRecDepth 3000
namespace Go.Proofs.YtjiacignpmabcaaDoor
open Go.LA Go.ArrP Go.RowKit
variable {A : Nat → Prop}
theorem tells_has {w : World} {vo : Value} {q : Nat → Bool} {ko : Int} (ho : Cn A w vo q ko) : Tells w (.func (.func 34) #[vo] #[]) q := fun w' e x hx => Clb.bound1 (has_c (ho.ext e) hx)
set_option maxHeartbeats 2000000 in
theorem cand_c {w : World} {vc vo : Value} {p q : Nat → Bool} {kc ko : Int} (hc : Cn A w vc p kc) (ho : Cn A w vo q ko) (hT : Tab w) (hA : Fsh A w) :
    Fc Tryd.prog 22 #[vc, vo] w (Ret w (.pred (cnP A (two (fun x y => x && y) p q) (kindP (two (fun x y => x && y) p q))))) := by
  have hr : two (fun x y => x && y) p q 65536 = false := by unfold two; rw [hc.1, ho.1]; rfl
  have hdo : ∀ w', Ext w w' → _ := fun w' e => do_c (hc.ext e) (ho.ext e) (does_And hc.1 ho.1) hr (hT.ext e) (hA.ext e)
  have hk1 : ∀ w', Ext w w' → _ := fun w' e => kind_c (hc.ext e)
  have hk2 : ∀ w', Ext w w' → _ := fun w' e => kind_c (ho.ext e)
  have ht1 := tells_has hc
  have ht2 := tells_has ho
  have e1 : (fun i => p i && q i) = two (fun x y => x && y) p q := rfl
  have e2 : (fun i => q i && p i) = two (fun x y => x && y) p q := funext fun i => Bool.and_comm _ _
  obtain ⟨r, hrr⟩ : ∃ r, r = two (fun x y => x && y) p q := ⟨_, rfl⟩
  rw [← hrr] at hr hdo e1 e2 ⊢
  by_cases hk : kc = 1
  · obtain ⟨kd', va', vw', vr', rfl, -, -, -, -, k1', k2', -⟩ := ho.parts
    obtain ⟨hp, ⟨-, kd, va, hkd, rfl, h1⟩ | ⟨h9, -⟩ | ⟨h9, -⟩⟩ := hc
    · have hs : ∀ w', Ext w w' → _ := fun w' e => sift_c (h1.ext e).slI hp (ht2.ext e) (hT.ext e) (hA.ext e)
      rw [e1] at hs
      refine Fc.of (args := [_, _]) Tryd.func22 rfl rfl Tryd.ntmps22 (Nat.le_of_ble_eq_true rfl) ?_
      repeat' (first
       |(refine oLA ?_;first
       |refine LA_pass rfl ?_
       |refine wRcv ?_
       |(refine LA_bound rfl rfl ?_)
       |refine LA_alloc rfl (fun _ => rfl) ?_
       |refine LA_build3 (c := .agg #[.func (.func 49) #[] #[], .func (.func 50) #[] #[], .func (.func 51) #[] #[]]) rfl rfl rfl rfl (fun _ => by kernel_rfl) ?_
       |(refine LA_stop (hK _ _ (LX_put (φ := cnP A r (kindP r)) (w0 := w) rfl rfl rfl lays_cn (fun v' w' e hv => hv) rfl (fun _ => rfl) (Ext.refl _) (fun w' e' => ?_))); clear hK K)|(refine wOpB ?_;try dsimp only [Int.reduceToNat, Int.reducePow])|refine wOp ?_|(refine wOpD ?_;try dsimp only [Int.reduceToNat, Int.toNat_natCast])|(refine LA_cmp rfl rfl rfl rfl (fun hc => ?_) (fun hc => ?_)<;>dsimp only [cmpP] at hc)|(refine oCv ?_;first
       |(refine oC 48 ?_; refine LA_call2 (f := 48) rfl rfl rfl rfl (.pred (cnP A r (kindP r))) (by intro u1 u2 w' e hu1 hu2; obtain rfl : u1 = _ := hu1; obtain rfl : u2 = _ := hu2; exact hs w' e) ?_)
       |(refine oC 13 ?_; refine oD 7 ?_; refine LA_call1 (f := 13) rfl rfl rfl _ (by intro u1 w' e hu1; obtain rfl : u1 = _ := hu1; exact hk1 w' e) ?_)
       |(refine oC 13 ?_; refine oD 16 ?_; refine LA_call1 (f := 13) rfl rfl rfl _ (by intro u1 w' e hu1; obtain rfl : u1 = _ := hu1; exact hk2 w' e) ?_)
       |(refine oC 52 ?_; refine LA_call3 (f := 52) rfl rfl rfl rfl rfl (.pred (cnP A r (kindP r))) (by intro u1 u2 u3 w' e hu1 hu2 hu3; obtain rfl : u1 = _ := hu1; obtain rfl : u2 = _ := hu2; obtain rfl : u3 = _ := hu3; exact hdo w' e) ?_))|(refine LA_nil (hK [] _ (LX_nil ?_));clear hK K)|(refine LA_nil (hK _ ?_);clear hK K))
       |(refine oCX ?_;first
       |refine wCX ?_|(refine wCR ?_;intro K hK))
       |(refine oPX ?_;first
       |refine wPX ?_
       |exact PX_retC rfl rfl rfl rfl rfl (by assumption))
       |(refine oLX ?_;first
       |refine LX_nil ?_))
      all_goals skip

    · omega
    · omega
  · by_cases hk' : ko = 1
    · obtain ⟨kd, va, vw, vr, rfl, -, -, -, -, k1, k2, -⟩ := hc.parts
      obtain ⟨hp, ⟨-, kd', va', hkd', rfl, h1⟩ | ⟨h9, -⟩ | ⟨h9, -⟩⟩ := ho
      · have hs : ∀ w', Ext w w' → _ := fun w' e => sift_c (h1.ext e).slI hp (ht1.ext e) (hT.ext e) (hA.ext e)
        rw [e2] at hs
        refine Fc.of (args := [_, _]) Tryd.func22 rfl rfl Tryd.ntmps22 (Nat.le_of_ble_eq_true rfl) ?_
        repeat' (first
         |(refine oLA ?_;first
         |refine LA_pass rfl ?_
         |refine wRcv ?_
         |(refine LA_bound rfl rfl ?_)
         |refine LA_alloc rfl (fun _ => rfl) ?_
         |refine LA_build3 (c := .agg #[.func (.func 49) #[] #[], .func (.func 50) #[] #[], .func (.func 51) #[] #[]]) rfl rfl rfl rfl (fun _ => by kernel_rfl) ?_
         |(refine LA_stop (hK _ _ (LX_put (φ := cnP A r (kindP r)) (w0 := w) rfl rfl rfl lays_cn (fun v' w' e hv => hv) rfl (fun _ => rfl) (Ext.refl _) (fun w' e' => ?_))); clear hK K)|(refine wOpB ?_;try dsimp only [Int.reduceToNat, Int.reducePow])|refine wOp ?_|(refine wOpD ?_;try dsimp only [Int.reduceToNat, Int.toNat_natCast])|(refine LA_cmp rfl rfl rfl rfl (fun hc => ?_) (fun hc => ?_)<;>dsimp only [cmpP] at hc)|(refine oCv ?_;first
         |(refine oC 48 ?_; refine LA_call2 (f := 48) rfl rfl rfl rfl (.pred (cnP A r (kindP r))) (by intro u1 u2 w' e hu1 hu2; obtain rfl : u1 = _ := hu1; obtain rfl : u2 = _ := hu2; exact hs w' e) ?_)
         |(refine oC 13 ?_; refine oD 7 ?_; refine LA_call1 (f := 13) rfl rfl rfl _ (by intro u1 w' e hu1; obtain rfl : u1 = _ := hu1; exact hk1 w' e) ?_)
         |(refine oC 13 ?_; refine oD 16 ?_; refine LA_call1 (f := 13) rfl rfl rfl _ (by intro u1 w' e hu1; obtain rfl : u1 = _ := hu1; exact hk2 w' e) ?_)
         |(refine oC 52 ?_; refine LA_call3 (f := 52) rfl rfl rfl rfl rfl (.pred (cnP A r (kindP r))) (by intro u1 u2 u3 w' e hu1 hu2 hu3; obtain rfl : u1 = _ := hu1; obtain rfl : u2 = _ := hu2; obtain rfl : u3 = _ := hu3; exact hdo w' e) ?_))|(refine LA_nil (hK [] _ (LX_nil ?_));clear hK K)|(refine LA_nil (hK _ ?_);clear hK K))
         |(refine oCX ?_;first
         |refine wCX ?_|(refine wCR ?_;intro K hK))
         |(refine oPX ?_;first
         |refine wPX ?_
         |exact PX_retC rfl rfl rfl rfl rfl (by assumption))
         |(refine oLX ?_;first
         |refine LX_nil ?_))
        all_goals skip

      · omega
      · omega
    · obtain ⟨kd, va, vw, vr, rfl, -, -, -, -, k1, k2, -⟩ := hc.parts
      obtain ⟨kd', va', vw', vr', rfl, -, -, -, -, k1', k2', -⟩ := ho.parts
      have hs : True := trivial
      refine Fc.of (args := [_, _]) Tryd.func22 rfl rfl Tryd.ntmps22 (Nat.le_of_ble_eq_true rfl) ?_
      repeat' (first
       |(refine oLA ?_;first
       |refine LA_pass rfl ?_
       |refine wRcv ?_
       |(refine LA_bound rfl rfl ?_)
       |refine LA_alloc rfl (fun _ => rfl) ?_
       |refine LA_build3 (c := .agg #[.func (.func 49) #[] #[], .func (.func 50) #[] #[], .func (.func 51) #[] #[]]) rfl rfl rfl rfl (fun _ => by kernel_rfl) ?_
       |(refine LA_stop (hK _ _ (LX_put (φ := cnP A r (kindP r)) (w0 := w) rfl rfl rfl lays_cn (fun v' w' e hv => hv) rfl (fun _ => rfl) (Ext.refl _) (fun w' e' => ?_))); clear hK K)|(refine wOpB ?_;try dsimp only [Int.reduceToNat, Int.reducePow])|refine wOp ?_|(refine wOpD ?_;try dsimp only [Int.reduceToNat, Int.toNat_natCast])|(refine LA_cmp rfl rfl rfl rfl (fun hc => ?_) (fun hc => ?_)<;>dsimp only [cmpP] at hc)|(refine oCv ?_;first
       |(refine oC 48 ?_; refine LA_call2 (f := 48) rfl rfl rfl rfl (.pred (cnP A r (kindP r))) (by intro u1 u2 w' e hu1 hu2; obtain rfl : u1 = _ := hu1; obtain rfl : u2 = _ := hu2; exact hs w' e) ?_)
       |(refine oC 13 ?_; refine oD 7 ?_; refine LA_call1 (f := 13) rfl rfl rfl _ (by intro u1 w' e hu1; obtain rfl : u1 = _ := hu1; exact hk1 w' e) ?_)
       |(refine oC 13 ?_; refine oD 16 ?_; refine LA_call1 (f := 13) rfl rfl rfl _ (by intro u1 w' e hu1; obtain rfl : u1 = _ := hu1; exact hk2 w' e) ?_)
       |(refine oC 52 ?_; refine LA_call3 (f := 52) rfl rfl rfl rfl rfl (.pred (cnP A r (kindP r))) (by intro u1 u2 u3 w' e hu1 hu2 hu3; obtain rfl : u1 = _ := hu1; obtain rfl : u2 = _ := hu2; obtain rfl : u3 = _ := hu3; exact hdo w' e) ?_))|(refine LA_nil (hK [] _ (LX_nil ?_));clear hK K)|(refine LA_nil (hK _ ?_);clear hK K))
       |(refine oCX ?_;first
       |refine wCX ?_|(refine wCR ?_;intro K hK))
       |(refine oPX ?_;first
       |refine wPX ?_
       |exact PX_retC rfl rfl rfl rfl rfl (by assumption))
       |(refine oLX ?_;first
       |refine LX_nil ?_))
      all_goals skip

end Go.Proofs.YtjiacignpmabcaaDoor
