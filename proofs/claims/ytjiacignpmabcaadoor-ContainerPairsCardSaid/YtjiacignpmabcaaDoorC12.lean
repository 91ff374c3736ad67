import Derived.Test.YtjiacignpmabcaaDoorC11

set_option linter.unusedSimpArgs false
set_option linter.unusedVariables false
set_option maxRecDepth 3000
namespace Go.Proofs.YtjiacignpmabcaaDoor
open Go.LA Go.ArrP Go.RowKit
variable {A : Nat → Prop}
theorem does_And {w : World} {p q : Nat → Bool} (hp : p 65536 = false) (hq : q 65536 = false) : Does w 49 50 51 p q (two (fun x y => x && y) p q) where
  a := fun w' e va vb ha hb => by
    have hm : mergeS fAnd (listS p 65536) (listS q 65536) = listS (two (fun x y => x && y) p q) 65536 := (and_eq (listS_inc p _) (listS_inc q _) (listS_low p) (listS_low q)).trans (listS_congr 65536 fun i hi => by rw [memb_listS p hi, memb_listS q hi]; simp [bothF, two])
    have := and_c w' va vb _ _ ha hb (by have := len16 p; have := len16 q; omega)
    rwa [hm] at this
  w := fun w' e va vb ha hb => wandP w' va vb p q ha hb
  r := fun w' e va vb ha hb => rand_c w' va vb p q hp hq ha hb

theorem does_Or {w : World} {p q : Nat → Bool} (hp : p 65536 = false) (hq : q 65536 = false) : Does w 53 54 55 p q (two (fun x y => x || y) p q) where
  a := fun w' e va vb ha hb => by
    have hm : mergeS fOr (listS p 65536) (listS q 65536) = listS (two (fun x y => x || y) p q) 65536 := (or_eq' (listS_inc p _) (listS_inc q _) (listS_low p) (listS_low q)).trans (listS_congr 65536 fun i hi => by rw [memb_listS p hi, memb_listS q hi]; simp [bothF, two])
    have := or_c w' va vb _ _ ha hb (by have := len16 p; have := len16 q; omega)
    rwa [hm] at this
  w := fun w' e va vb ha hb => worP w' va vb p q ha hb
  r := fun w' e va vb ha hb => ror_c w' va vb p q hp hq ha hb

theorem does_AndNot {w : World} {p q : Nat → Bool} (hp : p 65536 = false) (hq : q 65536 = false) : Does w 59 60 61 p q (two (fun x y => x && !y) p q) where
  a := fun w' e va vb ha hb => by
    have hm : mergeS fNot (listS p 65536) (listS q 65536) = listS (two (fun x y => x && !y) p q) 65536 := (not_eq (listS_inc p _) (listS_inc q _) (listS_low p) (listS_low q)).trans (listS_congr 65536 fun i hi => by rw [memb_listS p hi, memb_listS q hi]; simp [bothF, two])
    have := andnot_c w' va vb _ _ ha hb (by have := len16 p; have := len16 q; omega)
    rwa [hm] at this
  w := fun w' e va vb ha hb => wnotP w' va vb p q ha hb
  r := fun w' e va vb ha hb => rnot_c w' va vb p q hp hq ha hb

theorem does_Xor {w : World} {p q : Nat → Bool} (hp : p 65536 = false) (hq : q 65536 = false) : Does w 62 63 64 p q (two (fun x y => !(x == y)) p q) where
  a := fun w' e va vb ha hb => by
    have hm : mergeS fXor (listS p 65536) (listS q 65536) = listS (two (fun x y => !(x == y)) p q) 65536 := (xor_eq (listS_inc p _) (listS_inc q _) (listS_low p) (listS_low q)).trans (listS_congr 65536 fun i hi => by rw [memb_listS p hi, memb_listS q hi]; simp [bothF, two])
    have := xor_c w' va vb _ _ ha hb (by have := len16 p; have := len16 q; omega)
    rwa [hm] at this
  w := fun w' e va vb ha hb => wxorP w' va vb p q ha hb
  r := fun w' e va vb ha hb => rxor_c w' va vb p q hp hq ha hb

theorem cor_c {w : World} {vc vo : Value} {p q : Nat → Bool} {kc ko : Int} (hc : Cn A w vc p kc) (ho : Cn A w vo q ko) (hT : Tab w) (hA : Fsh A w) :
    Fc Tryd.prog 23 #[vc, vo] w (Ret w (.pred (cnP A (two (fun x y => x || y) p q) (kindP (two (fun x y => x || y) p q))))) := by
  have hr : two (fun x y => x || y) p q 65536 = false := by unfold two; rw [hc.1, ho.1]; rfl
  have hdo : ∀ w', Ext w w' → _ := fun w' e => do_c (hc.ext e) (ho.ext e) (does_Or hc.1 ho.1) hr (hT.ext e) (hA.ext e)
  have hk1 : ∀ w', Ext w w' → _ := fun w' e => kind_c (hc.ext e)
  have hk2 : ∀ w', Ext w w' → _ := fun w' e => kind_c (ho.ext e)
  obtain ⟨r, hrr⟩ : ∃ r, r = two (fun x y => x || y) p q := ⟨_, rfl⟩
  rw [← hrr] at hr hdo ⊢
  obtain ⟨kd, va, vw, vr, rfl, -, -, -, -, k1, k2, -⟩ := hc.parts
  obtain ⟨kd', va', vw', vr', rfl, -, -, -, -, k1', k2', -⟩ := ho.parts
  · skip
    refine Fc.of (args := [_, _]) Tryd.func23 rfl rfl Tryd.ntmps23 (Nat.le_of_ble_eq_true rfl) ?_
    repeat' (first
     |(refine oLA ?_;first
     |refine LA_pass rfl ?_
     |refine wRcv ?_
     |refine LA_alloc rfl (fun _ => rfl) ?_
     |refine LA_build3 (c := .agg #[.func (.func 53) #[] #[], .func (.func 54) #[] #[], .func (.func 55) #[] #[]]) rfl rfl rfl rfl (fun _ => by kernel_rfl) ?_
     |(refine LA_stop (hK _ _ (LX_put (φ := cnP A r (kindP r)) (w0 := w) rfl rfl rfl lays_cn (fun v' w' e hv => hv) rfl (fun _ => rfl) (Ext.refl _) (fun w' e' => ?_))); clear hK K)|(refine wOpB ?_;try dsimp only [Int.reduceToNat, Int.reducePow])|refine wOp ?_|(refine wOpD ?_;try dsimp only [Int.reduceToNat, Int.toNat_natCast])|(refine LA_cmp rfl rfl rfl rfl (fun hc => ?_) (fun hc => ?_)<;>dsimp only [cmpP] at hc)|(refine oCv ?_;first
     |(refine oC 13 ?_; refine oD 999 ?_; refine LA_call1 (f := 13) rfl rfl rfl _ (by intro u1 w' e hu1; obtain rfl : u1 = _ := hu1; exact hk1 w' e) ?_)
     |(refine oC 13 ?_; refine oD 998 ?_; refine LA_call1 (f := 13) rfl rfl rfl _ (by intro u1 w' e hu1; obtain rfl : u1 = _ := hu1; exact hk2 w' e) ?_)
     |(refine oC 52 ?_; refine LA_call3 (f := 52) rfl rfl rfl rfl rfl (.pred (cnP A r (kindP r))) (by intro u1 u2 u3 w' e hu1 hu2 hu3; obtain rfl : u1 = _ := hu1; obtain rfl : u2 = _ := hu2; obtain rfl : u3 = _ := hu3; exact hdo w' e) ?_))|(refine LA_nil (hK [] _ (LX_nil ?_));clear hK K)|(refine LA_nil (hK _ ?_);clear hK K))
     |(refine oCX ?_;first
     |refine wCX ?_|(refine wCR ?_;intro K hK))
     |(refine oPX ?_;first
     |refine wPX ?_
     |exact PX_retC rfl rfl rfl rfl rfl (by assumption))
     |(refine oLX ?_;first
     |refine LX_nil ?_))
    all_goals skip

theorem cxor_c {w : World} {vc vo : Value} {p q : Nat → Bool} {kc ko : Int} (hc : Cn A w vc p kc) (ho : Cn A w vo q ko) (hT : Tab w) (hA : Fsh A w) :
    Fc Tryd.prog 26 #[vc, vo] w (Ret w (.pred (cnP A (two (fun x y => !(x == y)) p q) (kindP (two (fun x y => !(x == y)) p q))))) := by
  have hr : two (fun x y => !(x == y)) p q 65536 = false := by unfold two; rw [hc.1, ho.1]; rfl
  have hdo : ∀ w', Ext w w' → _ := fun w' e => do_c (hc.ext e) (ho.ext e) (does_Xor hc.1 ho.1) hr (hT.ext e) (hA.ext e)
  have hk1 : ∀ w', Ext w w' → _ := fun w' e => kind_c (hc.ext e)
  have hk2 : ∀ w', Ext w w' → _ := fun w' e => kind_c (ho.ext e)
  obtain ⟨r, hrr⟩ : ∃ r, r = two (fun x y => !(x == y)) p q := ⟨_, rfl⟩
  rw [← hrr] at hr hdo ⊢
  obtain ⟨kd, va, vw, vr, rfl, -, -, -, -, k1, k2, -⟩ := hc.parts
  obtain ⟨kd', va', vw', vr', rfl, -, -, -, -, k1', k2', -⟩ := ho.parts
  · skip
    refine Fc.of (args := [_, _]) Tryd.func26 rfl rfl Tryd.ntmps26 (Nat.le_of_ble_eq_true rfl) ?_
    repeat' (first
     |(refine oLA ?_;first
     |refine LA_pass rfl ?_
     |refine wRcv ?_
     |refine LA_alloc rfl (fun _ => rfl) ?_
     |refine LA_build3 (c := .agg #[.func (.func 62) #[] #[], .func (.func 63) #[] #[], .func (.func 64) #[] #[]]) rfl rfl rfl rfl (fun _ => by kernel_rfl) ?_
     |(refine LA_stop (hK _ _ (LX_put (φ := cnP A r (kindP r)) (w0 := w) rfl rfl rfl lays_cn (fun v' w' e hv => hv) rfl (fun _ => rfl) (Ext.refl _) (fun w' e' => ?_))); clear hK K)|(refine wOpB ?_;try dsimp only [Int.reduceToNat, Int.reducePow])|refine wOp ?_|(refine wOpD ?_;try dsimp only [Int.reduceToNat, Int.toNat_natCast])|(refine LA_cmp rfl rfl rfl rfl (fun hc => ?_) (fun hc => ?_)<;>dsimp only [cmpP] at hc)|(refine oCv ?_;first
     |(refine oC 13 ?_; refine oD 999 ?_; refine LA_call1 (f := 13) rfl rfl rfl _ (by intro u1 w' e hu1; obtain rfl : u1 = _ := hu1; exact hk1 w' e) ?_)
     |(refine oC 13 ?_; refine oD 998 ?_; refine LA_call1 (f := 13) rfl rfl rfl _ (by intro u1 w' e hu1; obtain rfl : u1 = _ := hu1; exact hk2 w' e) ?_)
     |(refine oC 52 ?_; refine LA_call3 (f := 52) rfl rfl rfl rfl rfl (.pred (cnP A r (kindP r))) (by intro u1 u2 u3 w' e hu1 hu2 hu3; obtain rfl : u1 = _ := hu1; obtain rfl : u2 = _ := hu2; obtain rfl : u3 = _ := hu3; exact hdo w' e) ?_))|(refine LA_nil (hK [] _ (LX_nil ?_));clear hK K)|(refine LA_nil (hK _ ?_);clear hK K))
     |(refine oCX ?_;first
     |refine wCX ?_|(refine wCR ?_;intro K hK))
     |(refine oPX ?_;first
     |refine wPX ?_
     |exact PX_retC rfl rfl rfl rfl rfl (by assumption))
     |(refine oLX ?_;first
     |refine LX_nil ?_))
    all_goals skip

end Go.Proofs.YtjiacignpmabcaaDoor
