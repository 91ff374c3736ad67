import Derived.Test.YtjiacignpmabcaaDoorC10

set_option linter.unusedSimpArgs false
set_option linter.unusedVariables false
set_option maxRecDepth 3000
namespace Go.Proofs.YtjiacignpmabcaaDoor
open Go.LA Go.ArrP Go.RowKit
variable {A : Nat → Prop}
/-- The three functions of a pair do F of the sets p and q. -/
structure Does (w0 : World) (fa fw fr : FuncId) (p q r : Nat → Bool) : Prop where
  a : ∀ w', Ext w0 w' → ∀ va vb, SlI .u16 w' va (listS p 65536) → SlI .u16 w' vb (listS q 65536) → Fc Tryd.prog fa #[va, vb] w' (Ret w' (.pred (ownI w'.heap.size 29 .u16 (listS r 65536))))
  w : ∀ w', Ext w0 w' → ∀ va vb, SlI .u64 w' va (wordsOf p) → SlI .u64 w' vb (wordsOf q) → Fc Tryd.prog fw #[va, vb] w' (Ret w' (.pred (ownI w'.heap.size 66 .u64 (wordsOf r))))
  r : ∀ w', Ext w0 w' → ∀ va vb, SlR w' va (runsL p) → SlR w' vb (runsL q) → Fc Tryd.prog fr #[va, vb] w' (Ret w' (.pred (ownR w'.heap.size 70 (runsL r))))
def fnV (f : FuncId) : Value := .func (.func f) #[] #[]
set_option maxHeartbeats 4000000 in
theorem do_c {w : World} {vc vo : Value} {p q r : Nat → Bool} {kc ko : Int} {fa fw fr : FuncId} (hc : Cn A w vc p kc) (ho : Cn A w vo q ko) (hD : Does w fa fw fr p q r) (hr : r 65536 = false) (hT : Tab w) (hA : Fsh A w) :
    Fc Tryd.prog 52 #[.agg #[.func (.func fa) #[] #[], .func (.func fw) #[] #[], .func (.func fr) #[] #[]], vc, vo] w (Ret w (.pred (cnP A r (kindP r)))) := by
  have hk1 : ∀ w', Ext w w' → _ := fun w' e => kind_c (hc.ext e)
  have hk2 : ∀ w', Ext w w' → _ := fun w' e => kind_c (ho.ext e)
  have hw1 : ∀ w', Ext w w' → _ := fun w' e => cwords_c (hc.ext e)
  have hw2 : ∀ w', Ext w w' → _ := fun w' e => cwords_c (ho.ext e)
  obtain ⟨hp, ⟨rfl, kd, va, hkd, rfl, h1⟩ | ⟨rfl, vw, rfl, h1⟩ | ⟨rfl, vr, rfl, h1⟩⟩ := hc
  · obtain ⟨hq, ⟨rfl, kd', va', hkd', rfl, h2⟩ | ⟨rfl, vw', rfl, h2⟩ | ⟨rfl, vr', rfl, h2⟩⟩ := ho
    · skip
      refine Fc.of (args := [_, _, _]) Tryd.func52 rfl rfl Tryd.ntmps52 (Nat.le_of_ble_eq_true rfl) ?_
      repeat' (first
       |(refine oLA ?_;first
       |refine LA_pass rfl ?_
       |refine wRcv ?_
       |refine LA_alloc rfl (fun _ => rfl) ?_
       |(refine oFa ?_; refine LA_fieldC (f := 0) (o := 0) rfl rfl (fun _ _ => rfl) ?_)
       |(refine oFa ?_; refine LA_fieldC (f := 1) (o := 1) rfl rfl (fun _ _ => rfl) ?_)
       |(refine oFa ?_; refine LA_fieldC (f := 2) (o := 2) rfl rfl (fun _ _ => rfl) ?_)
       |(refine oLd ?_; refine LA_loadH rfl (fun _ => rfl) rfl rfl ?_)
       |(refine oD 23 ?_; refine LA_build2P (j1 := 1) (c := fun u => .agg #[.int .u8 1, u, .slice none 0 0, .slice none 0 0]) rfl rfl rfl (fun v1 w1 hv1 => by obtain ⟨a', c', rfl⟩ := (OwnI.slI hv1).isSlice; kernel_rfl) ?_)
       |(refine oD 41 ?_; refine LA_build2P (j1 := 3) (c := fun u => .agg #[.int .u8 3, .slice none 0 0, .slice none 0 0, u]) rfl rfl rfl (fun v1 w1 hv1 => by obtain ⟨a', c', rfl⟩ := (OwnR.slR hv1).isSlice; kernel_rfl) ?_)
       |(refine oD 50 ?_; refine LA_build2P (j1 := 2) (c := fun u => .agg #[.int .u8 2, .slice none 0 0, u, .slice none 0 0]) rfl rfl rfl (fun v1 w1 hv1 => by obtain ⟨a', c', rfl⟩ := (OwnI.slI hv1).isSlice; kernel_rfl) ?_)
       |(refine LA_stop (hK _ _ (LX_put (φ := cnP A r (kindP r)) (w0 := w) rfl rfl rfl lays_cn (fun v' w' e hv => hv) rfl (fun _ => rfl) (Ext.refl _) (fun w' e' => ?_))); clear hK K)
       |(refine LA_stop (hK _ _ rfl (LX_put (φ := cnP A r (kindP r)) (w0 := w) rfl rfl rfl lays_cn (fun v' w' e hv => hv) rfl (fun _ => rfl) (Ext.refl _) (fun w' e' => ?_))); clear hK K)|(refine wOpB ?_;try dsimp only [Int.reduceToNat, Int.reducePow])|refine wOp ?_|(refine wOpD ?_;try dsimp only [Int.reduceToNat, Int.toNat_natCast])|(refine LA_cmp rfl rfl rfl rfl (fun hc => ?_) (fun hc => ?_)<;>dsimp only [cmpP] at hc)|(refine oCv ?_;first
       |(refine oD 9 ?_; refine LA_call1 (f := 13) rfl rfl rfl _ (by intro u1 w' e hu1; obtain rfl : u1 = _ := hu1; exact hk1 w' e) ?_)
       |(refine oD 13 ?_; refine LA_call1 (f := 13) rfl rfl rfl _ (by intro u1 w' e hu1; obtain rfl : u1 = _ := hu1; exact hk2 w' e) ?_)
       |(refine oD 22 ?_; refine LA_call2 (f := fa) rfl rfl rfl rfl (.pred (ownI _ 29 .u16 (listS r 65536))) (by intro u1 u2 w' e hu1 hu2; obtain rfl : u1 = _ := hu1; obtain rfl : u2 = _ := hu2; exact (hD.a w' e _ _ (h1.ext e).slI (h2.ext e).slI).mono (ret_base e.size)) ?_)
       |(refine oD 40 ?_; refine LA_call2 (f := fr) rfl rfl rfl rfl (.pred (ownR _ 70 (runsL r))) (by intro u1 u2 w' e hu1 hu2; obtain rfl : u1 = _ := hu1; obtain rfl : u2 = _ := hu2; exact (hD.r w' e _ _ (h1.ext e).slR (h2.ext e).slR).mono (ret_baseR e.size rfl)) ?_)
       |(refine oD 46 ?_; refine LA_call1 (f := 32) rfl rfl rfl (.pred (ownI _ 66 .u64 (wordsOf p))) (by intro u1 w' e hu1; obtain rfl : u1 = _ := hu1; exact (hw1 w' e).mono (ret_base e.size)) ?_)
       |(refine oD 48 ?_; refine LA_call1 (f := 32) rfl rfl rfl (.pred (ownI _ 66 .u64 (wordsOf q))) (by intro u1 w' e hu1; obtain rfl : u1 = _ := hu1; exact (hw2 w' e).mono (ret_base e.size)) ?_)
       |(refine oD 49 ?_; refine LA_call2 (f := fw) rfl rfl rfl rfl (.pred (ownI _ 66 .u64 (wordsOf r))) (by intro u1 u2 w' e hu1 hu2; exact (hD.w w' e _ _ (OwnI.slI hu1) (OwnI.slI hu2)).mono (ret_base e.size)) ?_)
       |(refine oC 12 ?_; refine LA_call1 (f := 12) rfl rfl rfl  (.pred (cnP A r (kindP r))) (by intro u1 w e hu1; (try obtain rfl : u1 = _ := hu1); exact by obtain ⟨u, rfl, hu⟩ := hu1; exact canon_c (Cn.arr hr rfl hu hA) (hT.ext e) (hA.ext e)) ?_))|(refine LA_nil (hK [] _ (LX_nil ?_));clear hK K)|(refine LA_nil (hK _ ?_);clear hK K))
       |(refine oCX ?_;first
       |refine CX_regionS 9 rfl (by kernel_rfl) (by kernel_rfl) (fun K hK => ?_)
       |refine wCX ?_|(refine wCR ?_;intro K hK))
       |(refine oPX ?_;first
       |refine wPX ?_
       |exact PX_retC rfl rfl rfl rfl rfl (by assumption))
       |(refine oLX ?_;first
       |refine LX_nil ?_))
      all_goals skip

    · skip
      refine Fc.of (args := [_, _, _]) Tryd.func52 rfl rfl Tryd.ntmps52 (Nat.le_of_ble_eq_true rfl) ?_
      repeat' (first
       |(refine oLA ?_;first
       |refine LA_pass rfl ?_
       |refine wRcv ?_
       |refine LA_alloc rfl (fun _ => rfl) ?_
       |(refine oFa ?_; refine LA_fieldC (f := 0) (o := 0) rfl rfl (fun _ _ => rfl) ?_)
       |(refine oFa ?_; refine LA_fieldC (f := 1) (o := 1) rfl rfl (fun _ _ => rfl) ?_)
       |(refine oFa ?_; refine LA_fieldC (f := 2) (o := 2) rfl rfl (fun _ _ => rfl) ?_)
       |(refine oLd ?_; refine LA_loadH rfl (fun _ => rfl) rfl rfl ?_)
       |(refine oD 23 ?_; refine LA_build2P (j1 := 1) (c := fun u => .agg #[.int .u8 1, u, .slice none 0 0, .slice none 0 0]) rfl rfl rfl (fun v1 w1 hv1 => by obtain ⟨a', c', rfl⟩ := (OwnI.slI hv1).isSlice; kernel_rfl) ?_)
       |(refine oD 41 ?_; refine LA_build2P (j1 := 3) (c := fun u => .agg #[.int .u8 3, .slice none 0 0, .slice none 0 0, u]) rfl rfl rfl (fun v1 w1 hv1 => by obtain ⟨a', c', rfl⟩ := (OwnR.slR hv1).isSlice; kernel_rfl) ?_)
       |(refine oD 50 ?_; refine LA_build2P (j1 := 2) (c := fun u => .agg #[.int .u8 2, .slice none 0 0, u, .slice none 0 0]) rfl rfl rfl (fun v1 w1 hv1 => by obtain ⟨a', c', rfl⟩ := (OwnI.slI hv1).isSlice; kernel_rfl) ?_)
       |(refine LA_stop (hK _ _ (LX_put (φ := cnP A r (kindP r)) (w0 := w) rfl rfl rfl lays_cn (fun v' w' e hv => hv) rfl (fun _ => rfl) (Ext.refl _) (fun w' e' => ?_))); clear hK K)
       |(refine LA_stop (hK _ _ rfl (LX_put (φ := cnP A r (kindP r)) (w0 := w) rfl rfl rfl lays_cn (fun v' w' e hv => hv) rfl (fun _ => rfl) (Ext.refl _) (fun w' e' => ?_))); clear hK K)|(refine wOpB ?_;try dsimp only [Int.reduceToNat, Int.reducePow])|refine wOp ?_|(refine wOpD ?_;try dsimp only [Int.reduceToNat, Int.toNat_natCast])|(refine LA_cmp rfl rfl rfl rfl (fun hc => ?_) (fun hc => ?_)<;>dsimp only [cmpP] at hc)|(refine oCv ?_;first
       |(refine oD 9 ?_; refine LA_call1 (f := 13) rfl rfl rfl _ (by intro u1 w' e hu1; obtain rfl : u1 = _ := hu1; exact hk1 w' e) ?_)
       |(refine oD 13 ?_; refine LA_call1 (f := 13) rfl rfl rfl _ (by intro u1 w' e hu1; obtain rfl : u1 = _ := hu1; exact hk2 w' e) ?_)
       |(refine oD 22 ?_; refine LA_call2 (f := fa) rfl rfl rfl rfl (.pred (ownI _ 29 .u16 (listS r 65536))) (by intro u1 u2 w' e hu1 hu2; obtain rfl : u1 = _ := hu1; obtain rfl : u2 = _ := hu2; exact (hD.a w' e _ _ (h1.ext e).slI (h2.ext e).slI).mono (ret_base e.size)) ?_)
       |(refine oD 40 ?_; refine LA_call2 (f := fr) rfl rfl rfl rfl (.pred (ownR _ 70 (runsL r))) (by intro u1 u2 w' e hu1 hu2; obtain rfl : u1 = _ := hu1; obtain rfl : u2 = _ := hu2; exact (hD.r w' e _ _ (h1.ext e).slR (h2.ext e).slR).mono (ret_baseR e.size rfl)) ?_)
       |(refine oD 46 ?_; refine LA_call1 (f := 32) rfl rfl rfl (.pred (ownI _ 66 .u64 (wordsOf p))) (by intro u1 w' e hu1; obtain rfl : u1 = _ := hu1; exact (hw1 w' e).mono (ret_base e.size)) ?_)
       |(refine oD 48 ?_; refine LA_call1 (f := 32) rfl rfl rfl (.pred (ownI _ 66 .u64 (wordsOf q))) (by intro u1 w' e hu1; obtain rfl : u1 = _ := hu1; exact (hw2 w' e).mono (ret_base e.size)) ?_)
       |(refine oD 49 ?_; refine LA_call2 (f := fw) rfl rfl rfl rfl (.pred (ownI _ 66 .u64 (wordsOf r))) (by intro u1 u2 w' e hu1 hu2; exact (hD.w w' e _ _ (OwnI.slI hu1) (OwnI.slI hu2)).mono (ret_base e.size)) ?_)
       |(refine oC 12 ?_; refine LA_call1 (f := 12) rfl rfl rfl  (.pred (cnP A r (kindP r))) (by intro u1 w e hu1; (try obtain rfl : u1 = _ := hu1); exact by obtain ⟨u, rfl, hu⟩ := hu1; exact canon_c (Cn.wrd hr rfl hu hA) (hT.ext e) (hA.ext e)) ?_))|(refine LA_nil (hK [] _ (LX_nil ?_));clear hK K)|(refine LA_nil (hK _ ?_);clear hK K))
       |(refine oCX ?_;first
       |refine CX_regionS 9 rfl (by kernel_rfl) (by kernel_rfl) (fun K hK => ?_)
       |refine wCX ?_|(refine wCR ?_;intro K hK))
       |(refine oPX ?_;first
       |refine wPX ?_
       |exact PX_retC rfl rfl rfl rfl rfl (by assumption))
       |(refine oLX ?_;first
       |refine LX_nil ?_))
      all_goals skip

    · skip
      refine Fc.of (args := [_, _, _]) Tryd.func52 rfl rfl Tryd.ntmps52 (Nat.le_of_ble_eq_true rfl) ?_
      repeat' (first
       |(refine oLA ?_;first
       |refine LA_pass rfl ?_
       |refine wRcv ?_
       |refine LA_alloc rfl (fun _ => rfl) ?_
       |(refine oFa ?_; refine LA_fieldC (f := 0) (o := 0) rfl rfl (fun _ _ => rfl) ?_)
       |(refine oFa ?_; refine LA_fieldC (f := 1) (o := 1) rfl rfl (fun _ _ => rfl) ?_)
       |(refine oFa ?_; refine LA_fieldC (f := 2) (o := 2) rfl rfl (fun _ _ => rfl) ?_)
       |(refine oLd ?_; refine LA_loadH rfl (fun _ => rfl) rfl rfl ?_)
       |(refine oD 23 ?_; refine LA_build2P (j1 := 1) (c := fun u => .agg #[.int .u8 1, u, .slice none 0 0, .slice none 0 0]) rfl rfl rfl (fun v1 w1 hv1 => by obtain ⟨a', c', rfl⟩ := (OwnI.slI hv1).isSlice; kernel_rfl) ?_)
       |(refine oD 41 ?_; refine LA_build2P (j1 := 3) (c := fun u => .agg #[.int .u8 3, .slice none 0 0, .slice none 0 0, u]) rfl rfl rfl (fun v1 w1 hv1 => by obtain ⟨a', c', rfl⟩ := (OwnR.slR hv1).isSlice; kernel_rfl) ?_)
       |(refine oD 50 ?_; refine LA_build2P (j1 := 2) (c := fun u => .agg #[.int .u8 2, .slice none 0 0, u, .slice none 0 0]) rfl rfl rfl (fun v1 w1 hv1 => by obtain ⟨a', c', rfl⟩ := (OwnI.slI hv1).isSlice; kernel_rfl) ?_)
       |(refine LA_stop (hK _ _ (LX_put (φ := cnP A r (kindP r)) (w0 := w) rfl rfl rfl lays_cn (fun v' w' e hv => hv) rfl (fun _ => rfl) (Ext.refl _) (fun w' e' => ?_))); clear hK K)
       |(refine LA_stop (hK _ _ rfl (LX_put (φ := cnP A r (kindP r)) (w0 := w) rfl rfl rfl lays_cn (fun v' w' e hv => hv) rfl (fun _ => rfl) (Ext.refl _) (fun w' e' => ?_))); clear hK K)|(refine wOpB ?_;try dsimp only [Int.reduceToNat, Int.reducePow])|refine wOp ?_|(refine wOpD ?_;try dsimp only [Int.reduceToNat, Int.toNat_natCast])|(refine LA_cmp rfl rfl rfl rfl (fun hc => ?_) (fun hc => ?_)<;>dsimp only [cmpP] at hc)|(refine oCv ?_;first
       |(refine oD 9 ?_; refine LA_call1 (f := 13) rfl rfl rfl _ (by intro u1 w' e hu1; obtain rfl : u1 = _ := hu1; exact hk1 w' e) ?_)
       |(refine oD 13 ?_; refine LA_call1 (f := 13) rfl rfl rfl _ (by intro u1 w' e hu1; obtain rfl : u1 = _ := hu1; exact hk2 w' e) ?_)
       |(refine oD 22 ?_; refine LA_call2 (f := fa) rfl rfl rfl rfl (.pred (ownI _ 29 .u16 (listS r 65536))) (by intro u1 u2 w' e hu1 hu2; obtain rfl : u1 = _ := hu1; obtain rfl : u2 = _ := hu2; exact (hD.a w' e _ _ (h1.ext e).slI (h2.ext e).slI).mono (ret_base e.size)) ?_)
       |(refine oD 40 ?_; refine LA_call2 (f := fr) rfl rfl rfl rfl (.pred (ownR _ 70 (runsL r))) (by intro u1 u2 w' e hu1 hu2; obtain rfl : u1 = _ := hu1; obtain rfl : u2 = _ := hu2; exact (hD.r w' e _ _ (h1.ext e).slR (h2.ext e).slR).mono (ret_baseR e.size rfl)) ?_)
       |(refine oD 46 ?_; refine LA_call1 (f := 32) rfl rfl rfl (.pred (ownI _ 66 .u64 (wordsOf p))) (by intro u1 w' e hu1; obtain rfl : u1 = _ := hu1; exact (hw1 w' e).mono (ret_base e.size)) ?_)
       |(refine oD 48 ?_; refine LA_call1 (f := 32) rfl rfl rfl (.pred (ownI _ 66 .u64 (wordsOf q))) (by intro u1 w' e hu1; obtain rfl : u1 = _ := hu1; exact (hw2 w' e).mono (ret_base e.size)) ?_)
       |(refine oD 49 ?_; refine LA_call2 (f := fw) rfl rfl rfl rfl (.pred (ownI _ 66 .u64 (wordsOf r))) (by intro u1 u2 w' e hu1 hu2; exact (hD.w w' e _ _ (OwnI.slI hu1) (OwnI.slI hu2)).mono (ret_base e.size)) ?_)
       |(refine oC 12 ?_; refine LA_call1 (f := 12) rfl rfl rfl  (.pred (cnP A r (kindP r))) (by intro u1 w e hu1; (try obtain rfl : u1 = _ := hu1); exact by obtain ⟨u, rfl, hu⟩ := hu1; exact canon_c (Cn.wrd hr rfl hu hA) (hT.ext e) (hA.ext e)) ?_))|(refine LA_nil (hK [] _ (LX_nil ?_));clear hK K)|(refine LA_nil (hK _ ?_);clear hK K))
       |(refine oCX ?_;first
       |refine CX_regionS 9 rfl (by kernel_rfl) (by kernel_rfl) (fun K hK => ?_)
       |refine wCX ?_|(refine wCR ?_;intro K hK))
       |(refine oPX ?_;first
       |refine wPX ?_
       |exact PX_retC rfl rfl rfl rfl rfl (by assumption))
       |(refine oLX ?_;first
       |refine LX_nil ?_))
      all_goals skip

  · obtain ⟨hq, ⟨rfl, kd', va', hkd', rfl, h2⟩ | ⟨rfl, vw', rfl, h2⟩ | ⟨rfl, vr', rfl, h2⟩⟩ := ho
    · skip
      refine Fc.of (args := [_, _, _]) Tryd.func52 rfl rfl Tryd.ntmps52 (Nat.le_of_ble_eq_true rfl) ?_
      repeat' (first
       |(refine oLA ?_;first
       |refine LA_pass rfl ?_
       |refine wRcv ?_
       |refine LA_alloc rfl (fun _ => rfl) ?_
       |(refine oFa ?_; refine LA_fieldC (f := 0) (o := 0) rfl rfl (fun _ _ => rfl) ?_)
       |(refine oFa ?_; refine LA_fieldC (f := 1) (o := 1) rfl rfl (fun _ _ => rfl) ?_)
       |(refine oFa ?_; refine LA_fieldC (f := 2) (o := 2) rfl rfl (fun _ _ => rfl) ?_)
       |(refine oLd ?_; refine LA_loadH rfl (fun _ => rfl) rfl rfl ?_)
       |(refine oD 23 ?_; refine LA_build2P (j1 := 1) (c := fun u => .agg #[.int .u8 1, u, .slice none 0 0, .slice none 0 0]) rfl rfl rfl (fun v1 w1 hv1 => by obtain ⟨a', c', rfl⟩ := (OwnI.slI hv1).isSlice; kernel_rfl) ?_)
       |(refine oD 41 ?_; refine LA_build2P (j1 := 3) (c := fun u => .agg #[.int .u8 3, .slice none 0 0, .slice none 0 0, u]) rfl rfl rfl (fun v1 w1 hv1 => by obtain ⟨a', c', rfl⟩ := (OwnR.slR hv1).isSlice; kernel_rfl) ?_)
       |(refine oD 50 ?_; refine LA_build2P (j1 := 2) (c := fun u => .agg #[.int .u8 2, .slice none 0 0, u, .slice none 0 0]) rfl rfl rfl (fun v1 w1 hv1 => by obtain ⟨a', c', rfl⟩ := (OwnI.slI hv1).isSlice; kernel_rfl) ?_)
       |(refine LA_stop (hK _ _ (LX_put (φ := cnP A r (kindP r)) (w0 := w) rfl rfl rfl lays_cn (fun v' w' e hv => hv) rfl (fun _ => rfl) (Ext.refl _) (fun w' e' => ?_))); clear hK K)
       |(refine LA_stop (hK _ _ rfl (LX_put (φ := cnP A r (kindP r)) (w0 := w) rfl rfl rfl lays_cn (fun v' w' e hv => hv) rfl (fun _ => rfl) (Ext.refl _) (fun w' e' => ?_))); clear hK K)|(refine wOpB ?_;try dsimp only [Int.reduceToNat, Int.reducePow])|refine wOp ?_|(refine wOpD ?_;try dsimp only [Int.reduceToNat, Int.toNat_natCast])|(refine LA_cmp rfl rfl rfl rfl (fun hc => ?_) (fun hc => ?_)<;>dsimp only [cmpP] at hc)|(refine oCv ?_;first
       |(refine oD 9 ?_; refine LA_call1 (f := 13) rfl rfl rfl _ (by intro u1 w' e hu1; obtain rfl : u1 = _ := hu1; exact hk1 w' e) ?_)
       |(refine oD 13 ?_; refine LA_call1 (f := 13) rfl rfl rfl _ (by intro u1 w' e hu1; obtain rfl : u1 = _ := hu1; exact hk2 w' e) ?_)
       |(refine oD 22 ?_; refine LA_call2 (f := fa) rfl rfl rfl rfl (.pred (ownI _ 29 .u16 (listS r 65536))) (by intro u1 u2 w' e hu1 hu2; obtain rfl : u1 = _ := hu1; obtain rfl : u2 = _ := hu2; exact (hD.a w' e _ _ (h1.ext e).slI (h2.ext e).slI).mono (ret_base e.size)) ?_)
       |(refine oD 40 ?_; refine LA_call2 (f := fr) rfl rfl rfl rfl (.pred (ownR _ 70 (runsL r))) (by intro u1 u2 w' e hu1 hu2; obtain rfl : u1 = _ := hu1; obtain rfl : u2 = _ := hu2; exact (hD.r w' e _ _ (h1.ext e).slR (h2.ext e).slR).mono (ret_baseR e.size rfl)) ?_)
       |(refine oD 46 ?_; refine LA_call1 (f := 32) rfl rfl rfl (.pred (ownI _ 66 .u64 (wordsOf p))) (by intro u1 w' e hu1; obtain rfl : u1 = _ := hu1; exact (hw1 w' e).mono (ret_base e.size)) ?_)
       |(refine oD 48 ?_; refine LA_call1 (f := 32) rfl rfl rfl (.pred (ownI _ 66 .u64 (wordsOf q))) (by intro u1 w' e hu1; obtain rfl : u1 = _ := hu1; exact (hw2 w' e).mono (ret_base e.size)) ?_)
       |(refine oD 49 ?_; refine LA_call2 (f := fw) rfl rfl rfl rfl (.pred (ownI _ 66 .u64 (wordsOf r))) (by intro u1 u2 w' e hu1 hu2; exact (hD.w w' e _ _ (OwnI.slI hu1) (OwnI.slI hu2)).mono (ret_base e.size)) ?_)
       |(refine oC 12 ?_; refine LA_call1 (f := 12) rfl rfl rfl  (.pred (cnP A r (kindP r))) (by intro u1 w e hu1; (try obtain rfl : u1 = _ := hu1); exact by obtain ⟨u, rfl, hu⟩ := hu1; exact canon_c (Cn.wrd hr rfl hu hA) (hT.ext e) (hA.ext e)) ?_))|(refine LA_nil (hK [] _ (LX_nil ?_));clear hK K)|(refine LA_nil (hK _ ?_);clear hK K))
       |(refine oCX ?_;first
       |refine CX_regionS 9 rfl (by kernel_rfl) (by kernel_rfl) (fun K hK => ?_)
       |refine wCX ?_|(refine wCR ?_;intro K hK))
       |(refine oPX ?_;first
       |refine wPX ?_
       |exact PX_retC rfl rfl rfl rfl rfl (by assumption))
       |(refine oLX ?_;first
       |refine LX_nil ?_))
      all_goals skip

    · skip
      refine Fc.of (args := [_, _, _]) Tryd.func52 rfl rfl Tryd.ntmps52 (Nat.le_of_ble_eq_true rfl) ?_
      repeat' (first
       |(refine oLA ?_;first
       |refine LA_pass rfl ?_
       |refine wRcv ?_
       |refine LA_alloc rfl (fun _ => rfl) ?_
       |(refine oFa ?_; refine LA_fieldC (f := 0) (o := 0) rfl rfl (fun _ _ => rfl) ?_)
       |(refine oFa ?_; refine LA_fieldC (f := 1) (o := 1) rfl rfl (fun _ _ => rfl) ?_)
       |(refine oFa ?_; refine LA_fieldC (f := 2) (o := 2) rfl rfl (fun _ _ => rfl) ?_)
       |(refine oLd ?_; refine LA_loadH rfl (fun _ => rfl) rfl rfl ?_)
       |(refine oD 23 ?_; refine LA_build2P (j1 := 1) (c := fun u => .agg #[.int .u8 1, u, .slice none 0 0, .slice none 0 0]) rfl rfl rfl (fun v1 w1 hv1 => by obtain ⟨a', c', rfl⟩ := (OwnI.slI hv1).isSlice; kernel_rfl) ?_)
       |(refine oD 41 ?_; refine LA_build2P (j1 := 3) (c := fun u => .agg #[.int .u8 3, .slice none 0 0, .slice none 0 0, u]) rfl rfl rfl (fun v1 w1 hv1 => by obtain ⟨a', c', rfl⟩ := (OwnR.slR hv1).isSlice; kernel_rfl) ?_)
       |(refine oD 50 ?_; refine LA_build2P (j1 := 2) (c := fun u => .agg #[.int .u8 2, .slice none 0 0, u, .slice none 0 0]) rfl rfl rfl (fun v1 w1 hv1 => by obtain ⟨a', c', rfl⟩ := (OwnI.slI hv1).isSlice; kernel_rfl) ?_)
       |(refine LA_stop (hK _ _ (LX_put (φ := cnP A r (kindP r)) (w0 := w) rfl rfl rfl lays_cn (fun v' w' e hv => hv) rfl (fun _ => rfl) (Ext.refl _) (fun w' e' => ?_))); clear hK K)
       |(refine LA_stop (hK _ _ rfl (LX_put (φ := cnP A r (kindP r)) (w0 := w) rfl rfl rfl lays_cn (fun v' w' e hv => hv) rfl (fun _ => rfl) (Ext.refl _) (fun w' e' => ?_))); clear hK K)|(refine wOpB ?_;try dsimp only [Int.reduceToNat, Int.reducePow])|refine wOp ?_|(refine wOpD ?_;try dsimp only [Int.reduceToNat, Int.toNat_natCast])|(refine LA_cmp rfl rfl rfl rfl (fun hc => ?_) (fun hc => ?_)<;>dsimp only [cmpP] at hc)|(refine oCv ?_;first
       |(refine oD 9 ?_; refine LA_call1 (f := 13) rfl rfl rfl _ (by intro u1 w' e hu1; obtain rfl : u1 = _ := hu1; exact hk1 w' e) ?_)
       |(refine oD 13 ?_; refine LA_call1 (f := 13) rfl rfl rfl _ (by intro u1 w' e hu1; obtain rfl : u1 = _ := hu1; exact hk2 w' e) ?_)
       |(refine oD 22 ?_; refine LA_call2 (f := fa) rfl rfl rfl rfl (.pred (ownI _ 29 .u16 (listS r 65536))) (by intro u1 u2 w' e hu1 hu2; obtain rfl : u1 = _ := hu1; obtain rfl : u2 = _ := hu2; exact (hD.a w' e _ _ (h1.ext e).slI (h2.ext e).slI).mono (ret_base e.size)) ?_)
       |(refine oD 40 ?_; refine LA_call2 (f := fr) rfl rfl rfl rfl (.pred (ownR _ 70 (runsL r))) (by intro u1 u2 w' e hu1 hu2; obtain rfl : u1 = _ := hu1; obtain rfl : u2 = _ := hu2; exact (hD.r w' e _ _ (h1.ext e).slR (h2.ext e).slR).mono (ret_baseR e.size rfl)) ?_)
       |(refine oD 46 ?_; refine LA_call1 (f := 32) rfl rfl rfl (.pred (ownI _ 66 .u64 (wordsOf p))) (by intro u1 w' e hu1; obtain rfl : u1 = _ := hu1; exact (hw1 w' e).mono (ret_base e.size)) ?_)
       |(refine oD 48 ?_; refine LA_call1 (f := 32) rfl rfl rfl (.pred (ownI _ 66 .u64 (wordsOf q))) (by intro u1 w' e hu1; obtain rfl : u1 = _ := hu1; exact (hw2 w' e).mono (ret_base e.size)) ?_)
       |(refine oD 49 ?_; refine LA_call2 (f := fw) rfl rfl rfl rfl (.pred (ownI _ 66 .u64 (wordsOf r))) (by intro u1 u2 w' e hu1 hu2; exact (hD.w w' e _ _ (OwnI.slI hu1) (OwnI.slI hu2)).mono (ret_base e.size)) ?_)
       |(refine oC 12 ?_; refine LA_call1 (f := 12) rfl rfl rfl  (.pred (cnP A r (kindP r))) (by intro u1 w e hu1; (try obtain rfl : u1 = _ := hu1); exact by obtain ⟨u, rfl, hu⟩ := hu1; exact canon_c (Cn.wrd hr rfl hu hA) (hT.ext e) (hA.ext e)) ?_))|(refine LA_nil (hK [] _ (LX_nil ?_));clear hK K)|(refine LA_nil (hK _ ?_);clear hK K))
       |(refine oCX ?_;first
       |refine CX_regionS 9 rfl (by kernel_rfl) (by kernel_rfl) (fun K hK => ?_)
       |refine wCX ?_|(refine wCR ?_;intro K hK))
       |(refine oPX ?_;first
       |refine wPX ?_
       |exact PX_retC rfl rfl rfl rfl rfl (by assumption))
       |(refine oLX ?_;first
       |refine LX_nil ?_))
      all_goals skip

    · skip
      refine Fc.of (args := [_, _, _]) Tryd.func52 rfl rfl Tryd.ntmps52 (Nat.le_of_ble_eq_true rfl) ?_
      repeat' (first
       |(refine oLA ?_;first
       |refine LA_pass rfl ?_
       |refine wRcv ?_
       |refine LA_alloc rfl (fun _ => rfl) ?_
       |(refine oFa ?_; refine LA_fieldC (f := 0) (o := 0) rfl rfl (fun _ _ => rfl) ?_)
       |(refine oFa ?_; refine LA_fieldC (f := 1) (o := 1) rfl rfl (fun _ _ => rfl) ?_)
       |(refine oFa ?_; refine LA_fieldC (f := 2) (o := 2) rfl rfl (fun _ _ => rfl) ?_)
       |(refine oLd ?_; refine LA_loadH rfl (fun _ => rfl) rfl rfl ?_)
       |(refine oD 23 ?_; refine LA_build2P (j1 := 1) (c := fun u => .agg #[.int .u8 1, u, .slice none 0 0, .slice none 0 0]) rfl rfl rfl (fun v1 w1 hv1 => by obtain ⟨a', c', rfl⟩ := (OwnI.slI hv1).isSlice; kernel_rfl) ?_)
       |(refine oD 41 ?_; refine LA_build2P (j1 := 3) (c := fun u => .agg #[.int .u8 3, .slice none 0 0, .slice none 0 0, u]) rfl rfl rfl (fun v1 w1 hv1 => by obtain ⟨a', c', rfl⟩ := (OwnR.slR hv1).isSlice; kernel_rfl) ?_)
       |(refine oD 50 ?_; refine LA_build2P (j1 := 2) (c := fun u => .agg #[.int .u8 2, .slice none 0 0, u, .slice none 0 0]) rfl rfl rfl (fun v1 w1 hv1 => by obtain ⟨a', c', rfl⟩ := (OwnI.slI hv1).isSlice; kernel_rfl) ?_)
       |(refine LA_stop (hK _ _ (LX_put (φ := cnP A r (kindP r)) (w0 := w) rfl rfl rfl lays_cn (fun v' w' e hv => hv) rfl (fun _ => rfl) (Ext.refl _) (fun w' e' => ?_))); clear hK K)
       |(refine LA_stop (hK _ _ rfl (LX_put (φ := cnP A r (kindP r)) (w0 := w) rfl rfl rfl lays_cn (fun v' w' e hv => hv) rfl (fun _ => rfl) (Ext.refl _) (fun w' e' => ?_))); clear hK K)|(refine wOpB ?_;try dsimp only [Int.reduceToNat, Int.reducePow])|refine wOp ?_|(refine wOpD ?_;try dsimp only [Int.reduceToNat, Int.toNat_natCast])|(refine LA_cmp rfl rfl rfl rfl (fun hc => ?_) (fun hc => ?_)<;>dsimp only [cmpP] at hc)|(refine oCv ?_;first
       |(refine oD 9 ?_; refine LA_call1 (f := 13) rfl rfl rfl _ (by intro u1 w' e hu1; obtain rfl : u1 = _ := hu1; exact hk1 w' e) ?_)
       |(refine oD 13 ?_; refine LA_call1 (f := 13) rfl rfl rfl _ (by intro u1 w' e hu1; obtain rfl : u1 = _ := hu1; exact hk2 w' e) ?_)
       |(refine oD 22 ?_; refine LA_call2 (f := fa) rfl rfl rfl rfl (.pred (ownI _ 29 .u16 (listS r 65536))) (by intro u1 u2 w' e hu1 hu2; obtain rfl : u1 = _ := hu1; obtain rfl : u2 = _ := hu2; exact (hD.a w' e _ _ (h1.ext e).slI (h2.ext e).slI).mono (ret_base e.size)) ?_)
       |(refine oD 40 ?_; refine LA_call2 (f := fr) rfl rfl rfl rfl (.pred (ownR _ 70 (runsL r))) (by intro u1 u2 w' e hu1 hu2; obtain rfl : u1 = _ := hu1; obtain rfl : u2 = _ := hu2; exact (hD.r w' e _ _ (h1.ext e).slR (h2.ext e).slR).mono (ret_baseR e.size rfl)) ?_)
       |(refine oD 46 ?_; refine LA_call1 (f := 32) rfl rfl rfl (.pred (ownI _ 66 .u64 (wordsOf p))) (by intro u1 w' e hu1; obtain rfl : u1 = _ := hu1; exact (hw1 w' e).mono (ret_base e.size)) ?_)
       |(refine oD 48 ?_; refine LA_call1 (f := 32) rfl rfl rfl (.pred (ownI _ 66 .u64 (wordsOf q))) (by intro u1 w' e hu1; obtain rfl : u1 = _ := hu1; exact (hw2 w' e).mono (ret_base e.size)) ?_)
       |(refine oD 49 ?_; refine LA_call2 (f := fw) rfl rfl rfl rfl (.pred (ownI _ 66 .u64 (wordsOf r))) (by intro u1 u2 w' e hu1 hu2; exact (hD.w w' e _ _ (OwnI.slI hu1) (OwnI.slI hu2)).mono (ret_base e.size)) ?_)
       |(refine oC 12 ?_; refine LA_call1 (f := 12) rfl rfl rfl  (.pred (cnP A r (kindP r))) (by intro u1 w e hu1; (try obtain rfl : u1 = _ := hu1); exact by obtain ⟨u, rfl, hu⟩ := hu1; exact canon_c (Cn.wrd hr rfl hu hA) (hT.ext e) (hA.ext e)) ?_))|(refine LA_nil (hK [] _ (LX_nil ?_));clear hK K)|(refine LA_nil (hK _ ?_);clear hK K))
       |(refine oCX ?_;first
       |refine CX_regionS 9 rfl (by kernel_rfl) (by kernel_rfl) (fun K hK => ?_)
       |refine wCX ?_|(refine wCR ?_;intro K hK))
       |(refine oPX ?_;first
       |refine wPX ?_
       |exact PX_retC rfl rfl rfl rfl rfl (by assumption))
       |(refine oLX ?_;first
       |refine LX_nil ?_))
      all_goals skip

  · obtain ⟨hq, ⟨rfl, kd', va', hkd', rfl, h2⟩ | ⟨rfl, vw', rfl, h2⟩ | ⟨rfl, vr', rfl, h2⟩⟩ := ho
    · skip
      refine Fc.of (args := [_, _, _]) Tryd.func52 rfl rfl Tryd.ntmps52 (Nat.le_of_ble_eq_true rfl) ?_
      repeat' (first
       |(refine oLA ?_;first
       |refine LA_pass rfl ?_
       |refine wRcv ?_
       |refine LA_alloc rfl (fun _ => rfl) ?_
       |(refine oFa ?_; refine LA_fieldC (f := 0) (o := 0) rfl rfl (fun _ _ => rfl) ?_)
       |(refine oFa ?_; refine LA_fieldC (f := 1) (o := 1) rfl rfl (fun _ _ => rfl) ?_)
       |(refine oFa ?_; refine LA_fieldC (f := 2) (o := 2) rfl rfl (fun _ _ => rfl) ?_)
       |(refine oLd ?_; refine LA_loadH rfl (fun _ => rfl) rfl rfl ?_)
       |(refine oD 23 ?_; refine LA_build2P (j1 := 1) (c := fun u => .agg #[.int .u8 1, u, .slice none 0 0, .slice none 0 0]) rfl rfl rfl (fun v1 w1 hv1 => by obtain ⟨a', c', rfl⟩ := (OwnI.slI hv1).isSlice; kernel_rfl) ?_)
       |(refine oD 41 ?_; refine LA_build2P (j1 := 3) (c := fun u => .agg #[.int .u8 3, .slice none 0 0, .slice none 0 0, u]) rfl rfl rfl (fun v1 w1 hv1 => by obtain ⟨a', c', rfl⟩ := (OwnR.slR hv1).isSlice; kernel_rfl) ?_)
       |(refine oD 50 ?_; refine LA_build2P (j1 := 2) (c := fun u => .agg #[.int .u8 2, .slice none 0 0, u, .slice none 0 0]) rfl rfl rfl (fun v1 w1 hv1 => by obtain ⟨a', c', rfl⟩ := (OwnI.slI hv1).isSlice; kernel_rfl) ?_)
       |(refine LA_stop (hK _ _ (LX_put (φ := cnP A r (kindP r)) (w0 := w) rfl rfl rfl lays_cn (fun v' w' e hv => hv) rfl (fun _ => rfl) (Ext.refl _) (fun w' e' => ?_))); clear hK K)
       |(refine LA_stop (hK _ _ rfl (LX_put (φ := cnP A r (kindP r)) (w0 := w) rfl rfl rfl lays_cn (fun v' w' e hv => hv) rfl (fun _ => rfl) (Ext.refl _) (fun w' e' => ?_))); clear hK K)|(refine wOpB ?_;try dsimp only [Int.reduceToNat, Int.reducePow])|refine wOp ?_|(refine wOpD ?_;try dsimp only [Int.reduceToNat, Int.toNat_natCast])|(refine LA_cmp rfl rfl rfl rfl (fun hc => ?_) (fun hc => ?_)<;>dsimp only [cmpP] at hc)|(refine oCv ?_;first
       |(refine oD 9 ?_; refine LA_call1 (f := 13) rfl rfl rfl _ (by intro u1 w' e hu1; obtain rfl : u1 = _ := hu1; exact hk1 w' e) ?_)
       |(refine oD 13 ?_; refine LA_call1 (f := 13) rfl rfl rfl _ (by intro u1 w' e hu1; obtain rfl : u1 = _ := hu1; exact hk2 w' e) ?_)
       |(refine oD 22 ?_; refine LA_call2 (f := fa) rfl rfl rfl rfl (.pred (ownI _ 29 .u16 (listS r 65536))) (by intro u1 u2 w' e hu1 hu2; obtain rfl : u1 = _ := hu1; obtain rfl : u2 = _ := hu2; exact (hD.a w' e _ _ (h1.ext e).slI (h2.ext e).slI).mono (ret_base e.size)) ?_)
       |(refine oD 40 ?_; refine LA_call2 (f := fr) rfl rfl rfl rfl (.pred (ownR _ 70 (runsL r))) (by intro u1 u2 w' e hu1 hu2; obtain rfl : u1 = _ := hu1; obtain rfl : u2 = _ := hu2; exact (hD.r w' e _ _ (h1.ext e).slR (h2.ext e).slR).mono (ret_baseR e.size rfl)) ?_)
       |(refine oD 46 ?_; refine LA_call1 (f := 32) rfl rfl rfl (.pred (ownI _ 66 .u64 (wordsOf p))) (by intro u1 w' e hu1; obtain rfl : u1 = _ := hu1; exact (hw1 w' e).mono (ret_base e.size)) ?_)
       |(refine oD 48 ?_; refine LA_call1 (f := 32) rfl rfl rfl (.pred (ownI _ 66 .u64 (wordsOf q))) (by intro u1 w' e hu1; obtain rfl : u1 = _ := hu1; exact (hw2 w' e).mono (ret_base e.size)) ?_)
       |(refine oD 49 ?_; refine LA_call2 (f := fw) rfl rfl rfl rfl (.pred (ownI _ 66 .u64 (wordsOf r))) (by intro u1 u2 w' e hu1 hu2; exact (hD.w w' e _ _ (OwnI.slI hu1) (OwnI.slI hu2)).mono (ret_base e.size)) ?_)
       |(refine oC 12 ?_; refine LA_call1 (f := 12) rfl rfl rfl  (.pred (cnP A r (kindP r))) (by intro u1 w e hu1; (try obtain rfl : u1 = _ := hu1); exact by obtain ⟨u, rfl, hu⟩ := hu1; exact canon_c (Cn.wrd hr rfl hu hA) (hT.ext e) (hA.ext e)) ?_))|(refine LA_nil (hK [] _ (LX_nil ?_));clear hK K)|(refine LA_nil (hK _ ?_);clear hK K))
       |(refine oCX ?_;first
       |refine CX_regionS 9 rfl (by kernel_rfl) (by kernel_rfl) (fun K hK => ?_)
       |refine wCX ?_|(refine wCR ?_;intro K hK))
       |(refine oPX ?_;first
       |refine wPX ?_
       |exact PX_retC rfl rfl rfl rfl rfl (by assumption))
       |(refine oLX ?_;first
       |refine LX_nil ?_))
      all_goals skip

    · skip
      refine Fc.of (args := [_, _, _]) Tryd.func52 rfl rfl Tryd.ntmps52 (Nat.le_of_ble_eq_true rfl) ?_
      repeat' (first
       |(refine oLA ?_;first
       |refine LA_pass rfl ?_
       |refine wRcv ?_
       |refine LA_alloc rfl (fun _ => rfl) ?_
       |(refine oFa ?_; refine LA_fieldC (f := 0) (o := 0) rfl rfl (fun _ _ => rfl) ?_)
       |(refine oFa ?_; refine LA_fieldC (f := 1) (o := 1) rfl rfl (fun _ _ => rfl) ?_)
       |(refine oFa ?_; refine LA_fieldC (f := 2) (o := 2) rfl rfl (fun _ _ => rfl) ?_)
       |(refine oLd ?_; refine LA_loadH rfl (fun _ => rfl) rfl rfl ?_)
       |(refine oD 23 ?_; refine LA_build2P (j1 := 1) (c := fun u => .agg #[.int .u8 1, u, .slice none 0 0, .slice none 0 0]) rfl rfl rfl (fun v1 w1 hv1 => by obtain ⟨a', c', rfl⟩ := (OwnI.slI hv1).isSlice; kernel_rfl) ?_)
       |(refine oD 41 ?_; refine LA_build2P (j1 := 3) (c := fun u => .agg #[.int .u8 3, .slice none 0 0, .slice none 0 0, u]) rfl rfl rfl (fun v1 w1 hv1 => by obtain ⟨a', c', rfl⟩ := (OwnR.slR hv1).isSlice; kernel_rfl) ?_)
       |(refine oD 50 ?_; refine LA_build2P (j1 := 2) (c := fun u => .agg #[.int .u8 2, .slice none 0 0, u, .slice none 0 0]) rfl rfl rfl (fun v1 w1 hv1 => by obtain ⟨a', c', rfl⟩ := (OwnI.slI hv1).isSlice; kernel_rfl) ?_)
       |(refine LA_stop (hK _ _ (LX_put (φ := cnP A r (kindP r)) (w0 := w) rfl rfl rfl lays_cn (fun v' w' e hv => hv) rfl (fun _ => rfl) (Ext.refl _) (fun w' e' => ?_))); clear hK K)
       |(refine LA_stop (hK _ _ rfl (LX_put (φ := cnP A r (kindP r)) (w0 := w) rfl rfl rfl lays_cn (fun v' w' e hv => hv) rfl (fun _ => rfl) (Ext.refl _) (fun w' e' => ?_))); clear hK K)|(refine wOpB ?_;try dsimp only [Int.reduceToNat, Int.reducePow])|refine wOp ?_|(refine wOpD ?_;try dsimp only [Int.reduceToNat, Int.toNat_natCast])|(refine LA_cmp rfl rfl rfl rfl (fun hc => ?_) (fun hc => ?_)<;>dsimp only [cmpP] at hc)|(refine oCv ?_;first
       |(refine oD 9 ?_; refine LA_call1 (f := 13) rfl rfl rfl _ (by intro u1 w' e hu1; obtain rfl : u1 = _ := hu1; exact hk1 w' e) ?_)
       |(refine oD 13 ?_; refine LA_call1 (f := 13) rfl rfl rfl _ (by intro u1 w' e hu1; obtain rfl : u1 = _ := hu1; exact hk2 w' e) ?_)
       |(refine oD 22 ?_; refine LA_call2 (f := fa) rfl rfl rfl rfl (.pred (ownI _ 29 .u16 (listS r 65536))) (by intro u1 u2 w' e hu1 hu2; obtain rfl : u1 = _ := hu1; obtain rfl : u2 = _ := hu2; exact (hD.a w' e _ _ (h1.ext e).slI (h2.ext e).slI).mono (ret_base e.size)) ?_)
       |(refine oD 40 ?_; refine LA_call2 (f := fr) rfl rfl rfl rfl (.pred (ownR _ 70 (runsL r))) (by intro u1 u2 w' e hu1 hu2; obtain rfl : u1 = _ := hu1; obtain rfl : u2 = _ := hu2; exact (hD.r w' e _ _ (h1.ext e).slR (h2.ext e).slR).mono (ret_baseR e.size rfl)) ?_)
       |(refine oD 46 ?_; refine LA_call1 (f := 32) rfl rfl rfl (.pred (ownI _ 66 .u64 (wordsOf p))) (by intro u1 w' e hu1; obtain rfl : u1 = _ := hu1; exact (hw1 w' e).mono (ret_base e.size)) ?_)
       |(refine oD 48 ?_; refine LA_call1 (f := 32) rfl rfl rfl (.pred (ownI _ 66 .u64 (wordsOf q))) (by intro u1 w' e hu1; obtain rfl : u1 = _ := hu1; exact (hw2 w' e).mono (ret_base e.size)) ?_)
       |(refine oD 49 ?_; refine LA_call2 (f := fw) rfl rfl rfl rfl (.pred (ownI _ 66 .u64 (wordsOf r))) (by intro u1 u2 w' e hu1 hu2; exact (hD.w w' e _ _ (OwnI.slI hu1) (OwnI.slI hu2)).mono (ret_base e.size)) ?_)
       |(refine oC 12 ?_; refine LA_call1 (f := 12) rfl rfl rfl  (.pred (cnP A r (kindP r))) (by intro u1 w e hu1; (try obtain rfl : u1 = _ := hu1); exact by obtain ⟨u, rfl, hu⟩ := hu1; exact canon_c (Cn.wrd hr rfl hu hA) (hT.ext e) (hA.ext e)) ?_))|(refine LA_nil (hK [] _ (LX_nil ?_));clear hK K)|(refine LA_nil (hK _ ?_);clear hK K))
       |(refine oCX ?_;first
       |refine CX_regionS 9 rfl (by kernel_rfl) (by kernel_rfl) (fun K hK => ?_)
       |refine wCX ?_|(refine wCR ?_;intro K hK))
       |(refine oPX ?_;first
       |refine wPX ?_
       |exact PX_retC rfl rfl rfl rfl rfl (by assumption))
       |(refine oLX ?_;first
       |refine LX_nil ?_))
      all_goals skip

    · skip
      refine Fc.of (args := [_, _, _]) Tryd.func52 rfl rfl Tryd.ntmps52 (Nat.le_of_ble_eq_true rfl) ?_
      repeat' (first
       |(refine oLA ?_;first
       |refine LA_pass rfl ?_
       |refine wRcv ?_
       |refine LA_alloc rfl (fun _ => rfl) ?_
       |(refine oFa ?_; refine LA_fieldC (f := 0) (o := 0) rfl rfl (fun _ _ => rfl) ?_)
       |(refine oFa ?_; refine LA_fieldC (f := 1) (o := 1) rfl rfl (fun _ _ => rfl) ?_)
       |(refine oFa ?_; refine LA_fieldC (f := 2) (o := 2) rfl rfl (fun _ _ => rfl) ?_)
       |(refine oLd ?_; refine LA_loadH rfl (fun _ => rfl) rfl rfl ?_)
       |(refine oD 23 ?_; refine LA_build2P (j1 := 1) (c := fun u => .agg #[.int .u8 1, u, .slice none 0 0, .slice none 0 0]) rfl rfl rfl (fun v1 w1 hv1 => by obtain ⟨a', c', rfl⟩ := (OwnI.slI hv1).isSlice; kernel_rfl) ?_)
       |(refine oD 41 ?_; refine LA_build2P (j1 := 3) (c := fun u => .agg #[.int .u8 3, .slice none 0 0, .slice none 0 0, u]) rfl rfl rfl (fun v1 w1 hv1 => by obtain ⟨a', c', rfl⟩ := (OwnR.slR hv1).isSlice; kernel_rfl) ?_)
       |(refine oD 50 ?_; refine LA_build2P (j1 := 2) (c := fun u => .agg #[.int .u8 2, .slice none 0 0, u, .slice none 0 0]) rfl rfl rfl (fun v1 w1 hv1 => by obtain ⟨a', c', rfl⟩ := (OwnI.slI hv1).isSlice; kernel_rfl) ?_)
       |(refine LA_stop (hK _ _ (LX_put (φ := cnP A r (kindP r)) (w0 := w) rfl rfl rfl lays_cn (fun v' w' e hv => hv) rfl (fun _ => rfl) (Ext.refl _) (fun w' e' => ?_))); clear hK K)
       |(refine LA_stop (hK _ _ rfl (LX_put (φ := cnP A r (kindP r)) (w0 := w) rfl rfl rfl lays_cn (fun v' w' e hv => hv) rfl (fun _ => rfl) (Ext.refl _) (fun w' e' => ?_))); clear hK K)|(refine wOpB ?_;try dsimp only [Int.reduceToNat, Int.reducePow])|refine wOp ?_|(refine wOpD ?_;try dsimp only [Int.reduceToNat, Int.toNat_natCast])|(refine LA_cmp rfl rfl rfl rfl (fun hc => ?_) (fun hc => ?_)<;>dsimp only [cmpP] at hc)|(refine oCv ?_;first
       |(refine oD 9 ?_; refine LA_call1 (f := 13) rfl rfl rfl _ (by intro u1 w' e hu1; obtain rfl : u1 = _ := hu1; exact hk1 w' e) ?_)
       |(refine oD 13 ?_; refine LA_call1 (f := 13) rfl rfl rfl _ (by intro u1 w' e hu1; obtain rfl : u1 = _ := hu1; exact hk2 w' e) ?_)
       |(refine oD 22 ?_; refine LA_call2 (f := fa) rfl rfl rfl rfl (.pred (ownI _ 29 .u16 (listS r 65536))) (by intro u1 u2 w' e hu1 hu2; obtain rfl : u1 = _ := hu1; obtain rfl : u2 = _ := hu2; exact (hD.a w' e _ _ (h1.ext e).slI (h2.ext e).slI).mono (ret_base e.size)) ?_)
       |(refine oD 40 ?_; refine LA_call2 (f := fr) rfl rfl rfl rfl (.pred (ownR _ 70 (runsL r))) (by intro u1 u2 w' e hu1 hu2; obtain rfl : u1 = _ := hu1; obtain rfl : u2 = _ := hu2; exact (hD.r w' e _ _ (h1.ext e).slR (h2.ext e).slR).mono (ret_baseR e.size rfl)) ?_)
       |(refine oD 46 ?_; refine LA_call1 (f := 32) rfl rfl rfl (.pred (ownI _ 66 .u64 (wordsOf p))) (by intro u1 w' e hu1; obtain rfl : u1 = _ := hu1; exact (hw1 w' e).mono (ret_base e.size)) ?_)
       |(refine oD 48 ?_; refine LA_call1 (f := 32) rfl rfl rfl (.pred (ownI _ 66 .u64 (wordsOf q))) (by intro u1 w' e hu1; obtain rfl : u1 = _ := hu1; exact (hw2 w' e).mono (ret_base e.size)) ?_)
       |(refine oD 49 ?_; refine LA_call2 (f := fw) rfl rfl rfl rfl (.pred (ownI _ 66 .u64 (wordsOf r))) (by intro u1 u2 w' e hu1 hu2; exact (hD.w w' e _ _ (OwnI.slI hu1) (OwnI.slI hu2)).mono (ret_base e.size)) ?_)
       |(refine oC 12 ?_; refine LA_call1 (f := 12) rfl rfl rfl  (.pred (cnP A r (kindP r))) (by intro u1 w e hu1; (try obtain rfl : u1 = _ := hu1); exact by obtain ⟨u, rfl, hu⟩ := hu1; exact canon_c (Cn.rns hr rfl hu hA) (hT.ext e) (hA.ext e)) ?_))|(refine LA_nil (hK [] _ (LX_nil ?_));clear hK K)|(refine LA_nil (hK _ ?_);clear hK K))
       |(refine oCX ?_;first
       |refine CX_regionS 9 rfl (by kernel_rfl) (by kernel_rfl) (fun K hK => ?_)
       |refine wCX ?_|(refine wCR ?_;intro K hK))
       |(refine oPX ?_;first
       |refine wPX ?_
       |exact PX_retC rfl rfl rfl rfl rfl (by assumption))
       |(refine oLX ?_;first
       |refine LX_nil ?_))
      all_goals skip

end Go.Proofs.YtjiacignpmabcaaDoor
