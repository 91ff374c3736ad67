import Derived.Test.YtjiacignpmabcaaDoorC9

set_option linter.unusedSimpArgs false
set_option linter.unusedVariables false
set_option maxRecDepth 3000
namespace Go.Proofs.YtjiacignpmabcaaDoor
open Go.LA Go.ArrP Go.RowKit
variable {A : Nat → Prop}
theorem sift1_c {w : World} {a : Addr} {fv : Value} {q : Nat → Bool} {x : Nat} (hc : w.cell? a = some fv) (hF : Tells w fv q) (hx : x < 65536) : Fc Tryd.prog 80 #[.int .u16 x, .pointer (some a)] w (Ret w (.val (.bool (!q x)))) := by
  have h0 : ∀ w', Ext w w' → _ := fun w' e => hF w' e x hx
  refine Fc.of (args := [_, _]) Tryd.func80 rfl rfl Tryd.ntmps80 (Nat.le_of_ble_eq_true rfl) ?_
  repeat' (first
   |(refine oLA ?_;first
   |refine LA_pass rfl ?_
   |(refine oLd ?_; refine LA_loadV rfl (fun _ => rfl) rfl hc ?_)|(refine wOpB ?_;try dsimp only [Int.reduceToNat, Int.reducePow])|refine wOp ?_|(refine wOpD ?_;try dsimp only [Int.reduceToNat, Int.toNat_natCast])|(refine LA_cmp rfl rfl rfl rfl (fun hc => ?_) (fun hc => ?_)<;>dsimp only [cmpP] at hc)|(refine oCv ?_;first
   |(refine LA_callV1 rfl rfl rfl (.val (.bool (q x))) (by intro vf u1 w' e hf hu1; obtain rfl : vf = _ := hf; obtain rfl : u1 = _ := hu1; exact h0 w' e) ?_))|(refine LA_nil (hK [] _ (LX_nil ?_));clear hK K)|(refine LA_nil (hK _ ?_);clear hK K))
   |(refine oCX ?_;first
   |refine wCX ?_|(refine wCR ?_;intro K hK))
   |(refine oPX ?_;first
   |refine wPX ?_
   |exact PX_retE rfl rfl (Ext.refl _) rfl)
   |(refine oLX ?_;first
   |refine LX_nil ?_))
  all_goals skip
set_option maxHeartbeats 2000000 in
theorem sift_c {w : World} {va fv : Value} {p q : Nat → Bool} (ha : SlI .u16 w va (listS p 65536)) (hp : p 65536 = false) (hF : Tells w fv q) (hT : Tab w) (hA : Fsh A w) :
    Fc Tryd.prog 48 #[va, fv] w (Ret w (.pred (cnP A (fun i => p i && q i) (kindP (fun i => p i && q i))))) := by
  have hq : (fun i => p i && q i) 65536 = false := by simp [hp]
  have hks : keepS (fun i => !q i) (listS p 65536) = listS (fun i => p i && q i) 65536 := keepS_set p q 65536
  have hl := listS_low p
  have hn := len16 p
  obtain ⟨r, hr⟩ : ∃ r : Nat → Bool, r = fun i => p i && q i := ⟨_, rfl⟩
  rw [← hr] at hq hks ⊢
  obtain ⟨f, first, cap, rfl, -⟩ := hF w (Ext.refl _) 0 (by decide)
  refine Fc.of (args := [_, _]) Tryd.func48 rfl rfl Tryd.ntmps48 (Nat.le_of_ble_eq_true rfl) ?_
  repeat' (first
   |(refine oLA ?_;first
   |refine LA_pass rfl ?_
   |(refine oBx ?_; refine LA_boxC rfl rfl ?_)
   |refine LA_alloc rfl (fun _ => rfl) ?_
   |(refine oD 6 ?_; refine LA_stop (hK _ _ (LX_pick 3 rfl (fun v3 w3 e3 h3 => LX_pick 4 rfl (fun v4 w4 e4 h4 => ?_)))); clear hK K)|(refine wOpB ?_;try dsimp only [Int.reduceToNat, Int.reducePow])|refine wOp ?_|(refine wOpD ?_;try dsimp only [Int.reduceToNat, Int.toNat_natCast])|(refine LA_cmp rfl rfl rfl rfl (fun hc => ?_) (fun hc => ?_)<;>dsimp only [cmpP] at hc)|(refine LA_nil (hK [] _ (LX_nil ?_));clear hK K)|(refine LA_nil (hK _ ?_);clear hK K))
   |(refine oCX ?_;first
   |refine wCX ?_|(refine wCR ?_;intro K hK))
   |(refine oPX ?_;first
   |refine wPX ?_)
   |(refine oLX ?_;first
   |refine LX_nil ?_))
  obtain ⟨a3, rfl, hc3⟩ := h3
  have hc3 := hc3 0 _ rfl
  rw [Addr.add_zero'] at hc3
  obtain ⟨b4, hb4, rfl, hg4⟩ := h4
  have e34 := e3.trans e4
  have hF4 := hF.ext e34
  have hc4 := e4.cell hc3
  have hc1 : ∀ w', Ext w4 w' → Tells w' (.func (.func 80) #[] #[.pointer (some a3)]) (fun i => !q i) := fun w' e w2 e2 x hx => Clb.of1 (sift1_c ((e.trans e2).cell hc4) (hF4.ext (e.trans e2)) hx)
  refine LX_la (by kernel_rfl) (fun K hK => ?_)
  repeat' (first
   |(refine oLA ?_;first
   |refine LA_pass rfl ?_
   |(refine LA_stop (hK _ _ (LX_pick 6 rfl (fun v6 w6 e6 h6 => ?_))); clear hK K)|(refine wOpB ?_;try dsimp only [Int.reduceToNat, Int.reducePow])|refine wOp ?_|(refine wOpD ?_;try dsimp only [Int.reduceToNat, Int.toNat_natCast])|(refine LA_cmp rfl rfl rfl rfl (fun hc => ?_) (fun hc => ?_)<;>dsimp only [cmpP] at hc)|(refine oCv ?_;first
   |(refine oC 36 ?_; refine LA_call1 (f := 36) rfl rfl rfl  (.pred (ownI _ 29 .u16 (listS p 65536))) (by intro u1 w e hu1; (try obtain rfl : u1 = _ := hu1); exact (clone16_c _ _ _ (ha.ext (e34.trans e)) hn).mono (ret_base e.size)) ?_))|(refine LA_nil (hK [] _ (LX_nil ?_));clear hK K)|(refine LA_nil (hK _ ?_);clear hK K))
   |(refine oCX ?_;first
   |refine wCX ?_|(refine wCR ?_;intro K hK))
   |(refine oPX ?_;first
   |refine wPX ?_)
   |(refine oLX ?_;first
   |refine LX_nil ?_))
  have h6 : OwnI w4.heap.size 29 .u16 w6 v6 (listS p 65536) := h6
  refine LX_la (by kernel_rfl) (fun K hK => ?_)
  repeat' (first
   |(refine oLA ?_;first
   |refine LA_pass rfl ?_
   |(refine oD 7 ?_; refine LA_holds rfl rfl ?_)
   |(refine oD 8 ?_; refine LA_stop (hK _ _ (LX_pick 7 rfl (fun v7 w7 e7 h7 => ?_))); clear hK K)|(refine wOpB ?_;try dsimp only [Int.reduceToNat, Int.reducePow])|refine wOp ?_|(refine wOpD ?_;try dsimp only [Int.reduceToNat, Int.toNat_natCast])|(refine LA_cmp rfl rfl rfl rfl (fun hc => ?_) (fun hc => ?_)<;>dsimp only [cmpP] at hc)|(refine LA_nil (hK [] _ (LX_nil ?_));clear hK K)|(refine LA_nil (hK _ ?_);clear hK K))
   |(refine oCX ?_;first
   |refine wCX ?_|(refine wCR ?_;intro K hK))
   |(refine oPX ?_;first
   |refine wPX ?_)
   |(refine oLX ?_;first
   |refine LX_nil ?_))
  obtain ⟨c7, rfl, h7⟩ := h7
  obtain rfl : c7 = _ := h7
  refine LX_call2 (f := 79) rfl (by decide) rfl rfl rfl (fun v' w' => OwnI w4.heap.size 29 .u16 w' v' (listS r 65536) ∧ Ext w4 w') (fun w' e => by
    have := delf_c w4 w' (e6.trans (e7.trans e)) v6 _ (listS p 65536) (fun i => !q i) (h6.ext (e7.trans e)) hl hn (hc1 w4 (Ext.refl _))
    rw [hks] at this
    exact this) (fun v8 w8 h8 => ?_)
  obtain ⟨o8, x8⟩ := h8
  have hg8 := x8.block hg4
  have x08 := e34.trans x8
  have hT8 := hT.ext x08
  dsimp only [vals]
  refine LX_la (by kernel_rfl) (fun K hK => ?_)
  repeat' (first
   |(refine oLA ?_;first
   |refine LA_pass rfl ?_
   |(refine LA_build2 (c := .agg #[.int .u8 1, v8, .slice none 0 0, .slice none 0 0]) rfl rfl rfl (fun w1 => by obtain ⟨a', c', rfl⟩ := (OwnI.slI o8).isSlice; kernel_rfl) ?_)
   |(refine LA_stop (hK _ _ (LX_putV (φ := cnP A r (kindP r)) (w0 := w) rfl rfl hb4 hg8 rfl lays_cn (fun v' w' e hv => hv) rfl (fun _ => rfl) x08 (fun w' e' => ?_))); clear hK K)|(refine wOpB ?_;try dsimp only [Int.reduceToNat, Int.reducePow])|refine wOp ?_|(refine wOpD ?_;try dsimp only [Int.reduceToNat, Int.toNat_natCast])|(refine LA_cmp rfl rfl rfl rfl (fun hc => ?_) (fun hc => ?_)<;>dsimp only [cmpP] at hc)|(refine oCv ?_;first
   |(refine oC 12 ?_; refine LA_call1 (f := 12) rfl rfl rfl  (.pred (cnP A r (kindP r))) (by intro u1 w e hu1; (try obtain rfl : u1 = _ := hu1); exact canon_c (Cn.arr hq rfl (o8.ext e) (hA.ext e34)) (hT8.ext e) ((hA.ext x08).ext e)) ?_))|(refine LA_nil (hK [] _ (LX_nil ?_));clear hK K)|(refine LA_nil (hK _ ?_);clear hK K))
   |(refine oCX ?_;first
   |refine wCX ?_|(refine wCR ?_;intro K hK))
   |(refine oPX ?_;first
   |refine wPX ?_
   |exact PX_retC rfl rfl rfl rfl rfl (by assumption))
   |(refine oLX ?_;first
   |refine LX_nil ?_))
  all_goals skip
end Go.Proofs.YtjiacignpmabcaaDoor
