import Derived.Test.YtfcioiobhpcngaaGreatDoorProg
import Derived.WalkKit
import Derived.KernelRfl
import Derived.Laws.AppendOwnNone
import Derived.Scope
import Derived.Lib.Overlaps
import Derived.Laws.Externs
import Derived.Laws.OwnMore
import Init
import Derived.Laws.Tables
import Derived.Lib.TrailingZeros
import Derived.Laws.Bits64b
import Derived.ChangeSame
import Derived.ChangeSlices
import Derived.Laws.StructEq
import Derived.Maps.AppendAt
import Derived.Sort.AssemblyPlain
import Derived.Laws.Bits64
import Derived.Test.YtfcioiobhpcngaaGreatDoorM2
section
set_option linter.unusedSimpArgs false
set_option linter.unusedVariables false
set_option maxRecDepth 3000
namespace Go.Proofs.YtfcioiobhpcngaaGreatDoor
open Go.LA Go.ArrP Go.RowKit
variable {A : Nat → Prop}
structure Does (w0 : World) (fa fw fr : FuncId) (p q r : Nat → Bool) : Prop where
  a : ∀ w', Ext w0 w' → ∀ va vb, SlI .u16 w' va (adA p 65536) → SlI .u16 w' vb (adA q 65536) → Fc Tryz.prog fa #[va, vb] w' (Ret w' (.pred (bjA w'.heap.size 72 .u16 (adA r 65536))))
  w : ∀ w', Ext w0 w' → ∀ va vb, SlI .u64 w' va (wordsOf p) → SlI .u64 w' vb (wordsOf q) → Fc Tryz.prog fw #[va, vb] w' (Ret w' (.pred (bjA w'.heap.size 22 .u64 (wordsOf r))))
  r : ∀ w', Ext w0 w' → ∀ va vb, SlR w' va (aoA p) → SlR w' vb (aoA q) → Fc Tryz.prog fr #[va, vb] w' (Ret w' (.pred (ekA w'.heap.size 96 (aoA r))))
set_option maxHeartbeats 4000000 in
theorem do_c {w : World} {vc vo : Value} {p q r : Nat → Bool} {kc ko : Int} {fa fw fr : FuncId} (hc : Cn A w vc p kc) (ho : Cn A w vo q ko) (hD : Does w fa fw fr p q r) (hr : r 65536 = false) (hT : Tab w) (hA : Fsh A w) :
    Fc Tryz.prog 93 #[.agg #[.func (.func fa) #[] #[], .func (.func fw) #[] #[], .func (.func fr) #[] #[]], vc, vo] w (Ret w (.pred (cnP A r (aqA r)))) := by
  have hk1 : ∀ w', Ext w w' → _ := fun w' e => fcA (hc.ext e)
  have hk2 : ∀ w', Ext w w' → _ := fun w' e => fcA (ho.ext e)
  have hw1 : ∀ w', Ext w w' → _ := fun w' e => iwA (hc.ext e)
  have hw2 : ∀ w', Ext w w' → _ := fun w' e => iwA (ho.ext e)
  obtain ⟨hp, ⟨rfl, kd, va, hkd, rfl, h1⟩ | ⟨rfl, vw, rfl, h1⟩ | ⟨rfl, vr, rfl, h1⟩⟩ := hc
  · obtain ⟨hq, ⟨rfl, kd', va', hkd', rfl, h2⟩ | ⟨rfl, vw', rfl, h2⟩ | ⟨rfl, vr', rfl, h2⟩⟩ := ho
    · skip
      refine Fc.of (args := [_, _, _]) Tryz.func93 rfl rfl Tryz.ntmps93 (Nat.le_of_ble_eq_true rfl) ?_
      repeat' (first|(refine oLA ?_;first|refine a0A rfl ?_|refine dfA ?_|refine bgA rfl (fun _ => rfl) ?_|(refine oFa ?_; refine arA (f := 0) (o := 0) rfl rfl (fun _ _ => rfl) ?_)|(refine oFa ?_; refine arA (f := 1) (o := 1) rfl rfl (fun _ _ => rfl) ?_)|(refine oFa ?_; refine arA (f := 2) (o := 2) rfl rfl (fun _ _ => rfl) ?_)|(refine oLd ?_; refine cwA rfl (fun _ => rfl) rfl rfl ?_)|(refine oD 23 ?_; refine acA (j1 := 1) (c := fun u => .agg #[.int .u8 1, u, .slice none 0 0, .slice none 0 0]) rfl rfl rfl (fun v1 w1 hv1 => by obtain ⟨a', c', rfl⟩ := (OwnI.slI hv1).isSlice; kernel_rfl) ?_)|(refine oD 41 ?_; refine acA (j1 := 3) (c := fun u => .agg #[.int .u8 3, .slice none 0 0, .slice none 0 0, u]) rfl rfl rfl (fun v1 w1 hv1 => by obtain ⟨a', c', rfl⟩ := (OwnR.slR hv1).isSlice; kernel_rfl) ?_)|(refine oD 50 ?_; refine acA (j1 := 2) (c := fun u => .agg #[.int .u8 2, .slice none 0 0, u, .slice none 0 0]) rfl rfl rfl (fun v1 w1 hv1 => by obtain ⟨a', c', rfl⟩ := (OwnI.slI hv1).isSlice; kernel_rfl) ?_)|(refine a4A (hK _ _ (bvA (φ := cnP A r (aqA r)) (w0 := w) rfl rfl rfl b4A (fun v' w' e hv => hv) rfl (fun _ => rfl) (Ext.refl _) (fun w' e' => ?_))); clear hK K)|(refine a4A (hK _ _ rfl (bvA (φ := cnP A r (aqA r)) (w0 := w) rfl rfl rfl b4A (fun v' w' e hv => hv) rfl (fun _ => rfl) (Ext.refl _) (fun w' e' => ?_))); clear hK K)|refine wOp ?_|(refine wCm ?_ ?_<;>intro hc)|(refine oCv ?_;first|(refine oD 9 ?_; refine a1A (f := 82) rfl rfl rfl _ (by intro u1 w' e hu1; obtain rfl : u1 = _ := hu1; exact hk1 w' e) ?_)|(refine oD 13 ?_; refine a1A (f := 82) rfl rfl rfl _ (by intro u1 w' e hu1; obtain rfl : u1 = _ := hu1; exact hk2 w' e) ?_)|(refine oD 22 ?_; refine a3A (f := fa) rfl rfl rfl rfl (.pred (bjA _ 72 .u16 (adA r 65536))) (by intro u1 u2 w' e hu1 hu2; obtain rfl : u1 = _ := hu1; obtain rfl : u2 = _ := hu2; exact (hD.a w' e _ _ (h1.ext e).slI (h2.ext e).slI).mono (aaA e.size)) ?_)|(refine oD 40 ?_; refine a3A (f := fr) rfl rfl rfl rfl (.pred (ekA _ 96 (aoA r))) (by intro u1 u2 w' e hu1 hu2; obtain rfl : u1 = _ := hu1; obtain rfl : u2 = _ := hu2; exact (hD.r w' e _ _ (h1.ext e).slR (h2.ext e).slR).mono (azA e.size rfl)) ?_)|(refine oD 46 ?_; refine a1A (f := 34) rfl rfl rfl (.pred (bjA _ 22 .u64 (wordsOf p))) (by intro u1 w' e hu1; obtain rfl : u1 = _ := hu1; exact (hw1 w' e).mono (aaA e.size)) ?_)|(refine oD 48 ?_; refine a1A (f := 34) rfl rfl rfl (.pred (bjA _ 22 .u64 (wordsOf q))) (by intro u1 w' e hu1; obtain rfl : u1 = _ := hu1; exact (hw2 w' e).mono (aaA e.size)) ?_)|(refine oD 49 ?_; refine a3A (f := fw) rfl rfl rfl rfl (.pred (bjA _ 22 .u64 (wordsOf r))) (by intro u1 u2 w' e hu1 hu2; exact (hD.w w' e _ _ (OwnI.slI hu1) (OwnI.slI hu2)).mono (aaA e.size)) ?_)|(refine oC 75 ?_; refine a1A (f := 75) rfl rfl rfl  (.pred (cnP A r (aqA r))) (by intro u1 w e hu1; (try obtain rfl : u1 = _ := hu1); exact by obtain ⟨u, rfl, hu⟩ := hu1; exact d4A (Cn.arr hr rfl hu hA) (hT.ext e) (hA.ext e)) ?_))|(refine wNl hK ?_;clear hK K))|(refine oCX ?_;first|refine brA 9 rfl (by kernel_rfl) (by kernel_rfl) (fun K hK => ?_))|refine wG ?_|(refine wCR ?_;intro K hK)|(refine oPX ?_;first|exact bxA rfl rfl rfl rfl rfl (by assumption))|fail)
      all_goals skip
    · skip
      refine Fc.of (args := [_, _, _]) Tryz.func93 rfl rfl Tryz.ntmps93 (Nat.le_of_ble_eq_true rfl) ?_
      repeat' (first|(refine oLA ?_;first|refine a0A rfl ?_|refine dfA ?_|refine bgA rfl (fun _ => rfl) ?_|(refine oFa ?_; refine arA (f := 0) (o := 0) rfl rfl (fun _ _ => rfl) ?_)|(refine oFa ?_; refine arA (f := 1) (o := 1) rfl rfl (fun _ _ => rfl) ?_)|(refine oFa ?_; refine arA (f := 2) (o := 2) rfl rfl (fun _ _ => rfl) ?_)|(refine oLd ?_; refine cwA rfl (fun _ => rfl) rfl rfl ?_)|(refine oD 23 ?_; refine acA (j1 := 1) (c := fun u => .agg #[.int .u8 1, u, .slice none 0 0, .slice none 0 0]) rfl rfl rfl (fun v1 w1 hv1 => by obtain ⟨a', c', rfl⟩ := (OwnI.slI hv1).isSlice; kernel_rfl) ?_)|(refine oD 41 ?_; refine acA (j1 := 3) (c := fun u => .agg #[.int .u8 3, .slice none 0 0, .slice none 0 0, u]) rfl rfl rfl (fun v1 w1 hv1 => by obtain ⟨a', c', rfl⟩ := (OwnR.slR hv1).isSlice; kernel_rfl) ?_)|(refine oD 50 ?_; refine acA (j1 := 2) (c := fun u => .agg #[.int .u8 2, .slice none 0 0, u, .slice none 0 0]) rfl rfl rfl (fun v1 w1 hv1 => by obtain ⟨a', c', rfl⟩ := (OwnI.slI hv1).isSlice; kernel_rfl) ?_)|(refine a4A (hK _ _ (bvA (φ := cnP A r (aqA r)) (w0 := w) rfl rfl rfl b4A (fun v' w' e hv => hv) rfl (fun _ => rfl) (Ext.refl _) (fun w' e' => ?_))); clear hK K)|(refine a4A (hK _ _ rfl (bvA (φ := cnP A r (aqA r)) (w0 := w) rfl rfl rfl b4A (fun v' w' e hv => hv) rfl (fun _ => rfl) (Ext.refl _) (fun w' e' => ?_))); clear hK K)|refine wOp ?_|(refine wCm ?_ ?_<;>intro hc)|(refine oCv ?_;first|(refine oD 9 ?_; refine a1A (f := 82) rfl rfl rfl _ (by intro u1 w' e hu1; obtain rfl : u1 = _ := hu1; exact hk1 w' e) ?_)|(refine oD 13 ?_; refine a1A (f := 82) rfl rfl rfl _ (by intro u1 w' e hu1; obtain rfl : u1 = _ := hu1; exact hk2 w' e) ?_)|(refine oD 22 ?_; refine a3A (f := fa) rfl rfl rfl rfl (.pred (bjA _ 72 .u16 (adA r 65536))) (by intro u1 u2 w' e hu1 hu2; obtain rfl : u1 = _ := hu1; obtain rfl : u2 = _ := hu2; exact (hD.a w' e _ _ (h1.ext e).slI (h2.ext e).slI).mono (aaA e.size)) ?_)|(refine oD 40 ?_; refine a3A (f := fr) rfl rfl rfl rfl (.pred (ekA _ 96 (aoA r))) (by intro u1 u2 w' e hu1 hu2; obtain rfl : u1 = _ := hu1; obtain rfl : u2 = _ := hu2; exact (hD.r w' e _ _ (h1.ext e).slR (h2.ext e).slR).mono (azA e.size rfl)) ?_)|(refine oD 46 ?_; refine a1A (f := 34) rfl rfl rfl (.pred (bjA _ 22 .u64 (wordsOf p))) (by intro u1 w' e hu1; obtain rfl : u1 = _ := hu1; exact (hw1 w' e).mono (aaA e.size)) ?_)|(refine oD 48 ?_; refine a1A (f := 34) rfl rfl rfl (.pred (bjA _ 22 .u64 (wordsOf q))) (by intro u1 w' e hu1; obtain rfl : u1 = _ := hu1; exact (hw2 w' e).mono (aaA e.size)) ?_)|(refine oD 49 ?_; refine a3A (f := fw) rfl rfl rfl rfl (.pred (bjA _ 22 .u64 (wordsOf r))) (by intro u1 u2 w' e hu1 hu2; exact (hD.w w' e _ _ (OwnI.slI hu1) (OwnI.slI hu2)).mono (aaA e.size)) ?_)|(refine oC 75 ?_; refine a1A (f := 75) rfl rfl rfl  (.pred (cnP A r (aqA r))) (by intro u1 w e hu1; (try obtain rfl : u1 = _ := hu1); exact by obtain ⟨u, rfl, hu⟩ := hu1; exact d4A (Cn.wrd hr rfl hu hA) (hT.ext e) (hA.ext e)) ?_))|(refine wNl hK ?_;clear hK K))|(refine oCX ?_;first|refine brA 9 rfl (by kernel_rfl) (by kernel_rfl) (fun K hK => ?_))|refine wG ?_|(refine wCR ?_;intro K hK)|(refine oPX ?_;first|exact bxA rfl rfl rfl rfl rfl (by assumption))|fail)
      all_goals skip
    · skip
      refine Fc.of (args := [_, _, _]) Tryz.func93 rfl rfl Tryz.ntmps93 (Nat.le_of_ble_eq_true rfl) ?_
      repeat' (first|(refine oLA ?_;first|refine a0A rfl ?_|refine dfA ?_|refine bgA rfl (fun _ => rfl) ?_|(refine oFa ?_; refine arA (f := 0) (o := 0) rfl rfl (fun _ _ => rfl) ?_)|(refine oFa ?_; refine arA (f := 1) (o := 1) rfl rfl (fun _ _ => rfl) ?_)|(refine oFa ?_; refine arA (f := 2) (o := 2) rfl rfl (fun _ _ => rfl) ?_)|(refine oLd ?_; refine cwA rfl (fun _ => rfl) rfl rfl ?_)|(refine oD 23 ?_; refine acA (j1 := 1) (c := fun u => .agg #[.int .u8 1, u, .slice none 0 0, .slice none 0 0]) rfl rfl rfl (fun v1 w1 hv1 => by obtain ⟨a', c', rfl⟩ := (OwnI.slI hv1).isSlice; kernel_rfl) ?_)|(refine oD 41 ?_; refine acA (j1 := 3) (c := fun u => .agg #[.int .u8 3, .slice none 0 0, .slice none 0 0, u]) rfl rfl rfl (fun v1 w1 hv1 => by obtain ⟨a', c', rfl⟩ := (OwnR.slR hv1).isSlice; kernel_rfl) ?_)|(refine oD 50 ?_; refine acA (j1 := 2) (c := fun u => .agg #[.int .u8 2, .slice none 0 0, u, .slice none 0 0]) rfl rfl rfl (fun v1 w1 hv1 => by obtain ⟨a', c', rfl⟩ := (OwnI.slI hv1).isSlice; kernel_rfl) ?_)|(refine a4A (hK _ _ (bvA (φ := cnP A r (aqA r)) (w0 := w) rfl rfl rfl b4A (fun v' w' e hv => hv) rfl (fun _ => rfl) (Ext.refl _) (fun w' e' => ?_))); clear hK K)|(refine a4A (hK _ _ rfl (bvA (φ := cnP A r (aqA r)) (w0 := w) rfl rfl rfl b4A (fun v' w' e hv => hv) rfl (fun _ => rfl) (Ext.refl _) (fun w' e' => ?_))); clear hK K)|refine wOp ?_|(refine wCm ?_ ?_<;>intro hc)|(refine oCv ?_;first|(refine oD 9 ?_; refine a1A (f := 82) rfl rfl rfl _ (by intro u1 w' e hu1; obtain rfl : u1 = _ := hu1; exact hk1 w' e) ?_)|(refine oD 13 ?_; refine a1A (f := 82) rfl rfl rfl _ (by intro u1 w' e hu1; obtain rfl : u1 = _ := hu1; exact hk2 w' e) ?_)|(refine oD 22 ?_; refine a3A (f := fa) rfl rfl rfl rfl (.pred (bjA _ 72 .u16 (adA r 65536))) (by intro u1 u2 w' e hu1 hu2; obtain rfl : u1 = _ := hu1; obtain rfl : u2 = _ := hu2; exact (hD.a w' e _ _ (h1.ext e).slI (h2.ext e).slI).mono (aaA e.size)) ?_)|(refine oD 40 ?_; refine a3A (f := fr) rfl rfl rfl rfl (.pred (ekA _ 96 (aoA r))) (by intro u1 u2 w' e hu1 hu2; obtain rfl : u1 = _ := hu1; obtain rfl : u2 = _ := hu2; exact (hD.r w' e _ _ (h1.ext e).slR (h2.ext e).slR).mono (azA e.size rfl)) ?_)|(refine oD 46 ?_; refine a1A (f := 34) rfl rfl rfl (.pred (bjA _ 22 .u64 (wordsOf p))) (by intro u1 w' e hu1; obtain rfl : u1 = _ := hu1; exact (hw1 w' e).mono (aaA e.size)) ?_)|(refine oD 48 ?_; refine a1A (f := 34) rfl rfl rfl (.pred (bjA _ 22 .u64 (wordsOf q))) (by intro u1 w' e hu1; obtain rfl : u1 = _ := hu1; exact (hw2 w' e).mono (aaA e.size)) ?_)|(refine oD 49 ?_; refine a3A (f := fw) rfl rfl rfl rfl (.pred (bjA _ 22 .u64 (wordsOf r))) (by intro u1 u2 w' e hu1 hu2; exact (hD.w w' e _ _ (OwnI.slI hu1) (OwnI.slI hu2)).mono (aaA e.size)) ?_)|(refine oC 75 ?_; refine a1A (f := 75) rfl rfl rfl  (.pred (cnP A r (aqA r))) (by intro u1 w e hu1; (try obtain rfl : u1 = _ := hu1); exact by obtain ⟨u, rfl, hu⟩ := hu1; exact d4A (Cn.wrd hr rfl hu hA) (hT.ext e) (hA.ext e)) ?_))|(refine wNl hK ?_;clear hK K))|(refine oCX ?_;first|refine brA 9 rfl (by kernel_rfl) (by kernel_rfl) (fun K hK => ?_))|refine wG ?_|(refine wCR ?_;intro K hK)|(refine oPX ?_;first|exact bxA rfl rfl rfl rfl rfl (by assumption))|fail)
      all_goals skip
  · obtain ⟨hq, ⟨rfl, kd', va', hkd', rfl, h2⟩ | ⟨rfl, vw', rfl, h2⟩ | ⟨rfl, vr', rfl, h2⟩⟩ := ho
    · skip
      refine Fc.of (args := [_, _, _]) Tryz.func93 rfl rfl Tryz.ntmps93 (Nat.le_of_ble_eq_true rfl) ?_
      repeat' (first|(refine oLA ?_;first|refine a0A rfl ?_|refine dfA ?_|refine bgA rfl (fun _ => rfl) ?_|(refine oFa ?_; refine arA (f := 0) (o := 0) rfl rfl (fun _ _ => rfl) ?_)|(refine oFa ?_; refine arA (f := 1) (o := 1) rfl rfl (fun _ _ => rfl) ?_)|(refine oFa ?_; refine arA (f := 2) (o := 2) rfl rfl (fun _ _ => rfl) ?_)|(refine oLd ?_; refine cwA rfl (fun _ => rfl) rfl rfl ?_)|(refine oD 23 ?_; refine acA (j1 := 1) (c := fun u => .agg #[.int .u8 1, u, .slice none 0 0, .slice none 0 0]) rfl rfl rfl (fun v1 w1 hv1 => by obtain ⟨a', c', rfl⟩ := (OwnI.slI hv1).isSlice; kernel_rfl) ?_)|(refine oD 41 ?_; refine acA (j1 := 3) (c := fun u => .agg #[.int .u8 3, .slice none 0 0, .slice none 0 0, u]) rfl rfl rfl (fun v1 w1 hv1 => by obtain ⟨a', c', rfl⟩ := (OwnR.slR hv1).isSlice; kernel_rfl) ?_)|(refine oD 50 ?_; refine acA (j1 := 2) (c := fun u => .agg #[.int .u8 2, .slice none 0 0, u, .slice none 0 0]) rfl rfl rfl (fun v1 w1 hv1 => by obtain ⟨a', c', rfl⟩ := (OwnI.slI hv1).isSlice; kernel_rfl) ?_)|(refine a4A (hK _ _ (bvA (φ := cnP A r (aqA r)) (w0 := w) rfl rfl rfl b4A (fun v' w' e hv => hv) rfl (fun _ => rfl) (Ext.refl _) (fun w' e' => ?_))); clear hK K)|(refine a4A (hK _ _ rfl (bvA (φ := cnP A r (aqA r)) (w0 := w) rfl rfl rfl b4A (fun v' w' e hv => hv) rfl (fun _ => rfl) (Ext.refl _) (fun w' e' => ?_))); clear hK K)|refine wOp ?_|(refine wCm ?_ ?_<;>intro hc)|(refine oCv ?_;first|(refine oD 9 ?_; refine a1A (f := 82) rfl rfl rfl _ (by intro u1 w' e hu1; obtain rfl : u1 = _ := hu1; exact hk1 w' e) ?_)|(refine oD 13 ?_; refine a1A (f := 82) rfl rfl rfl _ (by intro u1 w' e hu1; obtain rfl : u1 = _ := hu1; exact hk2 w' e) ?_)|(refine oD 22 ?_; refine a3A (f := fa) rfl rfl rfl rfl (.pred (bjA _ 72 .u16 (adA r 65536))) (by intro u1 u2 w' e hu1 hu2; obtain rfl : u1 = _ := hu1; obtain rfl : u2 = _ := hu2; exact (hD.a w' e _ _ (h1.ext e).slI (h2.ext e).slI).mono (aaA e.size)) ?_)|(refine oD 40 ?_; refine a3A (f := fr) rfl rfl rfl rfl (.pred (ekA _ 96 (aoA r))) (by intro u1 u2 w' e hu1 hu2; obtain rfl : u1 = _ := hu1; obtain rfl : u2 = _ := hu2; exact (hD.r w' e _ _ (h1.ext e).slR (h2.ext e).slR).mono (azA e.size rfl)) ?_)|(refine oD 46 ?_; refine a1A (f := 34) rfl rfl rfl (.pred (bjA _ 22 .u64 (wordsOf p))) (by intro u1 w' e hu1; obtain rfl : u1 = _ := hu1; exact (hw1 w' e).mono (aaA e.size)) ?_)|(refine oD 48 ?_; refine a1A (f := 34) rfl rfl rfl (.pred (bjA _ 22 .u64 (wordsOf q))) (by intro u1 w' e hu1; obtain rfl : u1 = _ := hu1; exact (hw2 w' e).mono (aaA e.size)) ?_)|(refine oD 49 ?_; refine a3A (f := fw) rfl rfl rfl rfl (.pred (bjA _ 22 .u64 (wordsOf r))) (by intro u1 u2 w' e hu1 hu2; exact (hD.w w' e _ _ (OwnI.slI hu1) (OwnI.slI hu2)).mono (aaA e.size)) ?_)|(refine oC 75 ?_; refine a1A (f := 75) rfl rfl rfl  (.pred (cnP A r (aqA r))) (by intro u1 w e hu1; (try obtain rfl : u1 = _ := hu1); exact by obtain ⟨u, rfl, hu⟩ := hu1; exact d4A (Cn.wrd hr rfl hu hA) (hT.ext e) (hA.ext e)) ?_))|(refine wNl hK ?_;clear hK K))|(refine oCX ?_;first|refine brA 9 rfl (by kernel_rfl) (by kernel_rfl) (fun K hK => ?_))|refine wG ?_|(refine wCR ?_;intro K hK)|(refine oPX ?_;first|exact bxA rfl rfl rfl rfl rfl (by assumption))|fail)
      all_goals skip
    · skip
      refine Fc.of (args := [_, _, _]) Tryz.func93 rfl rfl Tryz.ntmps93 (Nat.le_of_ble_eq_true rfl) ?_
      repeat' (first|(refine oLA ?_;first|refine a0A rfl ?_|refine dfA ?_|refine bgA rfl (fun _ => rfl) ?_|(refine oFa ?_; refine arA (f := 0) (o := 0) rfl rfl (fun _ _ => rfl) ?_)|(refine oFa ?_; refine arA (f := 1) (o := 1) rfl rfl (fun _ _ => rfl) ?_)|(refine oFa ?_; refine arA (f := 2) (o := 2) rfl rfl (fun _ _ => rfl) ?_)|(refine oLd ?_; refine cwA rfl (fun _ => rfl) rfl rfl ?_)|(refine oD 23 ?_; refine acA (j1 := 1) (c := fun u => .agg #[.int .u8 1, u, .slice none 0 0, .slice none 0 0]) rfl rfl rfl (fun v1 w1 hv1 => by obtain ⟨a', c', rfl⟩ := (OwnI.slI hv1).isSlice; kernel_rfl) ?_)|(refine oD 41 ?_; refine acA (j1 := 3) (c := fun u => .agg #[.int .u8 3, .slice none 0 0, .slice none 0 0, u]) rfl rfl rfl (fun v1 w1 hv1 => by obtain ⟨a', c', rfl⟩ := (OwnR.slR hv1).isSlice; kernel_rfl) ?_)|(refine oD 50 ?_; refine acA (j1 := 2) (c := fun u => .agg #[.int .u8 2, .slice none 0 0, u, .slice none 0 0]) rfl rfl rfl (fun v1 w1 hv1 => by obtain ⟨a', c', rfl⟩ := (OwnI.slI hv1).isSlice; kernel_rfl) ?_)|(refine a4A (hK _ _ (bvA (φ := cnP A r (aqA r)) (w0 := w) rfl rfl rfl b4A (fun v' w' e hv => hv) rfl (fun _ => rfl) (Ext.refl _) (fun w' e' => ?_))); clear hK K)|(refine a4A (hK _ _ rfl (bvA (φ := cnP A r (aqA r)) (w0 := w) rfl rfl rfl b4A (fun v' w' e hv => hv) rfl (fun _ => rfl) (Ext.refl _) (fun w' e' => ?_))); clear hK K)|refine wOp ?_|(refine wCm ?_ ?_<;>intro hc)|(refine oCv ?_;first|(refine oD 9 ?_; refine a1A (f := 82) rfl rfl rfl _ (by intro u1 w' e hu1; obtain rfl : u1 = _ := hu1; exact hk1 w' e) ?_)|(refine oD 13 ?_; refine a1A (f := 82) rfl rfl rfl _ (by intro u1 w' e hu1; obtain rfl : u1 = _ := hu1; exact hk2 w' e) ?_)|(refine oD 22 ?_; refine a3A (f := fa) rfl rfl rfl rfl (.pred (bjA _ 72 .u16 (adA r 65536))) (by intro u1 u2 w' e hu1 hu2; obtain rfl : u1 = _ := hu1; obtain rfl : u2 = _ := hu2; exact (hD.a w' e _ _ (h1.ext e).slI (h2.ext e).slI).mono (aaA e.size)) ?_)|(refine oD 40 ?_; refine a3A (f := fr) rfl rfl rfl rfl (.pred (ekA _ 96 (aoA r))) (by intro u1 u2 w' e hu1 hu2; obtain rfl : u1 = _ := hu1; obtain rfl : u2 = _ := hu2; exact (hD.r w' e _ _ (h1.ext e).slR (h2.ext e).slR).mono (azA e.size rfl)) ?_)|(refine oD 46 ?_; refine a1A (f := 34) rfl rfl rfl (.pred (bjA _ 22 .u64 (wordsOf p))) (by intro u1 w' e hu1; obtain rfl : u1 = _ := hu1; exact (hw1 w' e).mono (aaA e.size)) ?_)|(refine oD 48 ?_; refine a1A (f := 34) rfl rfl rfl (.pred (bjA _ 22 .u64 (wordsOf q))) (by intro u1 w' e hu1; obtain rfl : u1 = _ := hu1; exact (hw2 w' e).mono (aaA e.size)) ?_)|(refine oD 49 ?_; refine a3A (f := fw) rfl rfl rfl rfl (.pred (bjA _ 22 .u64 (wordsOf r))) (by intro u1 u2 w' e hu1 hu2; exact (hD.w w' e _ _ (OwnI.slI hu1) (OwnI.slI hu2)).mono (aaA e.size)) ?_)|(refine oC 75 ?_; refine a1A (f := 75) rfl rfl rfl  (.pred (cnP A r (aqA r))) (by intro u1 w e hu1; (try obtain rfl : u1 = _ := hu1); exact by obtain ⟨u, rfl, hu⟩ := hu1; exact d4A (Cn.wrd hr rfl hu hA) (hT.ext e) (hA.ext e)) ?_))|(refine wNl hK ?_;clear hK K))|(refine oCX ?_;first|refine brA 9 rfl (by kernel_rfl) (by kernel_rfl) (fun K hK => ?_))|refine wG ?_|(refine wCR ?_;intro K hK)|(refine oPX ?_;first|exact bxA rfl rfl rfl rfl rfl (by assumption))|fail)
      all_goals skip
    · skip
      refine Fc.of (args := [_, _, _]) Tryz.func93 rfl rfl Tryz.ntmps93 (Nat.le_of_ble_eq_true rfl) ?_
      repeat' (first|(refine oLA ?_;first|refine a0A rfl ?_|refine dfA ?_|refine bgA rfl (fun _ => rfl) ?_|(refine oFa ?_; refine arA (f := 0) (o := 0) rfl rfl (fun _ _ => rfl) ?_)|(refine oFa ?_; refine arA (f := 1) (o := 1) rfl rfl (fun _ _ => rfl) ?_)|(refine oFa ?_; refine arA (f := 2) (o := 2) rfl rfl (fun _ _ => rfl) ?_)|(refine oLd ?_; refine cwA rfl (fun _ => rfl) rfl rfl ?_)|(refine oD 23 ?_; refine acA (j1 := 1) (c := fun u => .agg #[.int .u8 1, u, .slice none 0 0, .slice none 0 0]) rfl rfl rfl (fun v1 w1 hv1 => by obtain ⟨a', c', rfl⟩ := (OwnI.slI hv1).isSlice; kernel_rfl) ?_)|(refine oD 41 ?_; refine acA (j1 := 3) (c := fun u => .agg #[.int .u8 3, .slice none 0 0, .slice none 0 0, u]) rfl rfl rfl (fun v1 w1 hv1 => by obtain ⟨a', c', rfl⟩ := (OwnR.slR hv1).isSlice; kernel_rfl) ?_)|(refine oD 50 ?_; refine acA (j1 := 2) (c := fun u => .agg #[.int .u8 2, .slice none 0 0, u, .slice none 0 0]) rfl rfl rfl (fun v1 w1 hv1 => by obtain ⟨a', c', rfl⟩ := (OwnI.slI hv1).isSlice; kernel_rfl) ?_)|(refine a4A (hK _ _ (bvA (φ := cnP A r (aqA r)) (w0 := w) rfl rfl rfl b4A (fun v' w' e hv => hv) rfl (fun _ => rfl) (Ext.refl _) (fun w' e' => ?_))); clear hK K)|(refine a4A (hK _ _ rfl (bvA (φ := cnP A r (aqA r)) (w0 := w) rfl rfl rfl b4A (fun v' w' e hv => hv) rfl (fun _ => rfl) (Ext.refl _) (fun w' e' => ?_))); clear hK K)|refine wOp ?_|(refine wCm ?_ ?_<;>intro hc)|(refine oCv ?_;first|(refine oD 9 ?_; refine a1A (f := 82) rfl rfl rfl _ (by intro u1 w' e hu1; obtain rfl : u1 = _ := hu1; exact hk1 w' e) ?_)|(refine oD 13 ?_; refine a1A (f := 82) rfl rfl rfl _ (by intro u1 w' e hu1; obtain rfl : u1 = _ := hu1; exact hk2 w' e) ?_)|(refine oD 22 ?_; refine a3A (f := fa) rfl rfl rfl rfl (.pred (bjA _ 72 .u16 (adA r 65536))) (by intro u1 u2 w' e hu1 hu2; obtain rfl : u1 = _ := hu1; obtain rfl : u2 = _ := hu2; exact (hD.a w' e _ _ (h1.ext e).slI (h2.ext e).slI).mono (aaA e.size)) ?_)|(refine oD 40 ?_; refine a3A (f := fr) rfl rfl rfl rfl (.pred (ekA _ 96 (aoA r))) (by intro u1 u2 w' e hu1 hu2; obtain rfl : u1 = _ := hu1; obtain rfl : u2 = _ := hu2; exact (hD.r w' e _ _ (h1.ext e).slR (h2.ext e).slR).mono (azA e.size rfl)) ?_)|(refine oD 46 ?_; refine a1A (f := 34) rfl rfl rfl (.pred (bjA _ 22 .u64 (wordsOf p))) (by intro u1 w' e hu1; obtain rfl : u1 = _ := hu1; exact (hw1 w' e).mono (aaA e.size)) ?_)|(refine oD 48 ?_; refine a1A (f := 34) rfl rfl rfl (.pred (bjA _ 22 .u64 (wordsOf q))) (by intro u1 w' e hu1; obtain rfl : u1 = _ := hu1; exact (hw2 w' e).mono (aaA e.size)) ?_)|(refine oD 49 ?_; refine a3A (f := fw) rfl rfl rfl rfl (.pred (bjA _ 22 .u64 (wordsOf r))) (by intro u1 u2 w' e hu1 hu2; exact (hD.w w' e _ _ (OwnI.slI hu1) (OwnI.slI hu2)).mono (aaA e.size)) ?_)|(refine oC 75 ?_; refine a1A (f := 75) rfl rfl rfl  (.pred (cnP A r (aqA r))) (by intro u1 w e hu1; (try obtain rfl : u1 = _ := hu1); exact by obtain ⟨u, rfl, hu⟩ := hu1; exact d4A (Cn.wrd hr rfl hu hA) (hT.ext e) (hA.ext e)) ?_))|(refine wNl hK ?_;clear hK K))|(refine oCX ?_;first|refine brA 9 rfl (by kernel_rfl) (by kernel_rfl) (fun K hK => ?_))|refine wG ?_|(refine wCR ?_;intro K hK)|(refine oPX ?_;first|exact bxA rfl rfl rfl rfl rfl (by assumption))|fail)
      all_goals skip
  · obtain ⟨hq, ⟨rfl, kd', va', hkd', rfl, h2⟩ | ⟨rfl, vw', rfl, h2⟩ | ⟨rfl, vr', rfl, h2⟩⟩ := ho
    · skip
      refine Fc.of (args := [_, _, _]) Tryz.func93 rfl rfl Tryz.ntmps93 (Nat.le_of_ble_eq_true rfl) ?_
      repeat' (first|(refine oLA ?_;first|refine a0A rfl ?_|refine dfA ?_|refine bgA rfl (fun _ => rfl) ?_|(refine oFa ?_; refine arA (f := 0) (o := 0) rfl rfl (fun _ _ => rfl) ?_)|(refine oFa ?_; refine arA (f := 1) (o := 1) rfl rfl (fun _ _ => rfl) ?_)|(refine oFa ?_; refine arA (f := 2) (o := 2) rfl rfl (fun _ _ => rfl) ?_)|(refine oLd ?_; refine cwA rfl (fun _ => rfl) rfl rfl ?_)|(refine oD 23 ?_; refine acA (j1 := 1) (c := fun u => .agg #[.int .u8 1, u, .slice none 0 0, .slice none 0 0]) rfl rfl rfl (fun v1 w1 hv1 => by obtain ⟨a', c', rfl⟩ := (OwnI.slI hv1).isSlice; kernel_rfl) ?_)|(refine oD 41 ?_; refine acA (j1 := 3) (c := fun u => .agg #[.int .u8 3, .slice none 0 0, .slice none 0 0, u]) rfl rfl rfl (fun v1 w1 hv1 => by obtain ⟨a', c', rfl⟩ := (OwnR.slR hv1).isSlice; kernel_rfl) ?_)|(refine oD 50 ?_; refine acA (j1 := 2) (c := fun u => .agg #[.int .u8 2, .slice none 0 0, u, .slice none 0 0]) rfl rfl rfl (fun v1 w1 hv1 => by obtain ⟨a', c', rfl⟩ := (OwnI.slI hv1).isSlice; kernel_rfl) ?_)|(refine a4A (hK _ _ (bvA (φ := cnP A r (aqA r)) (w0 := w) rfl rfl rfl b4A (fun v' w' e hv => hv) rfl (fun _ => rfl) (Ext.refl _) (fun w' e' => ?_))); clear hK K)|(refine a4A (hK _ _ rfl (bvA (φ := cnP A r (aqA r)) (w0 := w) rfl rfl rfl b4A (fun v' w' e hv => hv) rfl (fun _ => rfl) (Ext.refl _) (fun w' e' => ?_))); clear hK K)|refine wOp ?_|(refine wCm ?_ ?_<;>intro hc)|(refine oCv ?_;first|(refine oD 9 ?_; refine a1A (f := 82) rfl rfl rfl _ (by intro u1 w' e hu1; obtain rfl : u1 = _ := hu1; exact hk1 w' e) ?_)|(refine oD 13 ?_; refine a1A (f := 82) rfl rfl rfl _ (by intro u1 w' e hu1; obtain rfl : u1 = _ := hu1; exact hk2 w' e) ?_)|(refine oD 22 ?_; refine a3A (f := fa) rfl rfl rfl rfl (.pred (bjA _ 72 .u16 (adA r 65536))) (by intro u1 u2 w' e hu1 hu2; obtain rfl : u1 = _ := hu1; obtain rfl : u2 = _ := hu2; exact (hD.a w' e _ _ (h1.ext e).slI (h2.ext e).slI).mono (aaA e.size)) ?_)|(refine oD 40 ?_; refine a3A (f := fr) rfl rfl rfl rfl (.pred (ekA _ 96 (aoA r))) (by intro u1 u2 w' e hu1 hu2; obtain rfl : u1 = _ := hu1; obtain rfl : u2 = _ := hu2; exact (hD.r w' e _ _ (h1.ext e).slR (h2.ext e).slR).mono (azA e.size rfl)) ?_)|(refine oD 46 ?_; refine a1A (f := 34) rfl rfl rfl (.pred (bjA _ 22 .u64 (wordsOf p))) (by intro u1 w' e hu1; obtain rfl : u1 = _ := hu1; exact (hw1 w' e).mono (aaA e.size)) ?_)|(refine oD 48 ?_; refine a1A (f := 34) rfl rfl rfl (.pred (bjA _ 22 .u64 (wordsOf q))) (by intro u1 w' e hu1; obtain rfl : u1 = _ := hu1; exact (hw2 w' e).mono (aaA e.size)) ?_)|(refine oD 49 ?_; refine a3A (f := fw) rfl rfl rfl rfl (.pred (bjA _ 22 .u64 (wordsOf r))) (by intro u1 u2 w' e hu1 hu2; exact (hD.w w' e _ _ (OwnI.slI hu1) (OwnI.slI hu2)).mono (aaA e.size)) ?_)|(refine oC 75 ?_; refine a1A (f := 75) rfl rfl rfl  (.pred (cnP A r (aqA r))) (by intro u1 w e hu1; (try obtain rfl : u1 = _ := hu1); exact by obtain ⟨u, rfl, hu⟩ := hu1; exact d4A (Cn.wrd hr rfl hu hA) (hT.ext e) (hA.ext e)) ?_))|(refine wNl hK ?_;clear hK K))|(refine oCX ?_;first|refine brA 9 rfl (by kernel_rfl) (by kernel_rfl) (fun K hK => ?_))|refine wG ?_|(refine wCR ?_;intro K hK)|(refine oPX ?_;first|exact bxA rfl rfl rfl rfl rfl (by assumption))|fail)
      all_goals skip
    · skip
      refine Fc.of (args := [_, _, _]) Tryz.func93 rfl rfl Tryz.ntmps93 (Nat.le_of_ble_eq_true rfl) ?_
      repeat' (first|(refine oLA ?_;first|refine a0A rfl ?_|refine dfA ?_|refine bgA rfl (fun _ => rfl) ?_|(refine oFa ?_; refine arA (f := 0) (o := 0) rfl rfl (fun _ _ => rfl) ?_)|(refine oFa ?_; refine arA (f := 1) (o := 1) rfl rfl (fun _ _ => rfl) ?_)|(refine oFa ?_; refine arA (f := 2) (o := 2) rfl rfl (fun _ _ => rfl) ?_)|(refine oLd ?_; refine cwA rfl (fun _ => rfl) rfl rfl ?_)|(refine oD 23 ?_; refine acA (j1 := 1) (c := fun u => .agg #[.int .u8 1, u, .slice none 0 0, .slice none 0 0]) rfl rfl rfl (fun v1 w1 hv1 => by obtain ⟨a', c', rfl⟩ := (OwnI.slI hv1).isSlice; kernel_rfl) ?_)|(refine oD 41 ?_; refine acA (j1 := 3) (c := fun u => .agg #[.int .u8 3, .slice none 0 0, .slice none 0 0, u]) rfl rfl rfl (fun v1 w1 hv1 => by obtain ⟨a', c', rfl⟩ := (OwnR.slR hv1).isSlice; kernel_rfl) ?_)|(refine oD 50 ?_; refine acA (j1 := 2) (c := fun u => .agg #[.int .u8 2, .slice none 0 0, u, .slice none 0 0]) rfl rfl rfl (fun v1 w1 hv1 => by obtain ⟨a', c', rfl⟩ := (OwnI.slI hv1).isSlice; kernel_rfl) ?_)|(refine a4A (hK _ _ (bvA (φ := cnP A r (aqA r)) (w0 := w) rfl rfl rfl b4A (fun v' w' e hv => hv) rfl (fun _ => rfl) (Ext.refl _) (fun w' e' => ?_))); clear hK K)|(refine a4A (hK _ _ rfl (bvA (φ := cnP A r (aqA r)) (w0 := w) rfl rfl rfl b4A (fun v' w' e hv => hv) rfl (fun _ => rfl) (Ext.refl _) (fun w' e' => ?_))); clear hK K)|refine wOp ?_|(refine wCm ?_ ?_<;>intro hc)|(refine oCv ?_;first|(refine oD 9 ?_; refine a1A (f := 82) rfl rfl rfl _ (by intro u1 w' e hu1; obtain rfl : u1 = _ := hu1; exact hk1 w' e) ?_)|(refine oD 13 ?_; refine a1A (f := 82) rfl rfl rfl _ (by intro u1 w' e hu1; obtain rfl : u1 = _ := hu1; exact hk2 w' e) ?_)|(refine oD 22 ?_; refine a3A (f := fa) rfl rfl rfl rfl (.pred (bjA _ 72 .u16 (adA r 65536))) (by intro u1 u2 w' e hu1 hu2; obtain rfl : u1 = _ := hu1; obtain rfl : u2 = _ := hu2; exact (hD.a w' e _ _ (h1.ext e).slI (h2.ext e).slI).mono (aaA e.size)) ?_)|(refine oD 40 ?_; refine a3A (f := fr) rfl rfl rfl rfl (.pred (ekA _ 96 (aoA r))) (by intro u1 u2 w' e hu1 hu2; obtain rfl : u1 = _ := hu1; obtain rfl : u2 = _ := hu2; exact (hD.r w' e _ _ (h1.ext e).slR (h2.ext e).slR).mono (azA e.size rfl)) ?_)|(refine oD 46 ?_; refine a1A (f := 34) rfl rfl rfl (.pred (bjA _ 22 .u64 (wordsOf p))) (by intro u1 w' e hu1; obtain rfl : u1 = _ := hu1; exact (hw1 w' e).mono (aaA e.size)) ?_)|(refine oD 48 ?_; refine a1A (f := 34) rfl rfl rfl (.pred (bjA _ 22 .u64 (wordsOf q))) (by intro u1 w' e hu1; obtain rfl : u1 = _ := hu1; exact (hw2 w' e).mono (aaA e.size)) ?_)|(refine oD 49 ?_; refine a3A (f := fw) rfl rfl rfl rfl (.pred (bjA _ 22 .u64 (wordsOf r))) (by intro u1 u2 w' e hu1 hu2; exact (hD.w w' e _ _ (OwnI.slI hu1) (OwnI.slI hu2)).mono (aaA e.size)) ?_)|(refine oC 75 ?_; refine a1A (f := 75) rfl rfl rfl  (.pred (cnP A r (aqA r))) (by intro u1 w e hu1; (try obtain rfl : u1 = _ := hu1); exact by obtain ⟨u, rfl, hu⟩ := hu1; exact d4A (Cn.wrd hr rfl hu hA) (hT.ext e) (hA.ext e)) ?_))|(refine wNl hK ?_;clear hK K))|(refine oCX ?_;first|refine brA 9 rfl (by kernel_rfl) (by kernel_rfl) (fun K hK => ?_))|refine wG ?_|(refine wCR ?_;intro K hK)|(refine oPX ?_;first|exact bxA rfl rfl rfl rfl rfl (by assumption))|fail)
      all_goals skip
    · skip
      refine Fc.of (args := [_, _, _]) Tryz.func93 rfl rfl Tryz.ntmps93 (Nat.le_of_ble_eq_true rfl) ?_
      repeat' (first|(refine oLA ?_;first|refine a0A rfl ?_|refine dfA ?_|refine bgA rfl (fun _ => rfl) ?_|(refine oFa ?_; refine arA (f := 0) (o := 0) rfl rfl (fun _ _ => rfl) ?_)|(refine oFa ?_; refine arA (f := 1) (o := 1) rfl rfl (fun _ _ => rfl) ?_)|(refine oFa ?_; refine arA (f := 2) (o := 2) rfl rfl (fun _ _ => rfl) ?_)|(refine oLd ?_; refine cwA rfl (fun _ => rfl) rfl rfl ?_)|(refine oD 23 ?_; refine acA (j1 := 1) (c := fun u => .agg #[.int .u8 1, u, .slice none 0 0, .slice none 0 0]) rfl rfl rfl (fun v1 w1 hv1 => by obtain ⟨a', c', rfl⟩ := (OwnI.slI hv1).isSlice; kernel_rfl) ?_)|(refine oD 41 ?_; refine acA (j1 := 3) (c := fun u => .agg #[.int .u8 3, .slice none 0 0, .slice none 0 0, u]) rfl rfl rfl (fun v1 w1 hv1 => by obtain ⟨a', c', rfl⟩ := (OwnR.slR hv1).isSlice; kernel_rfl) ?_)|(refine oD 50 ?_; refine acA (j1 := 2) (c := fun u => .agg #[.int .u8 2, .slice none 0 0, u, .slice none 0 0]) rfl rfl rfl (fun v1 w1 hv1 => by obtain ⟨a', c', rfl⟩ := (OwnI.slI hv1).isSlice; kernel_rfl) ?_)|(refine a4A (hK _ _ (bvA (φ := cnP A r (aqA r)) (w0 := w) rfl rfl rfl b4A (fun v' w' e hv => hv) rfl (fun _ => rfl) (Ext.refl _) (fun w' e' => ?_))); clear hK K)|(refine a4A (hK _ _ rfl (bvA (φ := cnP A r (aqA r)) (w0 := w) rfl rfl rfl b4A (fun v' w' e hv => hv) rfl (fun _ => rfl) (Ext.refl _) (fun w' e' => ?_))); clear hK K)|refine wOp ?_|(refine wCm ?_ ?_<;>intro hc)|(refine oCv ?_;first|(refine oD 9 ?_; refine a1A (f := 82) rfl rfl rfl _ (by intro u1 w' e hu1; obtain rfl : u1 = _ := hu1; exact hk1 w' e) ?_)|(refine oD 13 ?_; refine a1A (f := 82) rfl rfl rfl _ (by intro u1 w' e hu1; obtain rfl : u1 = _ := hu1; exact hk2 w' e) ?_)|(refine oD 22 ?_; refine a3A (f := fa) rfl rfl rfl rfl (.pred (bjA _ 72 .u16 (adA r 65536))) (by intro u1 u2 w' e hu1 hu2; obtain rfl : u1 = _ := hu1; obtain rfl : u2 = _ := hu2; exact (hD.a w' e _ _ (h1.ext e).slI (h2.ext e).slI).mono (aaA e.size)) ?_)|(refine oD 40 ?_; refine a3A (f := fr) rfl rfl rfl rfl (.pred (ekA _ 96 (aoA r))) (by intro u1 u2 w' e hu1 hu2; obtain rfl : u1 = _ := hu1; obtain rfl : u2 = _ := hu2; exact (hD.r w' e _ _ (h1.ext e).slR (h2.ext e).slR).mono (azA e.size rfl)) ?_)|(refine oD 46 ?_; refine a1A (f := 34) rfl rfl rfl (.pred (bjA _ 22 .u64 (wordsOf p))) (by intro u1 w' e hu1; obtain rfl : u1 = _ := hu1; exact (hw1 w' e).mono (aaA e.size)) ?_)|(refine oD 48 ?_; refine a1A (f := 34) rfl rfl rfl (.pred (bjA _ 22 .u64 (wordsOf q))) (by intro u1 w' e hu1; obtain rfl : u1 = _ := hu1; exact (hw2 w' e).mono (aaA e.size)) ?_)|(refine oD 49 ?_; refine a3A (f := fw) rfl rfl rfl rfl (.pred (bjA _ 22 .u64 (wordsOf r))) (by intro u1 u2 w' e hu1 hu2; exact (hD.w w' e _ _ (OwnI.slI hu1) (OwnI.slI hu2)).mono (aaA e.size)) ?_)|(refine oC 75 ?_; refine a1A (f := 75) rfl rfl rfl  (.pred (cnP A r (aqA r))) (by intro u1 w e hu1; (try obtain rfl : u1 = _ := hu1); exact by obtain ⟨u, rfl, hu⟩ := hu1; exact d4A (Cn.rns hr rfl hu hA) (hT.ext e) (hA.ext e)) ?_))|(refine wNl hK ?_;clear hK K))|(refine oCX ?_;first|refine brA 9 rfl (by kernel_rfl) (by kernel_rfl) (fun K hK => ?_))|refine wG ?_|(refine wCR ?_;intro K hK)|(refine oPX ?_;first|exact bxA rfl rfl rfl rfl rfl (by assumption))|fail)
      all_goals skip
end Go.Proofs.YtfcioiobhpcngaaGreatDoor
end
section
set_option linter.unusedSimpArgs false
set_option linter.unusedVariables false
set_option maxRecDepth 3000
namespace Go.Proofs.YtfcioiobhpcngaaGreatDoor
open Go.LA Go.ArrP Go.RowKit
variable {A : Nat → Prop}
theorem v8A {w : World} {p q : Nat → Bool} (hp : p 65536 = false) (hq : q 65536 = false) : Does w 90 91 92 p q (two (fun x y => x || y) p q) where
  a := fun w' e va vb ha hb => by
    have hm : awA fOr (adA p 65536) (adA q 65536) = adA (two (fun x y => x || y) p q) 65536 := (wrA (bfA p _) (bfA q _) (ckA p) (ckA q)).trans (cxA 65536 fun i hi => by rw [c6A p hi, c6A q hi]; simp [iyA, two])
    have := or_c w' va vb _ _ ha hb (by have := keA p; have := keA q; omega)
    rwa [hm] at this
  w := fun w' e va vb ha hb => worP w' va vb p q ha hb
  r := fun w' e va vb ha hb => ror_c w' va vb p q hp hq ha hb
theorem kmA {w : World} {p q : Nat → Bool} (hp : p 65536 = false) (hq : q 65536 = false) : Does w 109 110 111 p q (two (fun x y => x && !y) p q) where
  a := fun w' e va vb ha hb => by
    have hm : awA q3A (adA p 65536) (adA q 65536) = adA (two (fun x y => x && !y) p q) 65536 := (wuA (bfA p _) (bfA q _) (ckA p) (ckA q)).trans (cxA 65536 fun i hi => by rw [c6A p hi, c6A q hi]; simp [iyA, two])
    have := ryA w' va vb _ _ ha hb (by have := keA p; have := keA q; omega)
    rwa [hm] at this
  w := fun w' e va vb ha hb => wnotP w' va vb p q ha hb
  r := fun w' e va vb ha hb => wlA w' va vb p q hp hq ha hb
theorem cor_c {w : World} {vc vo : Value} {p q : Nat → Bool} {kc ko : Int} (hc : Cn A w vc p kc) (ho : Cn A w vo q ko) (hT : Tab w) (hA : Fsh A w) :
    Fc Tryz.prog 48 #[vc, vo] w (Ret w (.pred (cnP A (two (fun x y => x || y) p q) (aqA (two (fun x y => x || y) p q))))) := by
  have hr : two (fun x y => x || y) p q 65536 = false := by unfold two; rw [hc.1, ho.1]; rfl
  have hdo : ∀ w', Ext w w' → _ := fun w' e => do_c (hc.ext e) (ho.ext e) (v8A hc.1 ho.1) hr (hT.ext e) (hA.ext e)
  have hk1 : ∀ w', Ext w w' → _ := fun w' e => fcA (hc.ext e)
  have hk2 : ∀ w', Ext w w' → _ := fun w' e => fcA (ho.ext e)
  obtain ⟨r, hrr⟩ : ∃ r, r = two (fun x y => x || y) p q := ⟨_, rfl⟩
  rw [← hrr] at hr hdo ⊢
  obtain ⟨kd, va, vw, vr, rfl, -, -, -, -, k1, k2, -⟩ := hc.parts
  obtain ⟨kd', va', vw', vr', rfl, -, -, -, -, k1', k2', -⟩ := ho.parts
  · skip
    refine Fc.of (args := [_, _]) Tryz.func48 rfl rfl Tryz.ntmps48 (Nat.le_of_ble_eq_true rfl) ?_
    repeat' (first|(refine oLA ?_;first|refine a0A rfl ?_|refine dfA ?_|refine bgA rfl (fun _ => rfl) ?_|refine ceA (c := .agg #[.func (.func 90) #[] #[], .func (.func 91) #[] #[], .func (.func 92) #[] #[]]) rfl rfl rfl rfl (fun _ => by kernel_rfl) ?_|(refine a4A (hK _ _ (bvA (φ := cnP A r (aqA r)) (w0 := w) rfl rfl rfl b4A (fun v' w' e hv => hv) rfl (fun _ => rfl) (Ext.refl _) (fun w' e' => ?_))); clear hK K)|refine wOp ?_|(refine wCm ?_ ?_<;>intro hc)|(refine oCv ?_;first|(refine oC 82 ?_; refine oD 999 ?_; refine a1A (f := 82) rfl rfl rfl _ (by intro u1 w' e hu1; obtain rfl : u1 = _ := hu1; exact hk1 w' e) ?_)|(refine oC 82 ?_; refine oD 998 ?_; refine a1A (f := 82) rfl rfl rfl _ (by intro u1 w' e hu1; obtain rfl : u1 = _ := hu1; exact hk2 w' e) ?_)|(refine oC 93 ?_; refine bhA (f := 93) rfl rfl rfl rfl rfl (.pred (cnP A r (aqA r))) (by intro u1 u2 u3 w' e hu1 hu2 hu3; obtain rfl : u1 = _ := hu1; obtain rfl : u2 = _ := hu2; obtain rfl : u3 = _ := hu3; exact hdo w' e) ?_))|(refine wNl hK ?_;clear hK K))|refine wG ?_|(refine wCR ?_;intro K hK)|(refine oPX ?_;first|exact bxA rfl rfl rfl rfl rfl (by assumption))|fail)
    all_goals skip
end Go.Proofs.YtfcioiobhpcngaaGreatDoor
end
section
set_option linter.unusedSimpArgs false
set_option linter.unusedVariables false
set_option maxRecDepth 3000
namespace Go.Proofs.YtfcioiobhpcngaaGreatDoor
open Go.LA Go.ArrP Go.RowKit
variable {A : Nat → Prop}
section
variable {P : Program} {l : List Oper} {wb : World} {K : List Oper → Env → Prop} {rest : List Oper} {E : Env} {d : Tmp} {ty t : TypeId} {pos : String} {after : Array Edge} {g : Option (Nat × Bool)} {x : Operand}
theorem ptA {c0 c1 c2 c3 : Value} {p : Addr} (hg : b5A l E g = some true) (ht : ∀ w, (isAgg t).run P w = .ok true w) (hs : ∀ w, (sizeOf t).run P w = .ok 4 w) (hx : opE E x = .val (.pointer (some p))) (hc : ∀ (j : Nat) (c : Value), ([c0, c1, c2, c3] : List Value)[j]? = some c → wb.cell? (p.add j) = some c)
    (h : LA P l wb K rest ((d, .val (.agg #[c0, c1, c2, c3])) :: E)) : LA P l wb K (⟨some d, .load t x, ty, pos, after, g⟩ :: rest) E :=
  b0A _ hg (bcA fun a w he hh => by
    have h1 := hh x (by simp [Op.operands])
    rw [hx] at h1; simp only [AD.ok] at h1
    have hl := run_loadCells_list (P := P) w p [c0, c1, c2, c3] (fun j v hj => he.cell (hc j v hj))
    simp only [List.length_cons, List.length_nil, Nat.zero_add, Nat.reduceAdd] at hl
    simp only [execOp, h1, Instr.loadAt, Instr.sureAddr, loadVar, Sem.run_bind, Sem.run_pure, Result.andThen_ok, ht, if_true, hs, hl]) h
end
theorem p5A {w : World} {a : Value} {c0 c1 c2 c3 : Value} {q : Nat → Bool} {ko : Int} {x : Nat} (hc : (guA [c0, c1, c2, c3]).p a w) (ho : Cn A w (.agg #[c0, c1, c2, c3]) q ko) (hx : x < 65536) :
    Fc Tryz.prog 108 #[.int .u16 x, a] w (Ret w (.val (.bool (!q x)))) := by
  have h0 : ∀ w', Ext w w' → _ := fun w' e => x7A (ho.ext e) hx
  obtain ⟨p0, rfl, hc⟩ := hc
  refine Fc.of (args := [_, _]) Tryz.func108 rfl rfl Tryz.ntmps108 (Nat.le_of_ble_eq_true rfl) ?_
  repeat' (first|(refine oLA ?_;first|refine a0A rfl ?_|(refine oLd ?_; refine ptA rfl (fun _ => rfl) (fun _ => rfl) rfl hc ?_)|refine wOp ?_|(refine wCm ?_ ?_<;>intro hc)|(refine oCv ?_;first|(refine oC 54 ?_; refine a3A (f := 54) rfl rfl rfl rfl  (.val (.bool (q x))) (by intro u1 u2 w e hu1 hu2; (try obtain rfl : u1 = _ := hu1); (try obtain rfl : u2 = _ := hu2); exact h0 _ e) ?_))|(refine wNl hK ?_;clear hK K))|refine wG ?_|(refine wCR ?_;intro K hK)|(refine oPX ?_;first|exact abA rfl rfl (Ext.refl _) rfl)|fail)
  all_goals skip
theorem nfA {w : World} {u : Value} {c0 c1 c2 c3 : Value} {q : Nat → Bool} {ko : Int} (ho : Cn A w (.agg #[c0, c1, c2, c3]) q ko) (hu : (holds 108 (.pred (guA [c0, c1, c2, c3]))).p u w) : Tells w u (fun i => !q i) := by
  obtain ⟨c, rfl, hc⟩ := hu
  exact fun w' e x hx => Clb.of1 (p5A ((guA [c0, c1, c2, c3]).mono _ _ _ e hc) (ho.ext e) hx)
set_option maxHeartbeats 2000000 in
theorem ozA {w : World} {vc vo : Value} {p q : Nat → Bool} {kc ko : Int} (hc : Cn A w vc p kc) (ho : Cn A w vo q ko) (hT : Tab w) (hA : Fsh A w) :
    Fc Tryz.prog 59 #[vc, vo] w (Ret w (.pred (cnP A (two (fun x y => x && !y) p q) (aqA (two (fun x y => x && !y) p q))))) := by
  have hr : two (fun x y => x && !y) p q 65536 = false := by unfold two; rw [hc.1, ho.1]; rfl
  have hdo : ∀ w', Ext w w' → _ := fun w' e => do_c (hc.ext e) (ho.ext e) (kmA hc.1 ho.1) hr (hT.ext e) (hA.ext e)
  have hk1 : ∀ w', Ext w w' → _ := fun w' e => fcA (hc.ext e)
  have hk2 : ∀ w', Ext w w' → _ := fun w' e => fcA (ho.ext e)
  have e1 : (fun i => p i && !q i) = two (fun x y => x && !y) p q := rfl
  obtain ⟨r, hrr⟩ : ∃ r, r = two (fun x y => x && !y) p q := ⟨_, rfl⟩
  rw [← hrr] at hr hdo e1 ⊢
  by_cases hk : kc = 1
  · obtain ⟨kd', va', vw', vr', rfl, -, -, -, -, k1', k2', -⟩ := ho.parts
    obtain ⟨hp, ⟨-, kd, va, hkd, rfl, h1⟩ | ⟨h9, -⟩ | ⟨h9, -⟩⟩ := hc
    · have hs : ∀ w' u, Ext w w' → (holds 108 (.pred (guA [.int .u8 kd', va', vw', vr']))).p u w' → _ := fun w' u e hu => wgA (q := fun i => !q i) (h1.ext e).slI hp (nfA (ho.ext e) hu) (hT.ext e) (hA.ext e)
      rw [e1] at hs
      refine Fc.of (args := [_, _]) Tryz.func59 rfl rfl Tryz.ntmps59 (Nat.le_of_ble_eq_true rfl) ?_
      repeat' (first|(refine oLA ?_;first|refine a0A rfl ?_|refine dfA ?_|(refine j6A rfl rfl ?_)|refine bgA rfl (fun _ => rfl) ?_|refine ceA (c := .agg #[.func (.func 109) #[] #[], .func (.func 110) #[] #[], .func (.func 111) #[] #[]]) rfl rfl rfl rfl (fun _ => by kernel_rfl) ?_|(refine a4A (hK _ _ (bvA (φ := cnP A r (aqA r)) (w0 := w) rfl rfl rfl b4A (fun v' w' e hv => hv) rfl (fun _ => rfl) (Ext.refl _) (fun w' e' => ?_))); clear hK K)|refine wOp ?_|(refine wCm ?_ ?_<;>intro hc)|(refine oCv ?_;first|(refine oC 107 ?_; refine a3A (f := 107) rfl rfl rfl rfl (.pred (cnP A r (aqA r))) (by intro u1 u2 w' e hu1 hu2; obtain rfl : u1 = _ := hu1; exact hs w' _ e hu2) ?_)|(refine oC 82 ?_; refine oD 6 ?_; refine a1A (f := 82) rfl rfl rfl _ (by intro u1 w' e hu1; obtain rfl : u1 = _ := hu1; exact hk1 w' e) ?_)|(refine oC 82 ?_; refine oD 998 ?_; refine a1A (f := 82) rfl rfl rfl _ (by intro u1 w' e hu1; obtain rfl : u1 = _ := hu1; exact hk2 w' e) ?_)|(refine oC 93 ?_; refine bhA (f := 93) rfl rfl rfl rfl rfl (.pred (cnP A r (aqA r))) (by intro u1 u2 u3 w' e hu1 hu2 hu3; obtain rfl : u1 = _ := hu1; obtain rfl : u2 = _ := hu2; obtain rfl : u3 = _ := hu3; exact hdo w' e) ?_))|(refine wNl hK ?_;clear hK K))|refine wG ?_|(refine wCR ?_;intro K hK)|(refine oPX ?_;first|exact bxA rfl rfl rfl rfl rfl (by assumption))|fail)
      all_goals skip
    · omega
    · omega
  · obtain ⟨kd, va, vw, vr, rfl, -, -, -, -, k1, k2, -⟩ := hc.parts
    obtain ⟨kd', va', vw', vr', rfl, -, -, -, -, k1', k2', -⟩ := ho.parts
    have hs : True := trivial
    · skip
      refine Fc.of (args := [_, _]) Tryz.func59 rfl rfl Tryz.ntmps59 (Nat.le_of_ble_eq_true rfl) ?_
      repeat' (first|(refine oLA ?_;first|refine a0A rfl ?_|refine dfA ?_|(refine j6A rfl rfl ?_)|refine bgA rfl (fun _ => rfl) ?_|refine ceA (c := .agg #[.func (.func 109) #[] #[], .func (.func 110) #[] #[], .func (.func 111) #[] #[]]) rfl rfl rfl rfl (fun _ => by kernel_rfl) ?_|(refine a4A (hK _ _ (bvA (φ := cnP A r (aqA r)) (w0 := w) rfl rfl rfl b4A (fun v' w' e hv => hv) rfl (fun _ => rfl) (Ext.refl _) (fun w' e' => ?_))); clear hK K)|refine wOp ?_|(refine wCm ?_ ?_<;>intro hc)|(refine oCv ?_;first|(refine oC 107 ?_; refine a3A (f := 107) rfl rfl rfl rfl (.pred (cnP A r (aqA r))) (by intro u1 u2 w' e hu1 hu2; obtain rfl : u1 = _ := hu1; exact hs w' _ e hu2) ?_)|(refine oC 82 ?_; refine oD 6 ?_; refine a1A (f := 82) rfl rfl rfl _ (by intro u1 w' e hu1; obtain rfl : u1 = _ := hu1; exact hk1 w' e) ?_)|(refine oC 82 ?_; refine oD 998 ?_; refine a1A (f := 82) rfl rfl rfl _ (by intro u1 w' e hu1; obtain rfl : u1 = _ := hu1; exact hk2 w' e) ?_)|(refine oC 93 ?_; refine bhA (f := 93) rfl rfl rfl rfl rfl (.pred (cnP A r (aqA r))) (by intro u1 u2 u3 w' e hu1 hu2 hu3; obtain rfl : u1 = _ := hu1; obtain rfl : u2 = _ := hu2; obtain rfl : u3 = _ := hu3; exact hdo w' e) ?_))|(refine wNl hK ?_;clear hK K))|refine wG ?_|(refine wCR ?_;intro K hK)|(refine oPX ?_;first|exact bxA rfl rfl rfl rfl rfl (by assumption))|fail)
      all_goals skip
end Go.Proofs.YtfcioiobhpcngaaGreatDoor
end
section
set_option linter.unusedVariables false
namespace Go.LA
open Go.RowKit
section
variable {P : Program} {l : List Oper} {N : Nat} {wb : World} {K : List Oper → Env → Prop} {rest : List Oper} {E : Env} {Q : Exit → Act → World → Prop}
variable {d : Tmp} {ty ty' t t' : TypeId} {pos pos' : String} {after after' : Array Edge} {g g' : Option (Nat × Bool)} {x y z : Operand} {k k' : IntKind}
theorem oAl {e : TypeId} (h : LA P l wb K (⟨some d, .alloc e, ty, pos, after, g⟩ :: rest) E) : LA P l wb K (⟨some d, .alloc e, ty, pos, after, g⟩ :: rest) E := h
theorem oSt (h : LA P l wb K (⟨none, .store t x y, ty, pos, after, g⟩ :: rest) E) : LA P l wb K (⟨none, .store t x y, ty, pos, after, g⟩ :: rest) E := h
theorem kwA {e : TypeId} {z0 : Value} {φ : AV} {q : Tmp} {n : Nat} (hg : g = none) (hg' : g' = none) (hd : d < N) (hq : lkE E q = .pred φ) (hne : (q == d) = false) (hl : Lays φ n e) (hz : ∀ w, (zeroValue e).run P w = .ok z0 w) (hz0 : z0.cells.size = n)
    (hs : ∀ w, (sizeOf t).run P w = .ok n w)
    (h : ∀ b cs w', Ext wb w' → wb.heap.size ≤ b → w'.heap[b]? = some (.cells cs e (0, 0)) → cs.size = n → φ.p (.agg cs) w' → LX P N w' l Q rest ((d, .val (.pointer (some ⟨b, 0, none⟩))) :: (q, .val (.agg cs)) :: E)) :
    LX P N wb l Q (⟨some d, .alloc e, ty, pos, after, g⟩ :: ⟨none, .store t (.tmp d) (.tmp q), ty', pos', after', g'⟩ :: rest) E := by
  refine byA q hq (fun v w1 e1 h1 => ?_)
  obtain ⟨cs, rfl, hcn, hone⟩ := hl.shape _ _ h1
  refine c7A (c := .agg cs) hg hg' hd hz (fun v => ?_) (fun w => by show _ = Result.ok cs.size w; rw [hcn]; exact hs w) (by show cs.size = _; rw [hcn, hz0]) hone (fun b w' e hb hh => h b cs w' (e1.trans e) (Nat.le_trans e1.size hb) hh hcn (φ.mono _ _ _ e h1))
  simp only [opE, lkE, hne, cond_false, beq_self_eq_true, cond_true]
theorem cvA {b n : Nat} {cs : Array Value} {e : TypeId} (hg : b5A l E g = some true) (hb : wb.heap[b]? = some (.cells cs e (0, 0))) (hn : cs.size = n) (hx : opE E x = .val (.pointer (some ⟨b, 0, none⟩))) (ht : ∀ w, (isAgg t).run P w = .ok true w) (hs : ∀ w, (sizeOf t).run P w = .ok n w)
    (h : LA P l wb K rest ((d, .val (.agg cs)) :: E)) : LA P l wb K (⟨some d, .load t x, ty, pos, after, g⟩ :: rest) E :=
  b6A hg ht (fun w => by rw [hn]; exact hs w) hx hb h
theorem plA {a b : Int} (hg : b5A l E g = some true) (hx : opE E x = .val (.int k a)) (hy : opE E y = .val (.int k b)) (hb : b ≠ 0) (h : LA P l wb K rest ((d, .val (.int k (k.wrap (a.tdiv b)))) :: E)) :
    LA P l wb K (⟨some d, .binOp .quo t x y t', ty, pos, after, g⟩ :: rest) E :=
  b0A _ hg (bcA fun ac w he hh => by
    have e1 := hh x (by simp [Op.operands]); have e2 := hh y (by simp [Op.operands])
    rw [hx] at e1; rw [hy] at e2; simp only [AD.ok] at e1 e2
    simp [execOp, e1, e2, eqGuard_quo, binOp_quo, Op.intDiv, hb]) h
theorem k5A {w : World} {b b' : Nat} {o : Obj} (cs : Array Value) (h : w.heap[b']? = some o) (hne : b' ≠ b) : (w.setRow b cs).heap[b']? = some o := by
  rw [setRow_other w b b' cs hne]; exact h
end
theorem MkI.setRow {base e : Nat} {w : World} {v : Value} {p : Nat → Bool} (h : MkI base e w v p) {b : Nat} {cur : Array Value} {e' : TypeId} {j : Nat × Nat} (hb : w.heap[b]? = some (.cells cur e' j)) (hne : e ≠ e') (cs : Array Value) : MkI base e (w.setRow b cs) v p := by
  obtain ⟨bm, rfl, h1, h2⟩ := h
  refine ⟨bm, rfl, h1, ?_⟩
  rw [setRow_other w b bm cs (fun he => ?_)]
  · exact h2
  · subst he
    rw [h2] at hb
    simp only [Option.some.injEq, Obj.cells.injEq] at hb
    exact hne hb.2.1
end Go.LA
end
section
set_option linter.unusedVariables false
set_option linter.unusedSimpArgs false
namespace Go.LA
open Go.RowKit
def q2A (E : Env) (o : Oper) : AD := match o.dst with | some d => lkE E d | none => .any
def ewA (l : List Oper) (M : List Nat) (q i : Nat) : Nat :=
  bif M.contains i then (bif (M.take q).contains i then 0 else 3)
  else bif (M.drop q).any (fun m => ((elA l []).getD i 0).testBit m) then 3
  else bif (M.take q).any (fun m => ((elA l []).getD m 0).testBit i) then 0
  else bif q == 0 then 1
  else bif ((elA l []).getD i 0).testBit (M.getD (q - 1) 0) then 1 else 2
def okM (l : List Oper) (M : List Nat) : Bool :=
  (List.range M.length).all (fun q => decide (M.getD q 0 < l.length) && (q == 0 || (decide (M.getD (q - 1) 0 < M.getD q 0) && ((elA l []).getD (M.getD q 0) 0).testBit (M.getD (q - 1) 0)))) &&
  l.zipIdx.all (fun (o, i) => l.zipIdx.all (fun (oj, j) => match oj.dst with
    | none => true
    | some d => decide (j ≤ i) || !(o.looksAt l.toArray).contains d || (!M.contains i && ((elA l []).getD (M.getD 0 0) 0).testBit i))) &&
  l.zipIdx.all (fun (o, i) => !M.contains i || o.guard.isNone)
structure OkM (l : List Oper) (M : List Nat) : Prop where
  lt : ∀ q, q < M.length → M.getD q 0 < l.length
  inc1 : ∀ q, q + 1 < M.length → M.getD q 0 < M.getD (q + 1) 0
  chain : ∀ q, q + 1 < M.length → ((elA l []).getD (M.getD (q + 1) 0) 0).testBit (M.getD q 0) = true
  later : ∀ (i : Nat) (o : Oper) (j : Nat) (oj : Oper) (d : Nat), l[i]? = some o → l[j]? = some oj → oj.dst = some d → d ∈ o.looksAt l.toArray → i < j → i ∉ M ∧ ((elA l []).getD (M.getD 0 0) 0).testBit i = true
  grd : ∀ (i : Nat) (o : Oper), i ∈ M → l[i]? = some o → o.guard = none
theorem qvA {l : List Oper} {M : List Nat} (h : okM l M = true) : OkM l M := by
  unfold okM at h
  simp only [Bool.and_eq_true, List.all_eq_true, List.mem_range] at h
  obtain ⟨⟨h1, h2⟩, h3⟩ := h
  refine ⟨fun q hq => ?_, fun q hq => ?_, fun q hq => ?_, fun i o j oj d ho hj hd hl hij => ?_, fun i o hi ho => ?_⟩
  · have := (h1 q hq).1; simpa using this
  · have := (h1 (q + 1) hq).2
    simp only [Nat.add_sub_cancel, Bool.or_eq_true, beq_iff_eq, Bool.and_eq_true, decide_eq_true_eq] at this
    rcases this with h | h
    · omega
    · exact h.1
  · have := (h1 (q + 1) hq).2
    simp only [Nat.add_sub_cancel, Bool.or_eq_true, beq_iff_eq, Bool.and_eq_true, decide_eq_true_eq] at this
    rcases this with h | h
    · omega
    · exact h.2
  · have := h2 (o, i) (by rw [List.mem_zipIdx_iff_getElem?]; exact ho) (oj, j) (by rw [List.mem_zipIdx_iff_getElem?]; exact hj)
    simp only [hd, Bool.or_eq_true, decide_eq_true_eq, Bool.and_eq_true] at this
    rcases this with (h | h) | h
    · omega
    · have hc : (o.looksAt l.toArray).contains d = true := by simpa using hl
      rw [hc] at h; cases h
    · exact ⟨by simpa using h.1, h.2⟩
  · have := h3 (o, i) (by rw [List.mem_zipIdx_iff_getElem?]; exact ho)
    have hc : M.contains i = true := by simpa using hi
    simp only [hc, Bool.not_true, Bool.false_or] at this
    simpa using this
theorem OkM.inc {l : List Oper} {M : List Nat} (h : OkM l M) (q : Nat) : ∀ q', q < q' → q' < M.length → M.getD q 0 < M.getD q' 0
  | 0, h1, _ => by omega
  | q' + 1, h1, h2 => by
    by_cases e : q = q'
    · subst e; exact h.inc1 q h2
    · exact Nat.lt_trans (h.inc q q' (by omega) (by omega)) (h.inc1 q' h2)
theorem mem_at {M : List Nat} {m : Nat} : m ∈ M ↔ ∃ q, q < M.length ∧ M.getD q 0 = m := by
  constructor
  · intro h
    obtain ⟨q, hq, rfl⟩ := List.getElem_of_mem h
    exact ⟨q, hq, by simp [List.getD, hq]⟩
  · rintro ⟨q, hq, rfl⟩
    have : M.getD q 0 = M[q] := by simp [List.getD, hq]
    rw [this]; exact List.getElem_mem hq
theorem mem_take_at {M : List Nat} {m n : Nat} : m ∈ M.take n ↔ ∃ q, q < n ∧ q < M.length ∧ M.getD q 0 = m := by
  rw [mem_at]
  constructor
  · rintro ⟨q, hq, h⟩
    have h1 : q < n ∧ q < M.length := by simp at hq; omega
    exact ⟨q, h1.1, h1.2, by rw [← h]; simp [List.getD, List.getElem?_take, h1.1]⟩
  · rintro ⟨q, h1, h2, h⟩
    exact ⟨q, by simp; omega, by rw [← h]; simp [List.getD, List.getElem?_take, h1]⟩
theorem mem_drop_at {M : List Nat} {m n : Nat} : m ∈ M.drop n ↔ ∃ q, n ≤ q ∧ q < M.length ∧ M.getD q 0 = m := by
  rw [mem_at]
  constructor
  · rintro ⟨q, hq, h⟩
    exact ⟨n + q, by omega, by simp at hq; omega, by rw [← h]; simp [List.getD, List.getElem?_drop]⟩
  · rintro ⟨q, h1, h2, h⟩
    exact ⟨q - n, by simp; omega, by rw [← h]; simp [List.getD, List.getElem?_drop, show n + (q - n) = q by omega]⟩
section
variable {P : Program} {l : List Oper} {M : List Nat} {n N : Nat} {E0 : Env} {Φ : Nat → AD} {ws wb : World} {Q : Exit → Act → World → Prop} {S : Nat → Prop} {a : Act} {w : World}
def Cl (P : Program) (l : List Oper) (M : List Nat) (ws : World) (q : Nat) (Eo E : Env) (i : Nat) (o : Oper) (r : AD) : Prop :=
  (ewA l M q i = 0 ∧ r = q2A Eo o) ∨ (ewA l M q i = 1 ∧ Stp P l ws E o r) ∨ (ewA l M q i = 2 ∧ Stp P l ws E o r ∧ ∀ v w, Ext ws w → (q2A Eo o).ok v w → r.ok v w) ∨ (ewA l M q i = 3 ∧ r = .any)
def LP (P : Program) (l : List Oper) (M : List Nat) (ws : World) (q : Nat) (Eo : Env) (K : Env → Prop) : Nat → List Oper → Env → Prop
  | _, [], E => K E
  | i, o :: rest, E => ∃ r, Cl P l M ws q Eo E i o r ∧ LP P l M ws q Eo K (i + 1) rest (puE o.dst r E)
theorem pjA {q : Nat} {Eo : Env} {K : Env → Prop} (l : List Oper) (E0 : Env) :
    ∀ (m k : Nat) (Φ0 : Nat → AD), k + m = l.length → LP P l M ws q Eo K k (l.drop k) (env l E0 Φ0 k) →
      ∃ Φ : Nat → AD, (∀ i, i < k → Φ i = Φ0 i) ∧ (∀ i o, k ≤ i → l[i]? = some o → Cl P l M ws q Eo (env l E0 Φ i) i o (Φ i)) ∧ K (env l E0 Φ l.length) := by
  intro m
  induction m with
  | zero =>
    intro k Φ0 hk h
    obtain rfl : k = l.length := by omega
    rw [List.drop_length] at h
    exact ⟨Φ0, fun _ _ => rfl, fun i o h1 ho => by have := (List.getElem?_eq_some_iff.1 ho).1; omega, h⟩
  | succ m ih =>
    intro k Φ0 hk h
    have hlt : k < l.length := by omega
    have hd : l.drop k = l[k] :: l.drop (k + 1) := List.drop_eq_getElem_cons hlt
    rw [hd] at h
    obtain ⟨φ, hs, h⟩ := h
    let Φ1 : Nat → AD := fun i => if i = k then φ else Φ0 i
    have e1 : env l E0 Φ1 k = env l E0 Φ0 k := evA l E0 _ _ k (fun j hj => by simp [Φ1]; omega)
    have e2 : env l E0 Φ1 (k + 1) = puE l[k].dst φ (env l E0 Φ0 k) := by
      simp only [env, e1]; simp [Φ1, hlt]
    obtain ⟨Φ, g1, g2, g3⟩ := ih (k + 1) Φ1 (by omega) (by rw [e2]; exact h)
    refine ⟨Φ, fun i hi => by rw [g1 i (by omega)]; simp [Φ1]; omega, fun i o h1 ho => ?_, g3⟩
    by_cases e : i = k
    · subst e
      have e3 : env l E0 Φ i = env l E0 Φ0 i := evA l E0 _ _ i (fun j hj => by rw [g1 j (by omega)]; simp [Φ1]; omega)
      have e4 : Φ i = φ := by rw [g1 i (by omega)]; simp [Φ1]
      have e5 : o = l[i] := by rw [List.getElem?_eq_getElem hlt] at ho; exact (Option.some.inj ho).symm
      rw [e3, e4, e5]; exact hs
    · exact g2 i o (by omega) ho
def MX (P : Program) (N : Nat) (l : List Oper) (Q : Exit → Act → World → Prop) (m : Nat) (ws : World) (E : Env) (C : World → Env → Prop) : Prop :=
  ∀ o, l[m]? = some o → ∀ a w, a.tmps.size = N → a.defers = [] → Ext ws w → (∀ t, t ∈ o.looksAt l.toArray → (lkE E t).ok (a.tmps.getD t undef) w) →
    ∀ K : Act → World → Prop, (∀ v w' ws' E', Ext ws' w' → (∀ t, o.dst ≠ some t → (lkE E t).ok (a.tmps.getD t undef) w → (lkE E' t).ok (a.tmps.getD t undef) w') → (∀ d, o.dst = some d → (lkE E' d).ok v w') → C ws' E' → K (a.put o.dst v) w') → o.wp P a w K Q
def Phase (P : Program) (N : Nat) (l : List Oper) (Q : Exit → Act → World → Prop) (M : List Nat) : List Nat → Nat → World → Env → Prop
  | [], q, ws, E0 => LP P l M ws q E0 (fun E => PX N ws Q .normal E) 0 l E0
  | m :: Ms, q, ws, E0 => LP P l M ws q E0 (fun E => MX P N l Q m ws E (fun ws' E' => Phase P N l Q M Ms (q + 1) ws' E')) 0 l E0
def Nx (P : Program) (N : Nat) (l : List Oper) (Q : Exit → Act → World → Prop) (M : List Nat) (q : Nat) (ws : World) (E : Env) : List Nat → Prop
  | [] => PX N ws Q .normal E
  | m :: Ms => MX P N l Q m ws E (fun ws' E' => Phase P N l Q M Ms (q + 1) ws' E')
theorem Phase.nx {Ms : List Nat} {q : Nat} (h : Phase P N l Q M Ms q ws E0) : ∃ Φ : Nat → AD, (∀ i o, l[i]? = some o → Cl P l M ws q E0 (env l E0 Φ i) i o (Φ i)) ∧ Nx P N l Q M q ws (env l E0 Φ l.length) Ms := by
  cases Ms with
  | nil =>
    obtain ⟨Φ, -, h2, h3⟩ := pjA l E0 l.length 0 (fun _ => .any) (by omega) (show LP P l M ws q E0 _ 0 (l.drop 0) _ from h)
    exact ⟨Φ, fun i o ho => h2 i o (Nat.zero_le _) ho, h3⟩
  | cons m Ms =>
    obtain ⟨Φ, -, h2, h3⟩ := pjA l E0 l.length 0 (fun _ => .any) (by omega) (show LP P l M ws q E0 _ 0 (l.drop 0) _ from h)
    exact ⟨Φ, fun i o ho => h2 i o (Nat.zero_le _) ho, h3⟩
structure InvQ (l : List Oper) (E0 : Env) (Φ : Nat → AD) (N : Nat) (ws : World) (q : Nat) (S : Nat → Prop) (a : Act) (w : World) : Prop where
  sz : a.tmps.size = N
  df : a.defers = []
  ext : Ext ws w
  cl : ∀ j o, S j → l[j]? = some o → ∀ e ∈ o.after, Region.binds .any e = true → S e.on
  fx : ∀ (j : Nat) (o : Oper) (d : Nat), S j → l[j]? = some o → o.dst = some d → (Φ j).ok (a.tmps.getD d undef) w
  un : ∀ t : Nat, (∀ (j : Nat) (o : Oper), (q = 0 → S j) → l[j]? = some o → o.dst ≠ some t) → (lkE E0 t).ok (a.tmps.getD t undef) w
theorem lhA {o : Oper} {v : Value} (hok : OkR l n N) (hsz : a.tmps.size = N) {i : Nat} (ho : l[i]? = some o) (t : Nat) : (a.put o.dst v).tmps.getD t undef = if o.dst = some t then v else a.tmps.getD t undef := by
  cases hd : o.dst with
  | none => simp [Act.put]
  | some d =>
    rw [i6A a d t v (by rw [hsz]; exact hok.dst i o d ho hd)]
    by_cases e : t = d
    · simp [e]
    · rw [if_neg e, if_neg (by simpa using fun h => e h.symm)]
theorem InvQ.opnd (hok : OkR l n N) (hM : OkM l M) {q : Nat} (hq : q ≤ M.length) (hI : InvQ l E0 Φ N ws q S a w) (hS : ∀ q', q' < q → S (M.getD q' 0)) {i : Nat} {o : Oper} (ho : l[i]? = some o) (hun : ¬ S i) (hr : ∀ e ∈ o.after, Region.binds .any e = true → S e.on)
    {t : Nat} (ht : t ∈ o.looksAt l.toArray) : (lkE (env l E0 Φ i) t).ok (a.tmps.getD t undef) w := by
  by_cases hw : ∃ j oj, j < i ∧ l[j]? = some oj ∧ oj.dst = some t
  · obtain ⟨j, oj, hj, hoj, hd⟩ := hw
    rw [dkA l E0 Φ t j oj hoj hd i hj (fun k o' h1 h2 h3 h4 => by have := hok.uniq k o' j oj t h3 hoj hd h4; omega)]
    have hb := (hok.look i o j oj t ho hoj hd ht).2.1 hj
    exact hI.fx j oj t (cgA l S hI.cl i o j ho hr hb) hoj hd
  · rw [dlA l E0 Φ t i (fun j o' h1 h2 h3 => hw ⟨j, o', h1, h2, h3⟩)]
    refine hI.un t (fun j oj hj hoj hd => ?_)
    have h1 := hok.look i o j oj t ho hoj hd ht
    have hji : ¬ j < i := fun h => hw ⟨j, oj, h, hoj, hd⟩
    have hij : i < j := by have := h1.1; omega
    by_cases hq0 : q = 0
    · exact hun (cgA l S hI.cl j oj i hoj (hI.cl j oj (hj hq0) hoj) (h1.2.2 hij))
    · have h2 := (hM.later i o j oj t ho hoj hd ht hij).2
      have h0 := hS 0 (by omega)
      have hlt := hM.lt 0 (by omega)
      exact hun (cgA l S hI.cl (M.getD 0 0) _ i (List.getElem?_eq_getElem hlt) (hI.cl _ _ h0 (List.getElem?_eq_getElem hlt)) h2)
theorem InvQ.opndM (hok : OkR l n N) (hM : OkM l M) {q : Nat} (hI : InvQ l E0 Φ N ws q S a w) {i : Nat} {o : Oper} (hi : i ∈ M) (ho : l[i]? = some o) (hr : ∀ e ∈ o.after, Region.binds .any e = true → S e.on)
    {t : Nat} (ht : t ∈ o.looksAt l.toArray) : (lkE (env l E0 Φ l.length) t).ok (a.tmps.getD t undef) w := by
  by_cases hw : ∃ (j : Nat) (oj : Oper), l[j]? = some oj ∧ oj.dst = some t
  · obtain ⟨j, oj, hoj, hd⟩ := hw
    have hjl : j < l.length := (List.getElem?_eq_some_iff.1 hoj).1
    rw [dkA l E0 Φ t j oj hoj hd _ hjl (fun k o' h1 h2 h3 h4 => by have := hok.uniq k o' j oj t h3 hoj hd h4; omega)]
    have h1 := hok.look i o j oj t ho hoj hd ht
    have hji : j < i := by
      rcases Nat.lt_or_ge j i with h | h
      · exact h
      · exact absurd hi (hM.later i o j oj t ho hoj hd ht (by have := h1.1; omega)).1
    exact hI.fx j oj t (cgA l S hI.cl i o j ho hr (h1.2.1 hji)) hoj hd
  · rw [dlA l E0 Φ t _ (fun j o' h1 h2 h3 => hw ⟨j, o', h2, h3⟩)]
    exact hI.un t (fun j oj _ hoj hd => hw ⟨j, oj, hoj, hd⟩)
theorem InvQ.step (hok : OkR l n N) {q : Nat} (hI : InvQ l E0 Φ N ws q S a w) {i : Nat} {o : Oper} (ho : l[i]? = some o) (hun : ¬ S i)
    (hr : ∀ e ∈ o.after, Region.binds .any e = true → S e.on) {w' : World} (hw : Ext w w') {v : Value} (hv : (Φ i).ok v w') : InvQ l E0 Φ N ws q (fun j => S j ∨ j = i) (a.put o.dst v) w' := by
  have put_t := fun t => lhA (v := v) hok hI.sz ho t
  refine ⟨?_, ?_, hI.ext.trans hw, ?_, ?_, ?_⟩
  · cases hd : o.dst <;> simp [Act.put, hI.sz]
  · cases hd : o.dst <;> simp [Act.put, hI.df]
  · rintro j oj (hj | rfl) hoj e he hb
    · exact .inl (hI.cl j oj hj hoj e he hb)
    · rw [ho] at hoj; obtain rfl := Option.some.inj hoj; exact .inl (hr e he hb)
  · rintro j oj d (hj | rfl) hoj hd
    · rw [put_t, if_neg (fun h => by have := hok.uniq i o j oj d ho hoj hd h; subst this; exact hun hj)]
      exact (Φ j).mono hw (hI.fx j oj d hj hoj hd)
    · rw [ho] at hoj; obtain rfl := Option.some.inj hoj
      rw [put_t, if_pos hd]; exact hv
  · intro t ht
    rw [put_t, if_neg (ht i o (fun _ => .inr rfl) ho)]
    exact (lkE E0 t).mono hw (hI.un t (fun j oj hj => ht j oj (fun h => .inl (hj h))))
theorem mpA (hok : OkR l n N) (hM : OkM l M) :
    ∀ (fuel q : Nat) (Ms : List Nat) (ws : World) (E0 : Env) (Φ : Nat → AD) (listed : Array Bool) (a : Act) (w : World), Ms = M.drop q → q ≤ M.length → listed.size = l.length → (listed.toList.filter (!·)).length = fuel →
      (∀ q', q' < M.length → (listed.getD (M.getD q' 0) false = true ↔ q' < q)) → (∀ i o, l[i]? = some o → Cl P l M ws q E0 (env l E0 Φ i) i o (Φ i)) → Nx P N l Q M q ws (env l E0 Φ l.length) Ms →
      InvQ l E0 Φ N ws q (fun j => listed.getD j false = true) a w → wpAny P .any l.toArray Q fuel listed a w := by
  intro fuel
  induction fuel with
  | zero =>
    intro q Ms ws E0 Φ listed a w hMs hq hsz hf hSM hCl hNx hI
    have hall : ∀ j, j < l.length → listed.getD j true = true ∧ listed.getD j false = true := fun j hj => by
      have h0 : listed.toList.filter (!·) = [] := List.eq_nil_of_length_eq_zero hf
      rw [List.filter_eq_nil_iff] at h0
      have hj' : j < listed.size := by omega
      have := h0 listed[j] (by simp)
      simp only [Bool.not_eq_true', Bool.not_eq_false] at this
      simp [Array.getD, hj', this]
    have hqe : q = M.length := by
      rcases Nat.lt_or_ge q M.length with h | h
      · have h1 := (hSM q h).1 (hall _ (hM.lt q h)).2; omega
      · omega
    have : Ms = [] := by rw [hMs, hqe, List.drop_length]
    subst this
    refine ⟨?_, ?_⟩
    · rw [List.eq_nil_iff_forall_not_mem]
      intro j hj
      obtain ⟨h1, o, ho, _⟩ := mem_ready.1 hj
      have hjl : j < l.length := by have := (Array.getElem?_eq_some_iff.1 ho).1; simpa using this
      rw [(hall j hjl).1] at h1; cases h1
    · unfold Nx PX at hNx
      refine hNx a w ⟨hI.sz, hI.df, hI.ext, fun t => ?_⟩
      by_cases hw : ∃ (j : Nat) (oj : Oper), l[j]? = some oj ∧ oj.dst = some t
      · obtain ⟨j, oj, hoj, hd⟩ := hw
        have hjl : j < l.length := (List.getElem?_eq_some_iff.1 hoj).1
        rw [dkA l E0 Φ t j oj hoj hd _ hjl (fun k o' h1 h2 h3 h4 => by have := hok.uniq k o' j oj t h3 hoj hd h4; omega)]
        exact hI.fx j oj t (hall j hjl).2 hoj hd
      · rw [dlA l E0 Φ t _ (fun j o' h1 h2 h3 => hw ⟨j, o', h2, h3⟩)]
        exact hI.un t (fun j oj _ hoj hd => hw ⟨j, oj, hoj, hd⟩)
  | succ fuel ih =>
    intro q Ms ws E0 Φ listed a w hMs hq hsz hf hSM hCl hNx hI
    have hun : ∃ i, i < l.length ∧ listed.getD i false = false ∧ ∀ j, j < i → listed.getD j false = true := by
      have : ∃ i, i < l.length ∧ listed.getD i false = false := by
        apply Classical.byContradiction
        intro hno
        have : listed.toList.filter (!·) = [] := by
          rw [List.filter_eq_nil_iff]
          intro b hb
          obtain ⟨i, hi, rfl⟩ := List.getElem_of_mem hb
          have hi' : i < listed.size := by simpa using hi
          have h2 : listed.getD i false ≠ false := fun h => hno ⟨i, by omega, h⟩
          simp [Array.getD, hi'] at h2
          simp [h2]
        rw [this] at hf; simp at hf
      obtain ⟨i, hi, hli⟩ := this
      have : ∀ m, (∃ i, i < m ∧ i < l.length ∧ listed.getD i false = false) → ∃ i, i < l.length ∧ listed.getD i false = false ∧ ∀ j, j < i → listed.getD j false = true := by
        intro m
        induction m with
        | zero => rintro ⟨i, h, _⟩; omega
        | succ m ihm =>
          rintro ⟨i, h1, h2, h3⟩
          by_cases hex : ∃ i, i < m ∧ i < l.length ∧ listed.getD i false = false
          · exact ihm hex
          · refine ⟨i, h2, h3, fun j hj => ?_⟩
            have hj2 : listed.getD j false ≠ false := fun h => hex ⟨j, by omega, by omega, h⟩
            simpa using hj2
      exact this (i + 1) ⟨i, by omega, hi, hli⟩
    refine ⟨fun h0 => ?_, fun i hi => ?_⟩
    · obtain ⟨i, hil, hli, hlow⟩ := hun
      have : i ∈ Region.ready .any l.toArray listed := by
        refine mem_ready.2 ⟨by have h' : i < listed.size := by omega
                               simp [Array.getD, h'] at hli ⊢; exact hli, l[i], by simp [hil], fun e he hb => hlow _ (hok.back i l[i] (List.getElem?_eq_getElem hil) e he hb)⟩
      rw [h0] at this; cases this
    · obtain ⟨h1, o, ho, he⟩ := mem_ready.1 hi
      have hil : i < l.length := by have := (Array.getElem?_eq_some_iff.1 ho).1; simpa using this
      have ho' : l[i]? = some o := by simpa using ho
      have hli : ¬ (listed.getD i false = true) := by
        have h' : i < listed.size := by omega
        simp [Array.getD, h'] at h1 ⊢; exact h1
      have hset : ∀ j, (listed.setIfInBounds i true).getD j false = true ↔ (listed.getD j false = true ∨ j = i) := fun j => by
        simp only [Array.getD_eq_getD_getElem?]
        by_cases e : j = i
        · subst e; simp [hsz, hil]
        · rw [Array.getElem?_setIfInBounds_ne (by omega)]; simp [e]
      have hseq : (fun j => (listed.setIfInBounds i true).getD j false = true) = (fun j => listed.getD j false = true ∨ j = i) := funext fun j => propext (hset j)
      have hcount : ((listed.setIfInBounds i true).toList.filter (!·)).length = fuel := by
        have hi' : i < listed.toList.length := by simp; omega
        have e1 : listed.toList = listed.toList.take i ++ false :: listed.toList.drop (i + 1) := by
          conv => lhs; rw [← List.take_append_drop i listed.toList, List.drop_eq_getElem_cons hi']
          have : listed.toList[i] = false := by
            have h' : i < listed.size := by omega
            simp [Array.getD, h'] at hli; simpa using hli
          rw [this]
        have e2 : (listed.setIfInBounds i true).toList = listed.toList.take i ++ true :: listed.toList.drop (i + 1) := by
          rw [Array.toList_setIfInBounds, List.set_eq_take_append_cons_drop, if_pos hi']
        rw [e1] at hf
        rw [e2]
        simp [List.filter_append] at hf ⊢
        omega
      have hbc : ∀ j, ((elA l []).getD i 0).testBit j = true → listed.getD j false = true := fun j hb => cgA l _ hI.cl i o j ho' he hb
      have hSb : ∀ j, listed.getD j false = true → ∀ k, ((elA l []).getD j 0).testBit k = true → listed.getD k false = true := fun j hj k hb => by
        have hjl : j < l.length := by
          rcases Nat.lt_or_ge j listed.size with h | h
          · omega
          · simp [Array.getD, Nat.not_lt.2 h] at hj
        exact cgA l _ hI.cl j _ k (List.getElem?_eq_getElem hjl) (hI.cl j _ hj (List.getElem?_eq_getElem hjl)) hb
      by_cases hiM : i ∈ M
      · obtain ⟨q', hq', rfl⟩ := mem_at.1 hiM
        have hqq : q' = q := by
          have hge : ¬ q' < q := fun h => hli ((hSM q' hq').2 h)
          rcases Nat.lt_or_ge q q' with h | h
          · have h2 := hM.chain (q' - 1) (by omega)
            rw [show q' - 1 + 1 = q' by omega] at h2
            have h3 := (hSM (q' - 1) (by omega)).1 (hbc _ h2)
            omega
          · omega
        subst hqq
        have hMs2 : Ms = M.getD q' 0 :: M.drop (q' + 1) := by
          rw [hMs, List.drop_eq_getElem_cons hq']; simp [List.getD, hq']
        subst hMs2
        have hg := hM.grd _ o hiM ho'
        unfold wpOp
        simp only [ho]
        have hwt : Region.wanted o (yielded l.toArray a.tmps) = true := by unfold Region.wanted; rw [hg]
        rw [hwt, if_pos rfl]
        refine .inl (hNx o ho' a w hI.sz hI.df hI.ext (fun t ht => hI.opndM hok hM hiM ho' he ht) _ (fun v w' ws' E' hx htr hd hC => ?_))
        obtain ⟨Φ', hCl', hNx'⟩ := hC.nx
        have put_t := fun t => lhA (v := v) hok hI.sz ho' t
        have hlk : ∀ j oj d, l[j]? = some oj → oj.dst = some d → lkE (env l E0 Φ l.length) d = Φ j := fun j oj d hoj hd =>
          dkA l E0 Φ d j oj hoj hd _ (List.getElem?_eq_some_iff.1 hoj).1 (fun k o' h1 h2 h3 h4 => by have := hok.uniq k o' j oj d h3 hoj hd h4; omega)
        refine ih (q' + 1) _ ws' E' Φ' _ _ w' rfl hq' (by simpa using hsz) hcount (fun q2 hq2 => ?_) hCl' hNx' ?_
        · rw [hset]
          constructor
          · rintro (h | h)
            · have := (hSM q2 hq2).1 h; omega
            · rcases Nat.lt_trichotomy q2 q' with h' | h' | h'
              · omega
              · omega
              · have := hM.inc q' q2 h' hq2; omega
          · intro h
            by_cases e : q2 = q'
            · right; rw [e]
            · left; exact (hSM q2 hq2).2 (by omega)
        · rw [hseq]
          refine ⟨?_, ?_, hx, ?_, ?_, ?_⟩
          · cases hd : o.dst <;> simp [Act.put, hI.sz]
          · cases hd : o.dst <;> simp [Act.put, hI.df]
          · rintro j oj (hj | rfl) hoj e he' hb
            · exact .inl (hI.cl j oj hj hoj e he' hb)
            · rw [ho'] at hoj; obtain rfl := Option.some.inj hoj; exact .inl (he e he' hb)
          · rintro j oj d (hj | rfl) hoj hdj
            · have hne : o.dst ≠ some d := fun h => by have := hok.uniq _ o j oj d ho' hoj hdj h; subst this; exact hli hj
              rw [put_t, if_neg hne]
              have hold : (q2A E' oj).ok (a.tmps.getD d undef) w' := by
                unfold q2A; rw [hdj]
                have := hI.fx j oj d hj hoj hdj
                rw [← hlk j oj d hoj hdj] at this
                exact htr d hne this
              rcases hCl' j oj hoj with ⟨-, h⟩ | ⟨hc, -⟩ | ⟨-, -, h⟩ | ⟨-, h⟩
              · rw [h]; exact hold
              · exfalso
                unfold ewA at hc
                by_cases hjM : j ∈ M
                · have : M.contains j = true := by simpa using hjM
                  rw [this, cond_true] at hc
                  cases hct : (M.take (q' + 1)).contains j <;> rw [hct] at hc <;> cases hc
                · have : M.contains j = false := by simpa using hjM
                  rw [this, cond_false] at hc
                  have hb : ((elA l []).getD j 0).testBit (M.getD q' 0) = true := by
                    cases hA : (M.drop (q' + 1)).any fun m => ((elA l []).getD j 0).testBit m
                    · rw [hA, cond_false] at hc
                      cases hB : (M.take (q' + 1)).any fun m => ((elA l []).getD m 0).testBit j
                      · rw [hB, cond_false] at hc
                        have : (q' + 1 == 0) = false := rfl
                        rw [this, cond_false, Nat.add_sub_cancel] at hc
                        cases hb : ((elA l []).getD j 0).testBit (M.getD q' 0)
                        · rw [hb] at hc; cases hc
                        · rfl
                      · rw [hB] at hc; cases hc
                    · rw [hA] at hc; cases hc
                  exact hli (hSb j hj _ hb)
              · exact h _ _ hx hold
              · rw [h]; trivial
            · rw [ho'] at hoj; obtain rfl := Option.some.inj hoj
              rw [put_t, if_pos hdj]
              have hold : (q2A E' o).ok v w' := by unfold q2A; rw [hdj]; exact hd d hdj
              have hcls : ewA l M (q' + 1) (M.getD q' 0) = 0 := by
                unfold ewA
                have e1 : M.contains (M.getD q' 0) = true := by simpa using hiM
                have e2 : (M.take (q' + 1)).contains (M.getD q' 0) = true := by
                  have : M.getD q' 0 ∈ M.take (q' + 1) := mem_take_at.2 ⟨q', by omega, hq', rfl⟩
                  simpa using this
                rw [e1, e2]; rfl
              rcases hCl' _ o ho' with ⟨-, h⟩ | ⟨h, -⟩ | ⟨h, -⟩ | ⟨h, -⟩
              · rw [h]; exact hold
              · rw [hcls] at h; cases h
              · rw [hcls] at h; cases h
              · rw [hcls] at h; cases h
          · intro t ht
            have hne := ht _ o (fun h => by omega) ho'
            rw [put_t, if_neg hne]
            refine htr t hne ?_
            rw [dlA l E0 Φ t _ (fun j o' h1 h2 h3 => ht j o' (fun h => by omega) h2 h3)]
            exact hI.un t (fun j oj hj hoj => ht j oj (fun h => by omega) hoj)
      · unfold wpOp
        simp only [ho]
        have hcls : Stp P l ws (env l E0 Φ i) o (Φ i) := by
          have hMi : M.contains i = false := by simpa using hiM
          rcases hCl i o ho' with ⟨h, -⟩ | ⟨-, h⟩ | ⟨-, h, -⟩ | ⟨h, -⟩
          · exfalso
            unfold ewA at h
            rw [hMi, cond_false] at h
            cases hA : (M.drop q).any fun m => ((elA l []).getD i 0).testBit m
            · rw [hA, cond_false] at h
              cases hB : (M.take q).any fun m => ((elA l []).getD m 0).testBit i
              · rw [hB, cond_false] at h
                cases h1 : (q == 0) <;> rw [h1] at h
                · rw [cond_false] at h
                  cases h2 : ((elA l []).getD i 0).testBit (M.getD (q - 1) 0) <;> rw [h2] at h <;> cases h
                · cases h
              · obtain ⟨m, hm, hb⟩ := List.any_eq_true.1 hB
                obtain ⟨q2, h2, h3, rfl⟩ := mem_take_at.1 hm
                exact hli (hSb _ ((hSM q2 h3).2 h2) i hb)
            · rw [hA] at h; cases h
          · exact h
          · exact h
          · exfalso
            unfold ewA at h
            rw [hMi, cond_false] at h
            cases hA : (M.drop q).any fun m => ((elA l []).getD i 0).testBit m
            · rw [hA, cond_false] at h
              cases hB : (M.take q).any fun m => ((elA l []).getD m 0).testBit i
              · rw [hB, cond_false] at h
                cases h1 : (q == 0) <;> rw [h1] at h
                · rw [cond_false] at h
                  cases h2 : ((elA l []).getD i 0).testBit (M.getD (q - 1) 0) <;> rw [h2] at h <;> cases h
                · cases h
              · rw [hB] at h; cases h
            · obtain ⟨m, hm, hb⟩ := List.any_eq_true.1 hA
              obtain ⟨q2, h2, h3, rfl⟩ := mem_drop_at.1 hm
              have := (hSM q2 h3).1 (hbc _ hb)
              omega
        refine ngA hcls hI.ext (fun t ht => hI.opnd hok hM hq (fun q' hq' => (hSM q' (by omega)).2 hq') ho' hli he ht) (fun v w' he' hv => ?_)
        have hI' := hI.step hok ho' hli he he' hv
        refine ih q Ms ws E0 Φ _ _ w' hMs hq (by simpa using hsz) hcount (fun q2 hq2 => ?_) hCl hNx ?_
        · rw [hset]
          constructor
          · rintro (h | h)
            · exact (hSM q2 hq2).1 h
            · exact absurd (mem_at.2 ⟨q2, hq2, h⟩) hiM
          · intro h; left; exact (hSM q2 hq2).2 h
        · rw [hseq]; exact hI'
theorem ajA (M : List Nat) {id : Nat} {E : Env} (hP : P.follows .mixedOrders = true) (hok : okR l l.length N = true) (hM : okM l M = true) (h : Phase P N l Q M M 0 wb E) : CX P N wb (.region id l.toArray true) E Q := by
  unfold CX
  intro a w hst
  have hok' := llA hok
  have hM' := qvA hM
  obtain ⟨Φ, h2, h3⟩ := h.nx
  refine wp_region_any hP ?_
  rw [List.size_toArray]
  have hno : ∀ j, (Array.replicate l.length false).getD j false = true → False := fun j hj => by
    simp [Array.getD_eq_getD_getElem?, Array.getElem?_replicate] at hj
    split at hj <;> cases hj
  refine mpA hok' hM' _ 0 M wb E Φ _ _ _ rfl (Nat.zero_le _) (by simp) (by simp) (fun q' hq' => ⟨fun h => (hno _ h).elim, fun h => by omega⟩) h2 h3 ?_
  exact ⟨hst.sz, hst.df, hst.ext.trans Ext.drawn, fun j o hj => (hno _ hj).elim, fun j o d hj => (hno _ hj).elim, fun t _ => (lkE E t).mono Ext.drawn (hst.sat t)⟩
variable {rest : List Oper} {E Eo : Env} {q i m d : Nat} {o : Oper} {K : Env → Prop} {F : Env → Prop}
def Kx (rest : List Oper) (F : Env → Prop) : List Oper → Env → Prop := fun rest' E => rest' = rest ∧ F E
theorem tiA : ∀ (k : List Oper) {E : Env}, LA P l ws (Kx rest F) k E → rest.length ≤ k.length
  | [], _, h => by rw [g3A] at h; rw [← h.1]; exact Nat.le_refl _
  | o :: k, _, h => by
    rw [dsA] at h
    rcases h with ⟨r, -, h⟩ | h
    · have := tiA k h; simp; omega
    · rw [← h.1]; exact Nat.le_refl _
theorem xoA (h : LA P l ws (Kx rest F) rest E) : F E := by
  cases rest with
  | nil => rw [g3A] at h; exact h.2
  | cons o r =>
    rw [dsA] at h
    rcases h with ⟨r0, -, h⟩ | h
    · have := tiA r h; simp at this; omega
    · exact h.2
theorem l1A (h : F E) : LA P l ws (Kx rest F) rest E := by
  cases rest with
  | nil => rw [g3A]; exact ⟨rfl, h⟩
  | cons o r => rw [dsA]; exact .inr ⟨rfl, h⟩
theorem xiA (h : K E) : LP P l M ws q Eo K i [] E := h
theorem xhA (hc : ewA l M q i = 1) (h : LA P l ws (Kx rest (LP P l M ws q Eo K (i + 1) rest)) (o :: rest) E) : LP P l M ws q Eo K i (o :: rest) E := by
  rw [dsA] at h
  rcases h with ⟨r, hs, h⟩ | h
  · exact ⟨r, .inr (.inl ⟨hc, hs⟩), xoA h⟩
  · have := congrArg List.length h.1; simp at this
def Ff (P : Program) (l : List Oper) (M : List Nat) (ws : World) (q : Nat) (Eo : Env) (K : Env → Prop) (d i : Nat) (rest : List Oper) (E : Env) : Prop :=
  (∃ r E2, E = (d, r) :: E2 ∧ ∀ v w, Ext ws w → (lkE Eo d).ok v w → r.ok v w) ∧ LP P l M ws q Eo K (i + 1) rest E
theorem s7A (hc : ewA l M q i = 2) (hd : o.dst = some d) (h : LA P l ws (Kx rest (Ff P l M ws q Eo K d i rest)) (o :: rest) E) : LP P l M ws q Eo K i (o :: rest) E := by
  rw [dsA] at h
  rcases h with ⟨r, hs, h⟩ | h
  · obtain ⟨⟨r', E2, h1, h2⟩, h3⟩ := xoA h
    rw [hd] at h1
    simp only [puE, List.cons.injEq, Prod.mk.injEq, true_and] at h1
    obtain ⟨rfl, -⟩ := h1
    exact ⟨r, .inr (.inr (.inl ⟨hc, hs, by unfold q2A; rw [hd]; exact h2⟩)), h3⟩
  · have := congrArg List.length h.1; simp at this
theorem skA {c : Value} (hl : lkE Eo d = .val c) (h : LP P l M ws q Eo K (i + 1) rest ((d, .val c) :: E)) : LA P l ws (Kx rest (Ff P l M ws q Eo K d i rest)) rest ((d, .val c) :: E) :=
  l1A ⟨⟨_, _, rfl, fun v w _ hv => by rw [hl] at hv; exact hv⟩, h⟩
theorem smA (h : LP P l M ws q Eo K (i + 1) rest E) : LA P l ws (Kx rest (LP P l M ws q Eo K (i + 1) rest)) rest E := l1A h
theorem slA {r : AD} (hr : ∀ v w, Ext ws w → (lkE Eo d).ok v w → r.ok v w) (h : LP P l M ws q Eo K (i + 1) rest ((d, r) :: E)) : LA P l ws (Kx rest (Ff P l M ws q Eo K d i rest)) rest ((d, r) :: E) :=
  l1A ⟨⟨_, _, rfl, hr⟩, h⟩
theorem s8A {v : Value} (hc : ewA l M q i = 0) (hd : o.dst = some d) (hl : lkE Eo d = .val v) (h : LP P l M ws q Eo K (i + 1) rest ((d, .val v) :: E)) : LP P l M ws q Eo K i (o :: rest) E :=
  ⟨.val v, .inl ⟨hc, by unfold q2A; rw [hd]; exact hl.symm⟩, by rw [hd]; exact h⟩
theorem s9A {φ : AV} (hc : ewA l M q i = 0) (hd : o.dst = some d) (hl : lkE Eo d = .pred φ) (h : LP P l M ws q Eo K (i + 1) rest ((d, .pred φ) :: E)) : LP P l M ws q Eo K i (o :: rest) E :=
  ⟨.pred φ, .inl ⟨hc, by unfold q2A; rw [hd]; exact hl.symm⟩, by rw [hd]; exact h⟩
theorem saA (hc : ewA l M q i = 0) (hd : o.dst = some d) (hl : lkE Eo d = .any) (h : LP P l M ws q Eo K (i + 1) rest ((d, .any) :: E)) : LP P l M ws q Eo K i (o :: rest) E :=
  ⟨.any, .inl ⟨hc, by unfold q2A; rw [hd]; exact hl.symm⟩, by rw [hd]; exact h⟩
theorem sbA (hc : ewA l M q i = 0) (hd : o.dst = none) (h : LP P l M ws q Eo K (i + 1) rest E) : LP P l M ws q Eo K i (o :: rest) E :=
  ⟨_, .inl ⟨hc, rfl⟩, by rw [hd]; exact h⟩
theorem s6A (hc : ewA l M q i = 3) (hd : o.dst = some d) (h : LP P l M ws q Eo K (i + 1) rest ((d, .any) :: E)) : LP P l M ws q Eo K i (o :: rest) E :=
  ⟨_, .inr (.inr (.inr ⟨hc, rfl⟩)), by rw [hd]; exact h⟩
theorem pkA (hc : ewA l M q i = 3) (hd : o.dst = none) (h : LP P l M ws q Eo K (i + 1) rest E) : LP P l M ws q Eo K i (o :: rest) E :=
  ⟨_, .inr (.inr (.inr ⟨hc, rfl⟩)), by rw [hd]; exact h⟩
theorem aiA {E0 : Env} (h : LP P l M ws q E0 (fun E => PX N ws Q .normal E) 0 l E0) : Phase P N l Q M [] q ws E0 := h
theorem a5A {Ms : List Nat} {E0 : Env} (h : LP P l M ws q E0 (fun E => MX P N l Q m ws E (fun ws' E' => Phase P N l Q M Ms (q + 1) ws' E')) 0 l E0) : Phase P N l Q M (m :: Ms) q ws E0 := h
theorem oLP (h : LP P l M ws q Eo K i rest E) : LP P l M ws q Eo K i rest E := h
variable {C : World → Env → Prop} {ty t t' : TypeId} {pos : String} {after : Array Edge} {x y z : Operand} {k k' : IntKind}
theorem upA {o : Oper} {t : Nat} (h : Operand.tmp t ∈ o.op.operands) : t ∈ o.looksAt l.toArray := by
  simp only [Oper.looksAt]; exact List.mem_append_left _ (List.mem_filterMap.2 ⟨.tmp t, by simpa using h, rfl⟩)
theorem jjA {o : Oper} {x : Operand} (h : ∀ t, t ∈ o.looksAt l.toArray → (lkE E t).ok (a.tmps.getD t undef) w) (hx : x ∈ o.op.operands) : (opE E x).ok (a.eval x) w := by
  cases x with
  | tmp t => exact h t (upA hx)
  | const v => rfl
  | global g => rfl
  | func f => rfl
theorem c0A {w w' : World} (t : Nat) (u : Value) (h : (lkE E t).ok u w) : (lkE (vals E) t).ok u w' := by
  rw [ndA]
  cases hl : lkE E t <;> rw [hl] at h <;> first | exact h | trivial
theorem dxA {b o : Nat} {cur : Array Value} {e : TypeId} {c : Value} {news : List Value} (hm : l[m]? = some ⟨none, .store t x y, ty, pos, after, none⟩) (hx : opE E x = .val (.pointer (some ⟨b, o, none⟩))) (hy : opE E y = .val c) (hb : ws.heap[b]? = some (.cells cur e (0, 0))) (hc : c.cells = news.toArray)
    (hs : ∀ w, (sizeOf t).run P w = .ok news.length w) (ho : o + news.length ≤ cur.size) (h1 : ∀ u ∈ news, u.oneCell' = true)
    (h : ∀ w, Ext ws w → ∃ E', (∀ t u, (lkE E t).ok u w → (lkE E' t).ok u (w.setRow b (cur.toList.take o ++ news ++ cur.toList.drop (o + news.length)).toArray)) ∧ C (w.setRow b (cur.toList.take o ++ news ++ cur.toList.drop (o + news.length)).toArray) E') : MX P N l Q m ws E C := by
  intro o' ho' a w hsz hdf hext hop K hK
  rw [hm] at ho'; obtain rfl := Option.some.inj ho'
  have e1 := jjA (x := x) hop (by simp [Op.operands]); rw [hx] at e1; simp only [AD.ok] at e1
  have e2 := jjA (x := y) hop (by simp [Op.operands]); rw [hy] at e2; simp only [AD.ok] at e2
  have hrun : (Instr.storeAt t (.pointer (some ⟨b, o, none⟩)) c).run P w = .ok () (w.setRow b (cur.toList.take o ++ news ++ cur.toList.drop (o + news.length)).toArray) := by
    have hst := run_storeCells_at P b o e news 0 cur w (hext.block hb) (by omega) h1
    rw [Nat.add_zero] at hst
    simp only [Instr.storeAt, Instr.sureAddr, storeVar, Sem.run_bind, Sem.run_pure, Result.andThen_ok, hs, hc, ne_eq, if_false, List.size_toArray, not_true_eq_false, hst]
  obtain ⟨E', hE, hC⟩ := h w hext
  unfold Oper.wp
  simp only [execOp, Sem.run_bind, e1, e2, hrun, Result.andThen_ok, Sem.run_pure, Oper.upon]
  exact hK undef _ _ E' (Ext.refl _) (fun t _ hu => hE t _ hu) (fun d hd => by cases hd) hC
theorem pfA (t : Nat) {φ : AV} {o : Oper} (hm : l[m]? = some o) (hlook : t ∈ o.looksAt l.toArray) (hl : lkE E t = .pred φ) (h : ∀ v w0, Ext ws w0 → φ.p v w0 → MX P N l Q m w0 ((t, .val v) :: E) C) : MX P N l Q m ws E C := by
  intro o' ho' a w hsz hdf hext hop K hK
  obtain rfl := Option.some.inj (hm.symm.trans ho')
  have h1 := hop t hlook
  rw [hl] at h1
  refine h _ w hext h1 o ho' a w hsz hdf (Ext.refl _) (fun t' ht' => ?_) K (fun v w' ws' E' hx htr hd hC => hK v w' ws' E' hx (fun t' hne hu => htr t' hne ?_) hd hC)
  · rw [btA]
    by_cases e : t' = t
    · subst e; rw [if_pos rfl]; rfl
    · rw [if_neg e]; exact hop t' ht'
  · rw [btA]
    by_cases e : t' = t
    · subst e; rw [if_pos rfl]; rfl
    · rw [if_neg e]; exact hu
theorem jpA {E E' : Env} {t0 : Nat} {r : AD} {w w' : World} (h0 : ∀ u, (lkE E t0).ok u w → r.ok u w') (h : ∀ t u, (lkE E t).ok u w → (lkE E' t).ok u w') (t : Nat) (u : Value) (hu : (lkE E t).ok u w) : (lkE ((t0, r) :: E') t).ok u w' := by
  rw [btA]
  by_cases e : t = t0
  · subst e; rw [if_pos rfl]; exact h0 u hu
  · rw [if_neg e]; exact h t u hu
theorem mbA {f : FuncId} {ats : Array TypeId} {fv : Operand} {v1 v2 v3 : Value} (hm : l[m]? = some ⟨some d, .call ⟨.value fv, #[x, y, z], ats⟩, ty, pos, after, none⟩) (hfv : opE E fv = .val (.func (.func f) #[] #[])) (hv1 : opE E x = .val v1) (hv2 : opE E y = .val v2) {r3 : AD} (hv3 : opE E z = r3) (R : World → Value → World → Prop)
    (hc : ∀ u3 w, Ext ws w → r3.ok u3 w → Fc P f #[v1, v2, u3] w (fun e w' => ∃ v, e = .returned v ∧ R w v w')) (h : ∀ v w w', Ext ws w → R w v w' → ∃ E', (∀ t u, d ≠ t → (lkE E t).ok u w → (lkE E' t).ok u w') ∧ C w' ((d, .val v) :: E')) : MX P N l Q m ws E C := by
  intro o' ho' a w hsz hdf hext hop K hK
  rw [hm] at ho'; obtain rfl := Option.some.inj ho'
  have h0 := jjA (x := fv) hop (by simp [Op.operands, Call.operands]); rw [hfv] at h0; simp only [AD.ok] at h0
  have ev1 := jjA (x := x) hop (by simp [Op.operands, Call.operands]); rw [hv1] at ev1; simp only [AD.ok] at ev1
  have ev2 := jjA (x := y) hop (by simp [Op.operands, Call.operands]); rw [hv2] at ev2; simp only [AD.ok] at ev2
  have ev3 := jjA (x := z) hop (by simp [Op.operands, Call.operands]); rw [hv3] at ev3
  have hcc := hc _ w hext ev3
  unfold Oper.wp
  rw [c2A h0 (Fc.run hcc _ _)]
  simp only [Oper.upon, List.map_toArray, List.map_cons, List.map_nil, ev1, ev2]
  refine hcc.calls.mono ?_
  rintro e w' ⟨v, rfl, hv⟩
  obtain ⟨E', hE, hC⟩ := h v w w' hext hv
  refine hK v w' w' _ (Ext.refl _) (fun t ht hu => ?_) (fun d' hd' => ?_) hC
  · rw [btA]
    by_cases e : t = d
    · subst e; exact absurd rfl ht
    · rw [if_neg e]; exact hE t _ (fun h => e h.symm) hu
  · cases hd'; rw [btA, if_pos rfl]; rfl
end
theorem wPh {G' G : Prop} (g : G') (h : G' → G := by
  intro h
  refine oLP ?_
  first | exact sbA (by decide +kernel) rfl h | exact s8A (by decide +kernel) rfl rfl h | exact s9A (by decide +kernel) rfl rfl h | exact saA (by decide +kernel) rfl rfl h | exact s6A (by decide +kernel) rfl h | exact pkA (by decide +kernel) rfl h | exact xhA (by decide +kernel) h | exact s7A (by decide +kernel) rfl h | exact xiA h) : G := h g
theorem wBk {G' G : Prop} (g : G') (h : G' → G := by
  intro h
  first | exact smA h | exact skA rfl h | exact slA (fun _ _ _ h => h) h | exact a0A rfl h) : G := h g
end Go.LA
end
section
set_option linter.unusedSimpArgs false
set_option linter.unusedVariables false
namespace Go.LA
open Go.RowKit
theorem Fr.grown {w w' : World} {row : Option Nat} (h : w.grownBy w' row) : Fr (fun k => row = some k) w w' :=
by
  obtain ⟨h1, h2, h3, h4, h5⟩ := h
  exact ⟨by assumption, by assumption, by assumption, by assumption, fun k hk hn => h5 k hk (fun e => hn e.symm)⟩
theorem Fr.grownBy {w w' : World} {row : Option Nat} (h : Fr (fun k => row = some k) w w') : w.grownBy w' row := by
  have h1 := h.os
  have h2 := h.tape
  have h3 := h.output
  have h4 := h.size
  exact ⟨by assumption, by assumption, by assumption, by assumption, fun k hk hn => h.block k hk (fun e => hn e.symm)⟩
theorem Own.rebase {base base' e s n : Nat} {w : World} {v : Value} {cs : List Value} (h : Own base e s w v n cs) (hb : ∀ k, v.ownBlock = some k → base' ≤ k) : Own base' e s w v n cs := by
  refine ⟨h.1, ?_⟩
  rcases h.2 with h0 | ⟨g, cap, cur, rfl, hb', r⟩
  · exact .inl h0
  · exact .inr ⟨g, cap, cur, rfl, hb g rfl, r⟩
def LocR (w : World) (v v' : Value) : Prop := v'.ownBlock = v.ownBlock ∨ ∀ k, v'.ownBlock = some k → w.heap.size ≤ k
theorem LocR.refl {w : World} {v : Value} : LocR w v v := .inl rfl
theorem LocR.le {w w0 : World} {v v' : Value} (h : LocR w v v') (hs : w0.heap.size ≤ w.heap.size) : LocR w0 v v' := h.imp id (fun h k hk => Nat.le_trans hs (h k hk))
theorem LocR.ge {w : World} {base : Nat} {v v' : Value} (h : LocR w v v') (hv : ∀ k, v.ownBlock = some k → base ≤ k) (hs : base ≤ w.heap.size) (k : Nat) (hk : v'.ownBlock = some k) : base ≤ k := by
  rcases h with h | h
  · exact hv k (h ▸ hk)
  · exact Nat.le_trans hs (h k hk)
theorem LocR.trans {w w' : World} {v v' v'' : Value} (h : LocR w v v') (h' : LocR w' v' v'') (hs : w.heap.size ≤ w'.heap.size) : LocR w v v'' := by
  rcases h' with h' | h'
  · rcases h with h | h
    · exact .inl (h'.trans h)
    · exact .inr fun k hk => h k (h' ▸ hk)
  · exact .inr fun k hk => Nat.le_trans hs (h' k hk)
section
variable {P : Program} {l : List Oper} {M : List Nat} {N : Nat} {ws wb : World} {K : List Oper → Env → Prop} {rest : List Oper} {E : Env} {Q : Exit → Act → World → Prop} {m : Nat} {C : World → Env → Prop}
variable {d : Tmp} {ty t t' : TypeId} {pos : String} {after : Array Edge} {g : Option (Nat × Bool)} {x y z : Operand} {k kd : IntKind}
theorem f9A {w : World} {base e s b n m : Nat} {v vy z : Value} {cs news : List Value} (hel : El P t e z s b) (hown : Own base e s w v n cs) (hy : SlC w vy m s news) (h1 : ∀ u ∈ news, u.oneCell' = true)
    (h63 : n + m ≤ maxLen) (hbytes : (n + m) * b ≤ 140737488355328) :
    ∃ v' w', (Builtin.append_ #[t, t] ty #[v, vy]).run P w = .ok v' w' ∧ Own 0 e s w' v' (n + m) (cs ++ news) ∧ Fr (fun k => v.ownBlock = some k) w w' ∧ LocR w v v' := by
  obtain ⟨i, hi1, hi2, hi3, hi4⟩ := hel.parts
  obtain ⟨h0, a, cap, rfl, hc, hm, hn, hcs⟩ := hy
  have hown0 : Own 0 e s w v n cs := hown.base (Nat.zero_le _)
  cases a with
  | none =>
    obtain rfl := hn rfl
    obtain rfl : m = 0 := by omega
    have hnews : news = [] := List.eq_nil_of_length_eq_zero (by simpa using h0)
    subst hnews
    exact ⟨v, w, run_append_owned_none (P := P) w 0 t ty e i s hel.ht hi1 v n cs hown0, by simpa using hown0, Fr.of (Ext.refl _), LocR.refl⟩
  | some a =>
    have hcells : ∀ (j : Nat) (u : Value), news[j]? = some u → w.cell? (a.add j) = some u := fun j u hj => by
      rcases hcs with rfl | ⟨b', off, ha, hc'⟩
      · have : news = [] := List.eq_nil_of_length_eq_zero (by simpa using h0)
        subst this; cases hj
      · obtain rfl := Option.some.inj ha
        rw [Addr.add_lit]; exact hc' j u hj
    obtain ⟨v', w', g1, g2, g3, g4, g5⟩ := run_append_own_at (P := P) w 0 t ty e i z s b hel.ht hi1 hi2 hi3 hi4 hel.zs hel.pos v n cs hown0 a m cap news h0 hcells h1 h63 hbytes (Nat.zero_le _)
    exact ⟨v', w', g1, g2, Fr.grown g3, g5.imp id (fun h k hk => by rw [h] at hk; cases hk; exact Nat.le_refl _)⟩
theorem daA {base e s b n m : Nat} {v z : Value} {cs news : List Value} {r : AD} (hg : g = none) (hd : d < N) (hel : El P t e z s b) (hx : opE E x = .val v) (hown : Own base e s wb v n cs) (hr : opE E y = r) (hy : HasC wb r m s news)
    (h1 : ∀ u ∈ news, u.oneCell' = true) (h63 : n + m ≤ maxLen) (hbytes : (n + m) * b ≤ 140737488355328)
    (h : ∀ v' w w', Ext wb w → Own 0 e s w' v' (n + m) (cs ++ news) → Fr (fun k => v.ownBlock = some k) w w' → LocR w v v' → LX P N w' l Q rest ((d, .val v') :: vals E)) :
    LX P N wb l Q (⟨some d, .call ⟨.builtin .append, #[x, y], #[t, t]⟩, ty, pos, after, g⟩ :: rest) E := by
  unfold LX
  intro a w st
  have e1 := st.opd x; rw [hx] at e1; simp only [AD.ok] at e1
  have e2 := st.opd y; rw [hr] at e2
  obtain ⟨v', w', g1, g2, g3, g4⟩ := f9A (t := t) (ty := ty) hel (hown.ext st.ext) (hy _ _ st.ext e2) h1 h63 hbytes
  refine wpList_plain hg fun Kc hK => ?_
  unfold Oper.wp
  simp only [execOp, resolve, invoke, builtin, Sem.run_bind, Sem.run_pure, Result.andThen_ok, List.map_toArray, List.map_cons, List.map_nil, e1, g1, Oper.upon]
  refine hK _ _ ?_
  have h2 := h v' w w' st.ext g2 g3 g4
  unfold LX at h2
  exact h2 _ _ ((st.vals (w' := w')).push (Ext.refl _) (dst := some d) (r := .val v') (fun d' hd' => by cases hd'; exact hd) (.inr rfl))
theorem f6A {base e s b n kn : Nat} {v z : Value} {cs news : List Value} {r : AD} (hm : l[m]? = some ⟨some d, .call ⟨.builtin .append, #[x, y], #[t, t]⟩, ty, pos, after, none⟩) (hel : El P t e z s b) (hx : opE E x = .val v) (hown : Own base e s ws v n cs) (hr : opE E y = r) (hy : HasC ws r kn s news)
    (h1 : ∀ u ∈ news, u.oneCell' = true) (h63 : n + kn ≤ maxLen) (hbytes : (n + kn) * b ≤ 140737488355328)
    (h : ∀ v' w w', Ext ws w → Own 0 e s w' v' (n + kn) (cs ++ news) → Fr (fun k => v.ownBlock = some k) w w' → LocR w v v' → ∃ E', (∀ t u, d ≠ t → (lkE E t).ok u w → (lkE E' t).ok u w') ∧ C w' ((d, .val v') :: E')) : MX P N l Q m ws E C := by
  intro o ho a w hsz hdf hext hop K hK
  rw [hm] at ho; obtain rfl := Option.some.inj ho
  have e1 := jjA (x := x) hop (by simp [Op.operands, Call.operands]); rw [hx] at e1; simp only [AD.ok] at e1
  have e2 := jjA (x := y) hop (by simp [Op.operands, Call.operands]); rw [hr] at e2
  obtain ⟨v', w', g1, g2, g3, g4⟩ := f9A (t := t) (ty := ty) hel (hown.ext hext) (hy _ _ hext e2) h1 h63 hbytes
  obtain ⟨E', hE, hC⟩ := h v' w w' hext g2 g3 g4
  unfold Oper.wp
  simp only [execOp, resolve, invoke, builtin, Sem.run_bind, Sem.run_pure, Result.andThen_ok, List.map_toArray, List.map_cons, List.map_nil, e1, g1, Oper.upon]
  refine hK v' w' w' _ (Ext.refl _) (fun t ht hu => ?_) (fun d' hd' => ?_) hC
  · rw [btA]
    by_cases e : t = d
    · subst e; exact absurd rfl ht
    · rw [if_neg e]; exact hE t _ (fun h => e h.symm) hu
  · cases hd'; rw [btA, if_pos rfl]; rfl
theorem j0A {ι : Type} {J : ι → Env} {C : ι → Prop} {μ : ι → Nat} {q : Nat} {wx : World} (he : Ext wb wx) (i : ι) (h0 : C i) (hm : μ i < q) (hs : Sub wx E (J i)) : PX N wx (Exit.then (Rnd N wb J C μ q) Q) .normal E := by
  unfold PX
  intro a w s
  have s' := hs.st s
  exact ⟨i, ⟨h0, ⟨s'.sz, s'.df, he.trans s'.ext, s'.sat⟩⟩, hm⟩
theorem phA {b o : Nat} {cur : Array Value} {e : TypeId} {c : Value} {news : List Value} (hg : g = none) (hx : opE E x = .val (.pointer (some ⟨b, o, none⟩))) (hy : opE E y = .val c) (hb : wb.heap[b]? = some (.cells cur e (0, 0))) (hc : c.cells = news.toArray)
    (hs : ∀ w, (sizeOf t).run P w = .ok news.length w) (ho : o + news.length ≤ cur.size) (h1 : ∀ u ∈ news, u.oneCell' = true)
    (h : ∀ w, Ext wb w → LX P N (w.setRow b (cur.toList.take o ++ news ++ cur.toList.drop (o + news.length)).toArray) l Q rest (vals E)) :
    LX P N wb l Q (⟨none, .store t x y, ty, pos, after, g⟩ :: rest) E := by
  unfold LX
  intro a w st
  have e1 := st.opd x; rw [hx] at e1; simp only [AD.ok] at e1
  have e2 := st.opd y; rw [hy] at e2; simp only [AD.ok] at e2
  have hrun : (Instr.storeAt t (.pointer (some ⟨b, o, none⟩)) c).run P w = .ok () (w.setRow b (cur.toList.take o ++ news ++ cur.toList.drop (o + news.length)).toArray) := by
    have hst := run_storeCells_at P b o e news 0 cur w (st.ext.block hb) (by omega) h1
    rw [Nat.add_zero] at hst
    simp only [Instr.storeAt, Instr.sureAddr, storeVar, Sem.run_bind, Sem.run_pure, Result.andThen_ok, hs, hc, ne_eq, if_false, List.size_toArray, not_true_eq_false, hst]
  refine wpList_plain hg fun Kc hK => ?_
  unfold Oper.wp
  simp only [execOp, Sem.run_bind, e1, e2, hrun, Result.andThen_ok, Sem.run_pure, Oper.upon]
  refine hK _ _ ?_
  have h2 := h w st.ext
  unfold LX at h2
  exact h2 _ _ (st.vals (w' := w.setRow b _))
theorem pgA {e : TypeId} {z0 c c2 : Value} {d2 : Tmp} {x2 : Operand} {ty' ty'' : TypeId} {pos' pos'' : String} {after' after'' : Array Edge} {g' g'' : Option (Nat × Bool)} (hg : g = none) (hg' : g' = none) (hg'' : g'' = none) (hd : d < N) (hd2 : d2 < N) (hz : ∀ w, (zeroValue e).run P w = .ok z0 w) (hx2 : ∀ v, opE ((d, .val v) :: E) x2 = .val c2) (hne : (d == d2) = false)
    (hy : ∀ v, opE ((d2, .val c2) :: (d, .val v) :: E) y = .val c)
    (hs : ∀ w, (sizeOf t).run P w = .ok c.cells.size w) (hfit : c.cells.size = z0.cells.size) (h1 : ∀ u ∈ c.cells.toList, u.oneCell' = true)
    (h : ∀ b w', Ext wb w' → wb.heap.size ≤ b → w'.heap[b]? = some (.cells c.cells e (0, 0)) → LX P N w' l Q rest ((d2, .val c2) :: (d, .val (.pointer (some ⟨b, 0, none⟩))) :: E)) :
    LX P N wb l Q (⟨some d, .alloc e, ty, pos, after, g⟩ :: ⟨some d2, .assign x2, ty'', pos'', after'', g''⟩ :: ⟨none, .store t (.tmp d) y, ty', pos', after', g'⟩ :: rest) E := by
  unfold LX
  intro a w st
  have ra : (Instr.alloc e true (.tuple #[])).run P w = .ok (.pointer (some ⟨w.heap.size, 0, none⟩)) (w.alloc (.cells z0.cells e)) := by
    simp only [Instr.alloc, Sem.run_bind, hz, Result.andThen_ok]
    rfl
  refine wpList_plain hg fun Kc hK => ?_
  unfold Oper.wp
  simp only [execOp, Sem.run_bind, ra, Result.andThen_ok, Sem.run_pure, Oper.upon]
  refine hK _ _ ?_
  have st1 : St N wb ((d, .val (.pointer (some ⟨w.heap.size, 0, none⟩))) :: E) (a.put (some d) (.pointer (some ⟨w.heap.size, 0, none⟩))) (w.alloc (.cells z0.cells e)) :=
    st.push (Ext.alloc _ _) (dst := some d) (r := .val _) (fun d' hd' => by cases hd'; exact hd) (.inr rfl)
  have e0 := st1.opd x2; rw [hx2] at e0; simp only [AD.ok] at e0
  refine wpList_plain hg'' fun Kc hK => ?_
  unfold Oper.wp
  simp only [execOp, Sem.run_bind, e0, Result.andThen_ok, Sem.run_pure, Oper.upon]
  refine hK _ _ ?_
  have st2 := st1.push (Ext.refl _) (dst := some d2) (r := .val c2) (v := c2) (fun d' hd' => by cases hd'; exact hd2) (.inr rfl)
  have e1 := st2.opd (.tmp d)
  have e2 := st2.opd y
  have e2' : opE (puE (some d2) (.val c2) ((d, .val (.pointer (some ⟨w.heap.size, 0, none⟩))) :: E)) y = .val c := hy _
  rw [e2'] at e2; simp only [AD.ok] at e2
  have e1' : ((a.put (some d) (.pointer (some ⟨w.heap.size, 0, none⟩))).put (some d2) c2).eval (.tmp d) = .pointer (some ⟨w.heap.size, 0, none⟩) := by
    simp only [opE, puE, lkE, hne, beq_self_eq_true, cond_true, cond_false, AD.ok] at e1; exact e1
  have hb : (w.alloc (.cells z0.cells e)).heap[w.heap.size]? = some (.cells z0.cells e (0, 0)) := heap_alloc_new w _
  have hrun : (Instr.storeAt t (.pointer (some ⟨w.heap.size, 0, none⟩)) c).run P (w.alloc (.cells z0.cells e)) = .ok () ((w.alloc (.cells z0.cells e)).setRow w.heap.size c.cells) := by
    have hst := run_storeCells_at P w.heap.size 0 e c.cells.toList 0 z0.cells _ hb (by simp [hfit]) h1
    have e3 : (z0.cells.toList.take (0 + 0) ++ c.cells.toList ++ z0.cells.toList.drop (0 + 0 + c.cells.toList.length)).toArray = c.cells := by
      rw [List.drop_eq_nil_of_le (by simp [hfit])]; simp
    rw [e3] at hst
    simp only [Instr.storeAt, Instr.sureAddr, storeVar, Sem.run_bind, Sem.run_pure, Result.andThen_ok, hs, ne_eq, not_true_eq_false, if_false, hst]
  refine wpList_plain hg' fun Kc hK => ?_
  unfold Oper.wp
  simp only [execOp, Sem.run_bind, e1', e2, hrun, Result.andThen_ok, Sem.run_pure, Oper.upon]
  refine hK _ _ ?_
  have x2 : Ext w ((w.alloc (.cells z0.cells e)).setRow w.heap.size c.cells) := (Ext.alloc _ _).setRow (Nat.le_refl _) _
  have h2 := h w.heap.size _ (st.ext.trans x2) st.ext.size (setRow_heap _ w.heap.size _ _ _ (0, 0) hb)
  unfold LX at h2
  have st3 := st.push (dst := some d) (r := .val (.pointer (some ⟨w.heap.size, 0, none⟩))) (v := .pointer (some ⟨w.heap.size, 0, none⟩)) x2 (fun d' hd' => by cases hd'; exact hd) (.inr rfl)
  have st4 := st3.push (Ext.refl _) (dst := some d2) (r := .val c2) (v := c2) (fun d' hd' => by cases hd'; exact hd2) (.inr rfl)
  exact h2 _ _ st4.rebase
theorem mfA {c z : Value} {s b base : Nat} {e : TypeId} (hbase : base ≤ wb.heap.size) (hg : b5A l E g = some true) (hel : El P t e z s b) (hx : opE E x = .val c) (hc : c.cells.size = s) (hs1 : s ≤ 1000) (h : LA P l wb K rest ((d, .pred (hpA base e s 1 c.cells.toList)) :: E)) :
    LA P l wb K (⟨some d, .buildSlice t 1 #[(0, x)], ty, pos, after, g⟩ :: rest) E := by
  refine b0A (.pred (hpA base e s 1 c.cells.toList)) hg (fun a w he hh => ?_) h
  have h1 := hh x (by simp [Op.operands])
  rw [hx] at h1; simp only [AD.ok] at h1
  have hne : ¬ s = 0 := by have := hel.pos; omega
  have hrun : (Instr.buildSlice t 1 #[(0, c)]).run P w = .ok (.slice (some ⟨w.heap.size, 0, none⟩) 1 1) (w.alloc (.cells c.cells e)) := by
    have hf := h4A (c := c) (z := z.cells) (s := s) hc
    simp only [Instr.buildSlice, Sem.run_bind, run_underlying hel.ht, Result.andThen_ok, hel.sizeOf, Nat.one_mul, gt_iff_lt, show ¬ (2 ^ 24 < s) by omega, if_false, hne, Sem.run_pure, hel.zero]
    simp only [Nat.one_mul] at hf
    rw [hf]
    rfl
  simp only [execOp, List.map_toArray, List.map_cons, List.map_nil, h1, Sem.run_bind, hrun, Result.andThen_ok, Sem.run_pure]
  refine ⟨Ext.alloc _ _, ?_⟩
  refine ⟨by simp [hc], .inr ⟨w.heap.size, 1, c.cells, rfl, Nat.le_trans hbase he.size, heap_alloc_new w _, Nat.le_refl _, by decide, by simp [hc], ?_⟩⟩
  rw [Nat.one_mul, ← hc]
  exact List.take_of_length_le (by simp)
end
theorem Own.setN {e s b cap n i : Nat} {w : World} {cur : Array Value} {cs news : List Value} (hl : cs.length = n * s) (hg : w.heap[b]? = some (.cells cur e (0, 0))) (hnc : n ≤ cap) (hm : cap ≤ maxLen) (hsz : cur.size = cap * s) (ht : cur.toList.take (n * s) = cs) (hi : i < n) (hn : news.length = s) :
    Own 0 e s (w.setRow b (cur.toList.take (i * s) ++ news ++ cur.toList.drop (i * s + news.length)).toArray) (.slice (some ⟨b, 0, none⟩) n cap) n (cs.take (i * s) ++ news ++ cs.drop (i * s + s)) := by
  have hcur : cur.toList.length = cap * s := by rw [Array.length_toList]; exact hsz
  have h1 : (i + 1) * s ≤ n * s := Nat.mul_le_mul_right _ hi
  have h2 : n * s ≤ cap * s := Nat.mul_le_mul_right _ hnc
  have h3 : (i + 1) * s = i * s + s := by rw [Nat.add_mul, Nat.one_mul]
  refine ⟨?_, .inr ⟨b, cap, _, rfl, Nat.zero_le _, setRow_heap w b cur _ e _ hg, hnc, hm, ?_, ?_⟩⟩
  · simp only [List.length_append, List.length_take, List.length_drop]; omega
  · simp only [List.size_toArray, List.length_append, List.length_take, List.length_drop]; omega
  · subst ht
    rw [List.take_take, Nat.min_eq_left (by omega)]
    simp only [List.toList_toArray]
    rw [List.append_assoc, List.take_append, List.take_of_length_le (by rw [List.length_take]; omega), List.take_append, List.take_of_length_le (l := news) (by rw [List.length_take]; omega), List.append_assoc]
    congr 2
    rw [List.length_take, hn, List.drop_take]
    congr 1
    omega
end Go.LA
end
section
set_option linter.unusedSimpArgs false
set_option linter.unusedVariables false
set_option maxRecDepth 3000
namespace Go.Proofs.YtfcioiobhpcngaaGreatDoor
open Go.LA Go.ArrP Go.RowKit
theorem wqA {w : World} {ba bb na ca nb cb ga gb : Nat} {xs ys : List Value} (ha : Own ba 72 1 w (.slice (some ⟨ga, 0, none⟩) na ca) na xs) (hb : Own bb 72 1 w (.slice (some ⟨gb, 0, none⟩) nb cb) nb ys) (hcb : 0 < cb) (hne : ga ≠ gb) (o l' c' : Nat) :
    (callFunc 129 #[.slice (some ⟨ga, 0, none⟩) na ca, .slice (some ⟨gb, o, none⟩) l' c']).run Tryz.prog w = .ok (.value (.bool false)) w := by
  rw [run_callFunc_extern Tryz.func129 (by kernel_rfl) (by kernel_rfl) (by kernel_rfl) (e := Extern.SlicesOverlaps.overlaps #[52, 52] #[4]) (by kernel_rfl), ehA rfl (fun _ => rfl) (by decide) ha hb hcb hne]
  rfl
theorem r6A (w : World) (base bu : Nat) (v u : Value) (n i : Nat) (cs xs : List Value) (ho : Own base 72 1 w v n cs) (hu : Own bu 72 1 w u 1 xs) (hi : i ≤ n) 
    (hap : ∀ k, u.ownBlock = some k → v.ownBlock ≠ some k) (h1c : ∀ c ∈ cs, c.oneCell' = true) (h1 : ∀ c ∈ xs, c.oneCell' = true) (hn : n ≤ 70368744177663) (hb : (n + 1) * 2 ≤ 140737488355328) :
    Fc Tryz.prog 88 #[v, .int .i64 i, u] w (fun en w' => ∃ v', en = .returned v' ∧ Own 0 72 1 w' v' (n + 1) (cs.take (i * 1) ++ xs ++ cs.drop (i * 1)) ∧ Fr (fun k => v.ownBlock = some k) w w' ∧ LocR w v v') := by
  have hs := ho.slC
  have hsu := hu.slC
  have hcl := ho.1
  have hxl := hu.1
  by_cases hin : i = n
  · refine Fc.of (args := [_, _, _]) Tryz.func88 rfl rfl Tryz.ntmps88 (Nat.le_of_ble_eq_true rfl) ?_
    subst hin
    repeat' (first|(refine oLA ?_;first|refine a0A rfl ?_|(refine a4A (hK _ _ (daA rfl (by decide) clA rfl ho rfl (HasC.val hsu) h1 (by unfold maxLen; omega) hb (fun v' w2 w3 he2 ho3 hg3 hl3 => ?_))); clear hK K; dsimp only [vals]; refine amA (by kernel_rfl) (fun K hK => ?_))|refine wOp ?_|(refine wCm ?_ ?_<;>intro hc)|(refine wNl hK ?_;clear hK K))|refine wG ?_|(refine wCR ?_;intro K hK)|fail)
    refine blA rfl (fun v5 w5 e5 h5 => ?_)
    obtain rfl : v5 = _ := h5
    refine ⟨_, rfl, ?_, ?_, hl3.le he2.size⟩
    · rw [List.take_of_length_le (by omega), List.drop_of_length_le (by omega), List.append_nil]
      exact ho3.ext e5
    · exact Fr.grown (f5A (e4A he2 hg3.grownBy) e5)
  · have hlt : i < n := by omega
    rcases ho.2 with ⟨_, h0⟩ | ⟨gb, cap, cur, rfl, hgb, hg, hnc, hm, hsz, htake⟩
    · omega
    rcases hu.2 with ⟨_, h0⟩ | ⟨gu, capu, curu, rfl, hgub, hgu, hncu, hmu, hszu, htakeu⟩
    · omega
    have hne : gu ≠ gb := fun e => hap gu rfl (by rw [e]; rfl)
    have hst : ∀ c ∈ cs.drop (i * 1), c.oneCell' = true := fun c hc => h1c c (List.mem_of_mem_drop hc)
    by_cases hroom : n + 1 ≤ cap
    · obtain ⟨zs, hzl, hmore⟩ := ho.more 1 hroom
      have hsl := hmore.slC
      have hsub : dyA (.slice (some ⟨gb, 0, none⟩) (n + 1) cap) (i + 1) (n + 1) 1 = .slice (some ⟨gb, (i + 1) * 1, none⟩) (n + 1 - (i + 1)) (cap - (i + 1)) := e8A (by omega)
      refine Fc.of (args := [_, _, _]) Tryz.func88 rfl rfl Tryz.ntmps88 (Nat.le_of_ble_eq_true rfl) ?_
      repeat' (first|(refine oLA ?_;first|refine a0A rfl ?_|refine hdA rfl rfl rfl ?_|(refine eyA rfl _ rfl rfl rfl (by omega) (by omega) (by omega) (fun _ => rfl) ?_; rw [show ((n : Int) + ((1 : Nat) : Int)).toNat = n + 1 by omega])|(refine cdA rfl _ rfl rfl (HasC.val hsl) rfl (by omega) (by omega) (by exact fun _ => rfl) ?_; rw [show ((i : Int) + ((1 : Nat) : Int)).toNat = i + 1 by omega])|refine puA (f := 129) (c := .bool false) rfl rfl rfl rfl (fun w2 e2 => by rw [hsub]; exact wqA (hu.ext e2) (ho.ext e2) (by omega) hne _ _ _) ?_|(refine a4A (hK _ _ rfl (eeA (i + 1) rfl (by intro q h; cases h; decide) clA rfl rfl hmore (hsl.sub (Nat.le_of_lt (by omega)) (Nat.le_refl _)) (by omega) (by rw [ldA hlt hcl hzl]; exact hst) (fun w2 w3 e2 ho3 hg3 => ?_))); clear hK K; dsimp only [vals]; have hu3 := ((hu.ext e2).kept hg3 (.inr (fun q => hne (by injection q)))); refine amA (by kernel_rfl) (fun K hK => ?_))|(refine a4A (hK _ _ (eeA i rfl (by intro q h; cases h; decide) clA rfl rfl ho3 hu3.slC (by omega) (fun c hc => h1 c (List.mem_of_mem_take hc)) (fun w4 w5 e4 ho5 hg5 => ?_))); clear hK K; dsimp only [vals]; refine amA (by kernel_rfl) (fun K hK => ?_))|refine wOp ?_|(refine wCm ?_ ?_<;>intro hc)|(refine wNl hK ?_;clear hK K))|(refine oCX ?_;first|refine djA 8 (by kernel_rfl) (by kernel_rfl) (by decide) (fun K hK => ?_))|refine wG ?_|(refine wCR ?_;intro K hK)|fail)
      refine blA rfl (fun v6 w6 e6 h6 => ?_)
      obtain rfl : v6 = _ := h6
      refine ⟨_, rfl, ?_, ?_, LocR.refl⟩
      · have h7 := ho5.ext e6
        rw [goA hlt hcl (by omega) hzl] at h7
        exact h7.base (Nat.zero_le _)
      · exact Fr.grown (f5A (h2A (e4A e2 hg3) (e4A e4 hg5)) e6)
    · refine Fc.of (args := [_, _, _]) Tryz.func88 rfl rfl Tryz.ntmps88 (Nat.le_of_ble_eq_true rfl) ?_
      repeat' (first|(refine oLA ?_;first|refine a0A rfl ?_|refine hdA rfl rfl rfl ?_|(refine eyA rfl _ rfl rfl rfl (by omega) (by omega) (by omega) (fun _ => rfl) ?_; rw [Int.toNat_natCast])|(refine a4A (hK _ _ (efA (kn := n + 1 - i) rfl (by decide) clA rfl rfl rfl (igA ho i hi).slC (by omega) (by omega) (by omega) (by decide) (by rw [show i + (n + 1 - i) = n + 1 by omega]; exact hb) (by omega) (fun v' w2 w3 zs e2 hzl hz1 ho3 e3 => ?_))); clear hK K; rw [show i + (n + 1 - i) = n + 1 by omega] at ho3; have x3 := e2.trans e3; have hs3 := hs.ext x3; dsimp only [vals]; refine amA (by kernel_rfl) (fun K hK => ?_))|(refine cdA rfl _ rfl rfl (HasC.ownV ho3) rfl (by omega) (by omega) (by exact fun _ => rfl) ?_; rw [Int.toNat_natCast])|(refine a4A (hK _ _ (eeA i rfl (by intro q h; cases h; decide) clA rfl rfl ho3 (hu.ext x3).slC (by omega) (fun c hc => h1 c (List.mem_of_mem_take hc)) (fun w4 w5 e4 ho5 hg5 => ?_))); clear hK K; have x5 := (x3.trans e4).grown hg5 (fun q hq => Nat.le_trans e2.size (Own.lt ho3 q hq).1); have hs5 := hs.ext x5; dsimp only [vals]; refine amA (by kernel_rfl) (fun K hK => ?_))|(refine cdA rfl _ rfl rfl (HasC.ownV ho5) rfl (by omega) (by omega) (by exact fun _ => rfl) ?_; rw [show ((i : Int) + ((1 : Nat) : Int)).toNat = i + 1 by omega])|(refine cdA rfl _ rfl rfl (HasC.val hs5) rfl (by omega) (by omega) (by exact fun _ => rfl) ?_; rw [Int.toNat_natCast])|(refine a4A (hK _ _ rfl (eeA (i + 1) rfl (by intro q h; cases h; decide) clA rfl rfl ho5 (hs5.sub (Nat.le_of_lt hlt) (Nat.le_refl _)) (by omega) (by rw [List.take_of_length_le (by omega : cs.length ≤ n * 1)]; exact fun c hc => hst c (List.mem_of_mem_take hc)) (fun w6 w7 e6 ho7 hg7 => ?_))); clear hK K; dsimp only [vals]; refine amA (by kernel_rfl) (fun K hK => ?_))|refine wOp ?_|(refine wCm ?_ ?_<;>intro hc)|(refine wNl hK ?_;clear hK K))|(refine oCX ?_;first|refine djA 8 (by kernel_rfl) (by kernel_rfl) (by decide) (fun K hK => ?_))|refine wG ?_|(refine wCR ?_;intro K hK)|fail)
      refine blA rfl (fun v8 w8 e8 h8 => ?_)
      obtain rfl : v8 = _ := h8
      refine ⟨_, rfl, ?_, ?_, .inr fun k hk => Nat.le_trans e2.size (Own.lt ho7 k hk).1⟩
      · have h9 := ho7.ext e8
        have ed : (cs.take (n * 1)).drop (i * 1) = cs.drop (i * 1) := by rw [List.take_of_length_le (by omega)]
        rw [ed, huA hlt (by rw [List.length_take]; exact Nat.min_eq_left (by rw [hcl]; exact Nat.mul_le_mul_right _ hi)) (by omega) hzl (by rw [List.length_drop, hcl, Nat.sub_mul])] at h9
        exact Own.base h9 (Nat.zero_le _)
      · exact Fr.grown (jsA _ (((x5.trans e6).grown hg7 (fun q hq => Nat.le_trans e2.size (Own.lt ho3 q hq).1)).trans e8))
end Go.Proofs.YtfcioiobhpcngaaGreatDoor
end
section
set_option linter.unusedSimpArgs false
set_option linter.unusedVariables false
namespace Go.Proofs.YtfcioiobhpcngaaGreatDoor
open Go.LA Go.ArrP Go.RowKit
variable {A : Nat → Prop}
abbrev tC : Nat := 65
structure VarC (A : Nat → Prop) (w : World) (b : Nat) (cs : Array Value) (p : Nat → Bool) (kk : Int) : Prop where
  hb : w.heap[b]? = some (.cells cs tC (0, 0))
  hn : cs.size = 4
  hc : Cn A w (.agg cs) p kk
theorem VarC.ext {w w' : World} {b : Nat} {cs : Array Value} {p : Nat → Bool} {kk : Int} (h : VarC A w b cs p kk) (e : Ext w w') : VarC A w' b cs p kk := ⟨e.block h.hb, h.hn, h.hc.ext e⟩
theorem VarC.set {w : World} {b : Nat} {cur cs : Array Value} {p : Nat → Bool} {kk : Int} (hb : w.heap[b]? = some (.cells cur tC (0, 0))) (hn : cs.size = 4) (hc : Cn A w (.agg cs) p kk) : VarC A (w.setRow b cs) b cs p kk :=
  ⟨setRow_heap w b _ _ _ (0, 0) hb, hn, hc.setRow hb ⟨by decide, by decide, by decide⟩ cs⟩
theorem tgA {w : World} {b : Nat} {o : Obj} (h : w.heap[b]? = some o) : b < w.heap.size := (Array.getElem?_eq_some_iff.1 h).1
theorem VarC.lt {w : World} {b : Nat} {cs : Array Value} {p : Nat → Bool} {kk : Int} (h : VarC A w b cs p kk) : b < w.heap.size := tgA h.hb
end Go.Proofs.YtfcioiobhpcngaaGreatDoor
end
section
set_option linter.unusedSimpArgs false
set_option linter.unusedVariables false
namespace Go.LA
open Go.RowKit Go.ArrP
theorem etA {α : Type} {d : α} {a b : List α} {n : Nat} (h : n < a.length) : (a ++ b).getD n d = a.getD n d := by
  rw [List.getD_eq_getElem?_getD, List.getD_eq_getElem?_getD, List.getElem?_append_left h]
theorem dnA {α : Type} {d : α} {a b : List α} {n : Nat} (h : a.length ≤ n) : (a ++ b).getD n d = b.getD (n - a.length) d := by
  rw [List.getD_eq_getElem?_getD, List.getD_eq_getElem?_getD, List.getElem?_append_right h]
noncomputable def TOP : Nat := Classical.choose (⟨4294967296, rfl⟩ : ∃ n : Nat, n = 4294967296)
theorem dwA : TOP = 4294967296 := Classical.choose_spec (⟨4294967296, rfl⟩ : ∃ n : Nat, n = 4294967296)
def blk (p : Nat → Bool) (k i : Nat) : Bool := decide (i < 65536) && p (k * 65536 + i)
theorem h9A {b c : Bool} (h : b = true) : (b && c) = c := by rw [h]; rfl
theorem haA {b c : Bool} (h : b = false) : (b && c) = false := by rw [h]; rfl
theorem cjA {p : Nat → Bool} {k i : Nat} (h : i < 65536) : blk p k i = p (k * 65536 + i) := h9A (decide_eq_true h)
theorem doA {p : Nat → Bool} {k i : Nat} (h : ¬ i < 65536) : blk p k i = false := haA (decide_eq_false h)
noncomputable def cdec (P : Prop) : Bool := @decide P (Classical.propDecidable P)
theorem rqA {P : Prop} : cdec P = true ↔ P := @decide_eq_true_iff P (Classical.propDecidable P)
noncomputable def ne (p : Nat → Bool) (k : Nat) : Bool := cdec (∃ i, i < 65536 ∧ p (k * 65536 + i) = true)
theorem ne_iff {p : Nat → Bool} {k : Nat} : ne p k = true ↔ ∃ i, i < 65536 ∧ p (k * 65536 + i) = true := rqA
theorem o0A {p : Nat → Bool} {k : Nat} (h : ne p k = false) {i : Nat} (hi : i < 65536) : p (k * 65536 + i) = false := by
  cases hp : p (k * 65536 + i)
  · rfl
  · rw [ne_iff.2 ⟨i, hi, hp⟩] at h; cases h
theorem ne_cnt {p : Nat → Bool} {k : Nat} : ne p k = true ↔ 0 < cnt (blk p k) 65536 := by
  constructor
  · intro h
    obtain ⟨i, hi, hp⟩ := ne_iff.1 h
    have h1 : cnt (blk p k) (i + 1) = cnt (blk p k) i + 1 := by simp only [cnt, cjA hi, hp, if_true]
    have h2 := cnt_mono (blk p k) (m := i + 1) 65536 (by omega)
    omega
  · intro h
    cases hn : ne p k
    · rw [dgA 65536 (fun i hi => by rw [cjA hi]; exact o0A hn hi)] at h; omega
    · rfl
theorem gjA {p : Nat → Bool} {k : Nat} (h : ne p k = false) : blk p k = fun _ => false := by
  funext i
  by_cases hi : i < 65536
  · rw [cjA hi]; exact o0A h hi
  · exact doA hi
theorem ouA (p : Nat → Bool) (B : Nat) : ∀ j, cnt p (B + j) = cnt p B + cnt (fun i => p (B + i)) j
  | 0 => rfl
  | j + 1 => by
    have ih := ouA p B j
    show cnt p (B + j) + _ = cnt p B + (cnt (fun i => p (B + i)) j + _)
    rw [ih, Nat.add_assoc]; rfl
theorem krA (p : Nat → Bool) (k : Nat) (j : Nat) (h : j ≤ 65536) : cnt p (k * 65536 + j) = cnt p (k * 65536) + cnt (blk p k) j := by
  rw [ouA, ccA (p := blk p k) j (fun i hi => cjA (p := p) (k := k) (by omega))]
theorem ghA {p : Nat → Bool} {a : Nat} : ∀ b, a ≤ b → (∀ x, a ≤ x → x < b → p x = false) → cnt p b = cnt p a
  | 0, h, _ => by obtain rfl : a = 0 := by omega
                  rfl
  | b + 1, h, hp => by
    by_cases e : a = b + 1
    · subst e; rfl
    · simp only [cnt, ghA b (by omega) (fun x h1 h2 => hp x h1 (by omega)), hp b (by omega) (by omega)]; rfl
noncomputable def nk (p : Nat → Bool) : Nat := cnt (ne p) 65536
noncomputable def b3A (p : Nat → Bool) : List Int := adA (ne p) 65536
noncomputable def kp (p : Nat → Bool) (i : Nat) : Nat := if i < nk p then ((b3A p).getD i 0).toNat else 65536
theorem gbA (p : Nat → Bool) : nk p ≤ 65536 := cnt_le _ _
theorem bnA (p : Nat → Bool) : (b3A p).length = nk p := baA _ _
theorem gzA (p : Nat → Bool) : Inc (b3A p) := bfA _ _
theorem ogA (p : Nat → Bool) : Low (b3A p) := ckA _
theorem jnA {p : Nat → Bool} {i : Nat} (h : i < nk p) : kp p i < 65536 ∧ ne p (kp p i) = true ∧ cnt (ne p) (kp p i) = i ∧ (b3A p).getD i 0 = ((kp p i : Nat) : Int) := by
  obtain ⟨j, h1, h2, h3, h4⟩ := hyA (ne p) h
  have e : kp p i = j := by unfold kp; rw [if_pos h]; unfold b3A; rw [h4]; rfl
  rw [e]; exact ⟨h1, h2, h3, h4⟩
theorem odA {p : Nat → Bool} {i : Nat} (h : nk p ≤ i) : kp p i = 65536 := by unfold kp; rw [if_neg (by omega)]
theorem kp_le (p : Nat → Bool) (i : Nat) : kp p i ≤ 65536 := by
  by_cases h : i < nk p
  · have := (jnA h).1; omega
  · rw [odA (by omega)]; exact Nat.le_refl _
theorem luA {p : Nat → Bool} {i : Nat} (h : i ≤ nk p) : cnt (ne p) (kp p i) = i := by
  by_cases e : i < nk p
  · exact (jnA e).2.2.1
  · obtain rfl : i = nk p := by omega
    rw [odA (Nat.le_refl _)]; rfl
theorem x3A {p : Nat → Bool} {i : Nat} (h : i < nk p) {k : Nat} (h1 : kp p i < k) (h2 : k < kp p (i + 1)) : ne p k = false := by
  cases hk : ne p k
  · rfl
  · have a1 := jnA h
    have a2 := luA (p := p) (i := i + 1) h
    have c1 : cnt (ne p) (kp p i + 1) = i + 1 := by simp only [cnt, a1.2.1, a1.2.2.1, if_true]
    have c2 := cnt_mono (ne p) (m := kp p i + 1) k (by omega)
    have c3 : cnt (ne p) (k + 1) = cnt (ne p) k + 1 := by simp only [cnt, hk, if_true]
    have c4 := cnt_mono (ne p) (m := k + 1) (kp p (i + 1)) (by omega)
    omega
theorem r4A {p : Nat → Bool} {k : Nat} (h : k < kp p 0) : ne p k = false := by
  cases hk : ne p k
  · rfl
  · have a2 := luA (p := p) (i := 0) (Nat.zero_le _)
    have c3 : cnt (ne p) (k + 1) = cnt (ne p) k + 1 := by simp only [cnt, hk, if_true]
    have c4 := cnt_mono (ne p) (m := k + 1) (kp p 0) (by omega)
    omega
theorem gxA {p : Nat → Bool} {i : Nat} (h : i < nk p) : kp p i < kp p (i + 1) := by
  have a1 := jnA h
  have a2 := luA (p := p) (i := i + 1) h
  rcases Nat.lt_or_ge (kp p i) (kp p (i + 1)) with h1 | h1
  · exact h1
  · have := cnt_mono (ne p) (m := kp p (i + 1)) (kp p i) h1
    omega
theorem utA {p : Nat → Bool} {k : Nat} (hk : k < 65536) (h : ne p k = true) : cnt (ne p) k < nk p ∧ kp p (cnt (ne p) k) = k := by
  have c3 : cnt (ne p) (k + 1) = cnt (ne p) k + 1 := by simp only [cnt, h, if_true]
  have c4 := cnt_mono (ne p) (m := k + 1) 65536 (by omega)
  have h1 : cnt (ne p) k < nk p := by unfold nk; omega
  refine ⟨h1, ?_⟩
  have := f4A (ne p) 65536 k hk h
  unfold kp; rw [if_pos h1]; unfold b3A; rw [this]; rfl
theorem lnA {p : Nat → Bool} {x : Nat} (h : ne p (x / 65536) = false) : p x = false := by
  have := o0A h (Nat.mod_lt x (by omega : 0 < 65536))
  rwa [show x / 65536 * 65536 + x % 65536 = x by omega] at this
theorem onA {p : Nat → Bool} {i : Nat} (h : i < nk p) {x : Nat} (h1 : (kp p i + 1) * 65536 ≤ x) (h2 : x < kp p (i + 1) * 65536) : p x = false :=
  lnA (x3A h (by omega) (by omega))
theorem m0A {p : Nat → Bool} {x : Nat} (h : x < kp p 0 * 65536) : p x = false := lnA (r4A (by omega))
theorem lvA (p : Nat → Bool) : cnt p (kp p 0 * 65536) = 0 := dgA _ (fun i hi => m0A hi)
theorem uwA {p : Nat → Bool} {i : Nat} (h : i < nk p) : cnt p (kp p (i + 1) * 65536) = cnt p (kp p i * 65536) + cnt (blk p (kp p i)) 65536 := by
  rw [ghA (p := p) (a := (kp p i + 1) * 65536) (kp p (i + 1) * 65536) (Nat.mul_le_mul_right _ (gxA h)) (fun x h1 h2 => onA h h1 h2)]
  have := krA p (kp p i) 65536 (Nat.le_refl _)
  rw [show (kp p i + 1) * 65536 = kp p i * 65536 + 65536 by omega]; exact this
theorem kfA (p : Nat → Bool) : kp p (nk p) * 65536 = TOP := by rw [odA (Nat.le_refl _), dwA]
theorem fnA (k : Nat) : (k + 1) * 65536 = k * 65536 + 65536 := Nat.succ_mul k 65536
theorem ubA {p : Nat → Bool} {i x X : Nat} (h : i < nk p) (h1 : X * 65536 ≤ x) (h2 : kp p i < X) : cnt p (min x (kp p (i + 1) * 65536)) = cnt p (min x (kp p i * 65536)) + cnt (blk p (kp p i)) 65536 := by
  have hn := gxA h
  have hs := fnA (kp p i)
  have hm1 : (kp p i + 1) * 65536 ≤ X * 65536 := Nat.mul_le_mul_right _ h2
  have hm2 : (kp p i + 1) * 65536 ≤ kp p (i + 1) * 65536 := Nat.mul_le_mul_right _ hn
  have e1 : min x (kp p i * 65536) = kp p i * 65536 := Nat.min_eq_right (Nat.le_trans (by rw [hs]; exact Nat.le_add_right _ _) (Nat.le_trans hm1 h1))
  have e2 : (kp p i + 1) * 65536 ≤ min x (kp p (i + 1) * 65536) := Nat.le_min.2 ⟨Nat.le_trans hm1 h1, hm2⟩
  rw [ghA (p := p) _ e2 (fun y h3 h4 => onA h h3 (Nat.lt_of_lt_of_le h4 (Nat.min_le_right _ _))), e1, hs]
  exact krA _ _ _ (Nat.le_refl _)
theorem udA {p : Nat → Bool} {i x R : Nat} (h : i < nk p) (h1 : x = kp p i * 65536 + R) (h2 : R < 65536) : cnt p (min x (kp p (i + 1) * 65536)) = cnt p (min x (kp p i * 65536)) + cnt (blk p (kp p i)) R := by
  have hn := gxA h
  rw [show min x (kp p (i + 1) * 65536) = kp p i * 65536 + R by omega, show min x (kp p i * 65536) = kp p i * 65536 by omega]
  exact krA _ _ _ (by omega)
theorem ucA {p : Nat → Bool} {i x X : Nat} (h : i < nk p) (h1 : x < (X + 1) * 65536) (h2 : X < kp p i) : cnt p (min x (kp p (i + 1) * 65536)) = cnt p (min x (kp p i * 65536)) := by
  have hn := gxA h
  rw [show min x (kp p (i + 1) * 65536) = x by omega, show min x (kp p i * 65536) = x by omega]
theorem woA (p : Nat → Bool) (x : Nat) : cnt p (min x (kp p 0 * 65536)) = 0 := by
  have := cnt_mono p (m := min x (kp p 0 * 65536)) (kp p 0 * 65536) (Nat.min_le_right _ _)
  rw [lvA] at this; exact Nat.le_zero.1 this
theorem wmA (p : Nat → Bool) {x : Nat} (h : x ≤ TOP) : cnt p (min x (kp p (nk p) * 65536)) = cnt p x := by
  rw [kfA, Nat.min_eq_left h]
def upd (p : Nat → Bool) (k : Nat) (q : Nat → Bool) (x : Nat) : Bool := if x / 65536 = k then q (x % 65536) else p x
theorem i5A (p : Nat → Bool) (k : Nat) {q : Nat → Bool} (hq : ∀ i, 65536 ≤ i → q i = false) : blk (upd p k q) k = q := by
  funext i
  by_cases hi : i < 65536
  · rw [cjA hi]; unfold upd; rw [if_pos (by omega), show (k * 65536 + i) % 65536 = i by omega]
  · rw [doA hi, hq i (by omega)]
theorem fjA (p : Nat → Bool) {k k' : Nat} (q : Nat → Bool) (h : k' ≠ k) : blk (upd p k q) k' = blk p k' := by
  funext i
  by_cases hi : i < 65536
  · rw [cjA hi, cjA hi]; unfold upd; rw [if_neg (by omega)]
  · rw [doA hi, doA hi]
theorem ruA (p : Nat → Bool) (k : Nat) : upd p k (blk p k) = p := by
  funext x; unfold upd
  split
  · rename_i h; rw [cjA (Nat.mod_lt _ (by omega))]; congr 1; omega
  · rfl
theorem wyA {p q : Nat → Bool} {k k' : Nat} (h : blk p k = blk q k') : ne p k = ne q k' := by
  rw [Bool.eq_iff_iff, ne_cnt, ne_cnt, h]
theorem upd_ne (p : Nat → Bool) {k : Nat} {q : Nat → Bool} (hq : ∀ i, 65536 ≤ i → q i = false) (hn : 0 < cnt q 65536) (j : Nat) : ne (upd p k q) j = (ne p j || decide (j = k)) := by
  by_cases e : j = k
  · subst e
    rw [ne_cnt.2 (by rw [i5A p j hq]; exact hn)]; simp
  · rw [wyA (fjA p q e)]; simp [e]
theorem l4A (p : Nat → Bool) {k : Nat} {q : Nat → Bool} (hq : ∀ i, 65536 ≤ i → q i = false) (hn : 0 < cnt q 65536) (h : ne p k = true) : b3A (upd p k q) = b3A p := by
  unfold b3A
  exact cxA _ (fun j _ => by
    rw [upd_ne p hq hn]
    by_cases e : j = k
    · subst e; rw [h]; rfl
    · simp [e])
theorem gnA (p : Nat → Bool) {k : Nat} (hk : k < 65536) {q : Nat → Bool} (hq : ∀ i, 65536 ≤ i → q i = false) (hn : 0 < cnt q 65536) (h : ne p k = false) :
    b3A (upd p k q) = (b3A p).take (cnt (ne p) k) ++ [(k : Int)] ++ (b3A p).drop (cnt (ne p) k) := by
  have hf : crA (b3A p) (k : Int) = false := by
    rw [e5A _ (gzA p)]
    have := c6A (ne p) hk
    unfold bkA at this
    exact this.trans h
  have hb : bsS (b3A p) (k : Int) = cnt (ne p) k := h7A (ne p) k (by omega)
  have hw := q9A (x := (k : Int)) (gzA p) (ogA p) (by omega) (by omega)
  unfold mlA at hw
  rw [hf] at hw
  simp only [Bool.false_eq_true, if_false, hb] at hw
  rw [hw]
  unfold b3A
  exact cxA _ (fun j hj => by
    rw [upd_ne p hq hn]; unfold xgA
    rw [c6A _ hj]; simp)
theorem m6A {p q : Nat → Bool} {k : Nat} (h : ∀ j, q j = (p j || decide (j = k))) (hk : p k = false) : ∀ n, cnt q n = cnt p n + if k < n then 1 else 0
  | 0 => rfl
  | n + 1 => by
    simp only [cnt, m6A h hk n, h n]
    by_cases e : n = k
    · subst e; simp [hk]
    · simp only [e, decide_false, Bool.or_false]
      by_cases e2 : k < n
      · have e3 : k < n + 1 := by omega
        simp only [e2, e3, if_true]; omega
      · have e3 : ¬ k < n + 1 := by omega
        simp only [e2, e3, if_false]; omega
theorem neA (p : Nat → Bool) {k : Nat} (hk : k < 65536) {q : Nat → Bool} (hq : ∀ i, 65536 ≤ i → q i = false) (hn : 0 < cnt q 65536) (h : ne p k = false) : nk (upd p k q) = nk p + 1 := by
  unfold nk
  rw [m6A (upd_ne p hq hn) h, if_pos hk]
theorem svA (p : Nat → Bool) {k : Nat} (hk : k < 65536) {q : Nat → Bool} (hq : ∀ i, 65536 ≤ i → q i = false) (hn : 0 < cnt q 65536) (h : ne p k = false) {i : Nat} (hi : i < nk p + 1) :
    kp (upd p k q) i = if i < cnt (ne p) k then kp p i else if i = cnt (ne p) k then k else kp p (i - 1) := by
  have hc : cnt (ne p) k ≤ nk p := cnt_mono _ _ (by omega)
  have hl := bnA p
  have hu : kp (upd p k q) i = ((b3A (upd p k q)).getD i 0).toNat := by unfold kp; rw [if_pos (by rw [neA p hk hq hn h]; exact hi)]
  rw [hu, gnA p hk hq hn h]
  split
  · rename_i h1
    rw [List.append_assoc, etA (by rw [List.length_take]; omega)]
    have : ((b3A p).take (cnt (ne p) k)).getD i 0 = (b3A p).getD i 0 := by
      rw [List.getD_eq_getElem?_getD, List.getD_eq_getElem?_getD, List.getElem?_take_of_lt h1]
    rw [this]; unfold kp; rw [if_pos (by omega)]
  · rename_i h1
    have hlen : ((b3A p).take (cnt (ne p) k) ++ [(k : Int)]).length = cnt (ne p) k + 1 := by rw [List.length_append, List.length_take, List.length_singleton]; omega
    split
    · rename_i h2
      rw [etA (by omega), dnA (by rw [List.length_take]; omega), List.length_take, show i - min (cnt (ne p) k) (b3A p).length = 0 by omega]; rfl
    · rename_i h2
      rw [dnA (by omega), hlen, List.getD_eq_getElem?_getD, List.getElem?_drop, ← List.getD_eq_getElem?_getD, show cnt (ne p) k + (i - (cnt (ne p) k + 1)) = i - 1 by omega]
      unfold kp; rw [if_pos (by omega)]
theorem tsA (p : Nat → Bool) {k : Nat} {q : Nat → Bool} (hq : ∀ i, 65536 ≤ i → q i = false) (hn : 0 < cnt q 65536) (h : ne p k = true) (i : Nat) : kp (upd p k q) i = kp p i := by
  have e := l4A p hq hn h
  have e2 : nk (upd p k q) = nk p := by rw [← bnA, ← bnA, e]
  unfold kp; rw [e, e2]
abbrev Sp := Int × Int
def spL (p : Nat → Bool) (T : Nat) : List Sp := (opn p T).map (fun x => (x.1, x.1 + x.2 + 1))
theorem idA (p : Nat → Bool) : ∀ T, ∀ x ∈ rnC p T, x.1 + x.2 + 1 < T
  | 0, x, h => by cases h
  | T + 1, x, h => by
    simp only [rnC, List.mem_append] at h
    rcases h with h | h
    · have := idA p T x h; omega
    · split at h
      · simp only [List.mem_singleton] at h; subst h; dsimp only; omega
      · cases h
theorem feA {p : Nat → Bool} {a b : Nat} (hab : a ≤ b) (hp : ∀ x, a ≤ x → x < b → p x = false) : spL p b = spL p a := by
  unfold spL; rw [f3A b hab hp]
theorem i8A (p : Nat → Bool) : spL p 0 = [] := rfl
theorem izA {p : Nat → Bool} {a b : Nat} (hab : a < b) (hp : ∀ x, a ≤ x → x < b → p x = true) : bel p b = true := by
  cases b with
  | zero => omega
  | succ b => exact hp b (by omega) (by omega)
theorem isA {p : Nat → Bool} {a : Nat} : ∀ b, a < b → (∀ x, a ≤ x → x < b → p x = true) → rnC p b = rnC p a ∧ frm p b = if bel p a then frm p a else a
  | 0, h, _ => by omega
  | b + 1, h, hp => by
    have hb := hp b (by omega) (by omega)
    by_cases e : a = b
    · subst e
      simp only [rnC, frm, hb, Bool.not_true, Bool.false_and, Bool.true_and, Bool.false_eq_true, if_false, List.append_nil]
      cases bel p a <;> simp
    · obtain ⟨i1, i2⟩ := isA b (by omega) (fun x h1 h2 => hp x h1 (by omega))
      have hbb := izA (show a < b by omega) (fun x h1 h2 => hp x h1 (by omega))
      simp only [rnC, frm, hb, hbb, Bool.not_true, Bool.false_and, Bool.and_false, Bool.false_eq_true, if_false, List.append_nil, i1, i2, and_self]
theorem niA {p : Nat → Bool} {a : Nat} (h : bel p a = true) : spL p a = (rnC p a).map (fun x => (x.1, x.1 + x.2 + 1)) ++ [((frm p a : Int), (a : Int))] := by
  unfold spL; rw [e2A h, List.map_append, List.map_singleton]
  have : (frm p a : Int) + ((a : Int) - frm p a - 1) + 1 = a := by omega
  rw [this]
theorem njA {p : Nat → Bool} {a : Nat} (h : bel p a = false) : spL p a = (rnC p a).map (fun x => (x.1, x.1 + x.2 + 1)) := by
  unfold spL; rw [enA h]
theorem swA {p : Nat → Bool} {a b : Nat} (hab : a < b) (hp : ∀ x, a ≤ x → x < b → p x = true) (h : bel p a = false) : spL p b = spL p a ++ [((a : Int), (b : Int))] := by
  obtain ⟨i1, i2⟩ := isA b hab hp
  rw [niA (izA hab hp), njA h, i1, i2, h]; rfl
theorem tvA {p : Nat → Bool} {a b : Nat} (hab : a < b) (hp : ∀ x, a ≤ x → x < b → p x = true) (h : bel p a = true) :
    0 < (spL p a).length ∧ spL p b = (spL p a).set ((spL p a).length - 1) (((spL p a).getD ((spL p a).length - 1) (0, 0)).1, (b : Int)) := by
  obtain ⟨i1, i2⟩ := isA b hab hp
  rw [niA (izA hab hp), niA h, i1, i2, h]
  refine ⟨by simp, ?_⟩
  rw [List.length_append, List.length_singleton, Nat.add_sub_cancel, dnA (Nat.le_refl _), Nat.sub_self, List.set_append_right _ _ (Nat.le_refl _), Nat.sub_self]
  rfl
theorem sp_bel {p : Nat → Bool} {a : Nat} : bel p a = true ↔ 0 < (spL p a).length ∧ ((spL p a).getD ((spL p a).length - 1) (0, 0)).2 = a := by
  constructor
  · intro h
    rw [niA h]
    refine ⟨by simp, ?_⟩
    rw [List.length_append, List.length_singleton, Nat.add_sub_cancel, dnA (Nat.le_refl _), Nat.sub_self]; rfl
  · rintro ⟨h1, h2⟩
    cases h : bel p a
    · rw [njA h] at h1 h2
      have hm : ((rnC p a).map (fun x => (x.1, x.1 + x.2 + 1))).getD (((rnC p a).map (fun x : Rn => (x.1, x.1 + x.2 + 1))).length - 1) (0, 0) ∈ (rnC p a).map (fun x => (x.1, x.1 + x.2 + 1)) := by
        rw [List.getD_eq_getElem?_getD, List.getElem?_eq_getElem (by omega)]; exact List.getElem_mem _
      obtain ⟨y, hy, e⟩ := List.mem_map.1 hm
      have := idA p a y hy
      rw [← e] at h2; dsimp only at h2; omega
    · rfl
theorem nsA (p : Nat → Bool) : ∀ T, ∀ x ∈ rnC p T, 0 ≤ x.1 ∧ 0 ≤ x.2
  | 0, x, h => by cases h
  | T + 1, x, h => by
    simp only [rnC, List.mem_append] at h
    rcases h with h | h
    · exact nsA p T x h
    · split at h
      · rename_i hc
        simp only [Bool.and_eq_true] at hc
        have := euA p T hc.2
        simp only [List.mem_singleton] at h; subst h; dsimp only; omega
      · cases h
theorem sp_bd (p : Nat → Bool) (T : Nat) : ∀ x ∈ spL p T, 0 ≤ x.1 ∧ x.1 < x.2 ∧ x.2 ≤ T := by
  intro x hx
  cases h : bel p T
  · rw [njA h] at hx
    obtain ⟨y, hy, rfl⟩ := List.mem_map.1 hx
    have h1 := idA p T y hy
    have h2 := nsA p T y hy
    dsimp only; omega
  · rw [niA h] at hx
    rcases List.mem_append.1 hx with hx | hx
    · obtain ⟨y, hy, rfl⟩ := List.mem_map.1 hx
      have h1 := idA p T y hy
      have h2 := nsA p T y hy
      dsimp only; omega
    · rw [List.mem_singleton] at hx; subst hx
      have := euA p T h
      dsimp only; omega
theorem sxA (p : Nat → Bool) : ∀ T, (spL p T).length ≤ cnt p T
  | 0 => Nat.le_refl _
  | T + 1 => by
    have ih := sxA p T
    unfold spL at ih ⊢
    rw [List.length_map] at ih ⊢
    cases hp : p T
    · rw [faA hp]; simp only [cnt, hp]; exact ih
    · cases hb : bel p T
      · rw [eoA hp hb]; simp only [cnt, hp, List.length_append, List.length_singleton]; simp; omega
      · have e1 := e2A hb
        rw [e1] at ih
        rw [duA hp hb]; simp only [cnt, hp, List.length_append, List.length_singleton] at ih ⊢; simp; omega
def itA (rs : List Rn) : Nat → Int
  | 0 => 0
  | k + 1 => fst rs k + mor rs k + 1
theorem u1A {q : Nat → Bool} {j : Nat} (hj : j < (aoA q).length) : ∃ f m g : Nat, fst (aoA q) j = f ∧ mor (aoA q) j = m ∧ itA (aoA q) j = g ∧ g ≤ f ∧ f + m + 1 ≤ 65536 ∧
    (∀ i, f ≤ i → i ≤ f + m → q i = true) ∧ (∀ i, g ≤ i → i < f → q i = false) := by
  obtain ⟨rs, hrs⟩ : ∃ rs, rs = aoA q := ⟨_, rfl⟩
  have hr := e0A q
  have hu := dtA q
  have hin : ∀ i, i < 65536 → inR rs i = q i := fun i hi => by rw [hrs]; exact gfA q hi
  rw [← hrs] at hj hr hu ⊢
  clear hrs
  have hb := hu.at j
  have hrj := (hr j hj)
  have hg : 0 ≤ itA rs j ∧ itA rs j ≤ fst rs j := by
    cases j with
    | zero => exact ⟨Int.le_refl _, by show (0 : Int) ≤ _; omega⟩
    | succ j =>
      have h1 := hu.at j
      have h2 := hrj.1
      simp only [lst] at h2
      simp only [itA]; omega
  refine ⟨(fst rs j).toNat, (mor rs j).toNat, (itA rs j).toNat, by omega, by omega, by omega, by omega, by omega, fun i h1 h2 => ?_, fun i h1 h2 => ?_⟩
  · rw [← hin i (by omega), iqA]; exact ⟨j, hj, by omega, by omega⟩
  · rw [← hin i (by omega)]
    cases hc : inR rs i
    · rfl
    · obtain ⟨k, hk, k1, k2⟩ := (iqA rs i).1 hc
      rcases Nat.lt_trichotomy k j with h | h | h
      · have h3 : fst rs k + mor rs k + 1 ≤ itA rs j := by
          cases j with
          | zero => omega
          | succ j =>
            by_cases e : k = j
            · subst e; exact Int.le_refl _
            · have := f2A hr hu k j (by omega) (by omega)
              have h4 := hu.at j
              simp only [itA]; omega
        omega
      · subst h; omega
      · have := f2A hr hu j k h hk
        omega
theorem qfA {q : Nat → Bool} : ∃ g : Nat, itA (aoA q) (aoA q).length = g ∧ g ≤ 65536 ∧ ∀ i, g ≤ i → i < 65536 → q i = false := by
  obtain ⟨rs, hrs⟩ : ∃ rs, rs = aoA q := ⟨_, rfl⟩
  have hr := e0A q
  have hu := dtA q
  have hin : ∀ i, i < 65536 → inR rs i = q i := fun i hi => by rw [hrs]; exact gfA q hi
  rw [← hrs] at hr hu ⊢
  clear hrs
  obtain ⟨n, hn⟩ : ∃ n, n = rs.length := ⟨_, rfl⟩
  have hg : 0 ≤ itA rs rs.length ∧ itA rs rs.length ≤ 65536 := by
    rw [← hn]
    cases n with
    | zero => exact ⟨Int.le_refl _, by show (0 : Int) ≤ _; omega⟩
    | succ j =>
      have h1 := hu.at j
      have h2 := (hr j (by omega)).2
      simp only [itA]; omega
  refine ⟨(itA rs rs.length).toNat, by omega, by omega, fun i h1 h2 => ?_⟩
  rw [← hin i (by omega)]
  cases hc : inR rs i
  · rfl
  · obtain ⟨k, hk, k1, k2⟩ := (iqA rs i).1 hc
    rw [← hn] at h1 hg hk
    have h3 : fst rs k + mor rs k + 1 ≤ itA rs n := by
      cases n with
      | zero => omega
      | succ j =>
        by_cases e : k = j
        · subst e; exact Int.le_refl _
        · have := f2A hr hu k j (by omega) (by omega)
          have h4 := hu.at j
          simp only [itA]; omega
    omega
theorem ksA (p : Nat → Bool) (k x K : Nat) (hK : k * 65536 = K) (h1 : K ≤ x) (h2 : x < K + 65536) : p x = blk p k (x - K) := by
  have h3 : x - K < 65536 := by omega
  rw [cjA h3, hK]
  congr 1; omega
theorem mnA {p : Nat → Bool} {i : Nat} (h : i < nk p) : ∃ gE : Nat, itA (aoA (blk p (kp p i))) (aoA (blk p (kp p i))).length = gE ∧ gE ≤ 65536 ∧ spL p (kp p (i + 1) * 65536) = spL p (kp p i * 65536 + gE) := by
  obtain ⟨gE, h1, h2, h3⟩ := qfA (q := blk p (kp p i))
  have hnx := gxA h
  have hks := fnA (kp p i)
  have hml : (kp p i + 1) * 65536 ≤ kp p (i + 1) * 65536 := Nat.mul_le_mul_right _ hnx
  refine ⟨gE, h1, h2, ?_⟩
  rw [feA hml (fun y h3 h4 => onA h h3 h4), hks]
  obtain ⟨K, hK⟩ : ∃ K, kp p i * 65536 = K := ⟨_, rfl⟩
  rw [hK]
  refine feA (by omega) (fun x h4 h5 => ?_)
  have h6 : K ≤ x := by omega
  exact (ksA p (kp p i) x K hK h6 h5).trans (h3 _ (by omega) (by omega))
theorem weA {p : Nat → Bool} {i j : Nat} (hj : j < (aoA (blk p (kp p i))).length) : ∃ f m g : Nat, fst (aoA (blk p (kp p i))) j = f ∧ mor (aoA (blk p (kp p i))) j = m ∧ itA (aoA (blk p (kp p i))) j = g ∧ itA (aoA (blk p (kp p i))) (j + 1) = ((f + m + 1 : Nat) : Int) ∧
    g ≤ f ∧ f + m + 1 ≤ 65536 ∧ spL p (kp p i * 65536 + f) = spL p (kp p i * 65536 + g) ∧ ∀ y, kp p i * 65536 + f ≤ y → y < kp p i * 65536 + (f + m + 1) → p y = true := by
  obtain ⟨f, m, g, h1, h2, h3, h4, h5, h6, h7⟩ := u1A hj
  obtain ⟨K, hK⟩ : ∃ K, kp p i * 65536 = K := ⟨_, rfl⟩
  rw [hK]
  refine ⟨f, m, g, h1, h2, h3, ?_, h4, h5, feA (by omega) (fun x h8 h9 => ?_), fun y h8 h9 => ?_⟩
  · show fst _ j + mor _ j + 1 = _
    rw [h1, h2]; omega
  · have h10 : K ≤ x := by omega
    exact (ksA p (kp p i) x K hK h10 (by omega)).trans (h7 _ (by omega) (by omega))
  · have h10 : K ≤ y := by omega
    exact (ksA p (kp p i) y K hK h10 (by omega)).trans (h6 _ (by omega) (by omega))
theorem tuA {p : Nat → Bool} {a b : Nat} (hab : a < b) (hp : ∀ x, a ≤ x → x < b → p x = true) :
    (0 < (spL p a).length ∧ ((spL p a).getD ((spL p a).length - 1) (0, 0)).2 = a ∧ spL p b = (spL p a).set ((spL p a).length - 1) (((spL p a).getD ((spL p a).length - 1) (0, 0)).1, (b : Int))) ∨
    (((spL p a).length = 0 ∨ ((spL p a).getD ((spL p a).length - 1) (0, 0)).2 ≠ a) ∧ spL p b = spL p a ++ [((a : Int), (b : Int))]) := by
  cases h : bel p a
  · right
    refine ⟨?_, swA hab hp h⟩
    by_cases h0 : (spL p a).length = 0
    · exact .inl h0
    · refine .inr fun e => ?_
      have := sp_bel.2 ⟨by omega, e⟩
      rw [h] at this; cases this
  · left
    have h1 := sp_bel.1 h
    exact ⟨h1.1, h1.2, (tvA hab hp h).2⟩
def ddN (xs : List Int) : Nat → List Int
  | 0 => []
  | n + 1 => ddN xs n ++ (if n = 0 ∨ xs.getD n 0 ≠ xs.getD (n - 1) 0 then [xs.getD n 0] else [])
theorem kpA {xs : List Int} {n : Nat} (h : xs.getD n 0 ≠ xs.getD (n - 1) 0) : ddN xs (n + 1) = ddN xs n ++ [xs.getD n 0] := by
  simp only [ddN]; rw [if_pos (.inr h)]
theorem koA {xs : List Int} {n : Nat} (h0 : 0 < n) (h : xs.getD n 0 = xs.getD (n - 1) 0) : ddN xs (n + 1) = ddN xs n := by
  simp only [ddN]; rw [if_neg (by rintro (h1 | h1); · omega
                                  · exact h1 h), List.append_nil]
theorem osA (xs : List Int) : ddN xs 1 = [xs.getD 0 0] := rfl
theorem m2A {xs : List Int} (hs : ∀ i j, i ≤ j → j < xs.length → xs.getD i 0 ≤ xs.getD j 0) : ∀ n, n ≤ xs.length →
    Inc (ddN xs n) ∧ (∀ z, z ∈ ddN xs n ↔ ∃ i, i < n ∧ xs.getD i 0 = z) ∧ (0 < n → ∀ z ∈ ddN xs n, z ≤ xs.getD (n - 1) 0)
  | 0, _ => ⟨kgA, fun z => ⟨fun h => (by cases h), fun ⟨i, h, _⟩ => absurd h (Nat.not_lt_zero i)⟩, fun h => absurd h (Nat.lt_irrefl 0)⟩
  | n + 1, h => by
    obtain ⟨i1, i2, i3⟩ := m2A hs n (by omega)
    by_cases h0 : n = 0
    · subst h0
      rw [osA]
      refine ⟨by unfold Inc; simp, fun z => ?_, fun _ z hz => ?_⟩
      · simp only [List.mem_singleton]
        exact ⟨fun h => ⟨0, Nat.zero_lt_one, h.symm⟩, fun ⟨i, h1, h2⟩ => by obtain rfl : i = 0 := by omega
                                                                            exact h2.symm⟩
      · rw [List.mem_singleton] at hz; subst hz; exact Int.le_refl _
    · by_cases he : xs.getD n 0 = xs.getD (n - 1) 0
      · rw [koA (by omega) he]
        refine ⟨i1, fun z => ?_, fun _ z hz => ?_⟩
        · rw [i2]
          constructor
          · rintro ⟨i, h1, h2⟩; exact ⟨i, by omega, h2⟩
          · rintro ⟨i, h1, h2⟩
            by_cases e : i = n
            · subst e; exact ⟨i - 1, by omega, he ▸ h2⟩
            · exact ⟨i, by omega, h2⟩
        · rw [Nat.add_sub_cancel, he]; exact i3 (by omega) z hz
      · rw [kpA he]
        have hlt : ∀ z ∈ ddN xs n, z < xs.getD n 0 := fun z hz => by
          have h1 := i3 (by omega) z hz
          have h2 := hs (n - 1) n (by omega) (by omega)
          omega
        refine ⟨?_, fun z => ?_, fun _ z hz => ?_⟩
        · unfold Inc
          rw [List.pairwise_append]
          refine ⟨i1, by simp, fun a ha b hb => ?_⟩
          rw [List.mem_singleton] at hb; subst hb; exact hlt a ha
        · rw [List.mem_append, List.mem_singleton, i2]
          constructor
          · rintro (⟨i, h1, h2⟩ | h1)
            · exact ⟨i, by omega, h2⟩
            · exact ⟨n, by omega, h1.symm⟩
          · rintro ⟨i, h1, h2⟩
            by_cases e : i = n
            · subst e; exact .inr h2.symm
            · exact .inl ⟨i, by omega, h2⟩
        · rw [Nat.add_sub_cancel]
          rcases List.mem_append.1 hz with hz | hz
          · have := hlt z hz; omega
          · rw [List.mem_singleton] at hz; subst hz; exact Int.le_refl _
theorem v9A (p q : Nat → Bool) : ddN ((b3A p ++ b3A q).mergeSort (fun x y => decide (x ≤ y))) ((b3A p ++ b3A q).mergeSort (fun x y => decide (x ≤ y))).length = adA (fun k => ne p k || ne q k) 65536 := by
  obtain ⟨xs, hxs⟩ : ∃ xs, xs = (b3A p ++ b3A q).mergeSort (fun x y => decide (x ≤ y)) := ⟨_, rfl⟩
  have hm : ∀ z, z ∈ xs ↔ z ∈ b3A p ∨ z ∈ b3A q := fun z => by rw [hxs, List.mem_mergeSort, List.mem_append]
  have hp : xs.Pairwise (fun a b => decide (a ≤ b) = true) := by
    rw [hxs]
    exact List.pairwise_mergeSort (fun a b c h1 h2 => by simp at *; omega) (fun a b => by simp; omega) _
  rw [← hxs]
  have hs : ∀ i j, i ≤ j → j < xs.length → xs.getD i 0 ≤ xs.getD j 0 := fun i j hij hj => by
    rcases Nat.lt_or_ge i j with h | h
    · have := List.pairwise_iff_getElem.1 hp i j (by omega) hj h
      rw [axA (show i < xs.length by omega), axA hj]
      simpa using this
    · obtain rfl : i = j := by omega
      exact Int.le_refl _
  obtain ⟨i1, i2, -⟩ := m2A hs xs.length (Nat.le_refl _)
  refine ffA i1 (bfA _ _) (fun z => ?_)
  rw [i2, buA]
  have hz : (∃ i, i < xs.length ∧ xs.getD i 0 = z) ↔ z ∈ xs := by
    constructor
    · rintro ⟨i, h1, rfl⟩; exact lsA h1
    · intro h
      obtain ⟨i, h1, h2⟩ := List.getElem_of_mem h
      exact ⟨i, h1, by rw [axA h1]; exact h2⟩
  rw [hz, hm]
  unfold b3A
  rw [buA, buA]
  constructor
  · rintro (⟨i, h1, h2, h3⟩ | ⟨i, h1, h2, h3⟩)
    · exact ⟨i, h1, by rw [h2]; rfl, h3⟩
    · exact ⟨i, h1, by rw [h2, Bool.or_true], h3⟩
  · rintro ⟨i, h1, h2, h3⟩
    rw [Bool.or_eq_true] at h2; rcases h2 with h | h
    · exact .inl ⟨i, h1, h, h3⟩
    · exact .inr ⟨i, h1, h, h3⟩
def kq (e : Nat → Bool) (i : Nat) : Nat := if i < cnt e 65536 then ((adA e 65536).getD i 0).toNat else 65536
theorem r3A {e : Nat → Bool} {i : Nat} (h : i < cnt e 65536) : kq e i < 65536 ∧ e (kq e i) = true ∧ cnt e (kq e i) = i ∧ (adA e 65536).getD i 0 = ((kq e i : Nat) : Int) := by
  obtain ⟨j, h1, h2, h3, h4⟩ := hyA e h
  have e1 : kq e i = j := by unfold kq; rw [if_pos h, h4]; rfl
  rw [e1]; exact ⟨h1, h2, h3, h4⟩
theorem taA {e : Nat → Bool} {i : Nat} (h : cnt e 65536 ≤ i) : kq e i = 65536 := by unfold kq; rw [if_neg (Nat.not_lt.2 h)]
theorem ocA {e : Nat → Bool} {i : Nat} (h : i ≤ cnt e 65536) : cnt e (kq e i) = i := by
  by_cases e1 : i < cnt e 65536
  · exact (r3A e1).2.2.1
  · have : i = cnt e 65536 := by omega
    rw [taA (Nat.le_of_eq this.symm), this]
theorem x2A {e : Nat → Bool} {i : Nat} (h : i < cnt e 65536) {k : Nat} (h1 : kq e i < k) (h2 : k < kq e (i + 1)) : e k = false := by
  cases hk : e k
  · rfl
  · have a1 := r3A h
    have a2 := ocA (e := e) (i := i + 1) h
    have c1 : cnt e (kq e i + 1) = i + 1 := by simp only [cnt, a1.2.1, a1.2.2.1, if_true]
    have c2 := cnt_mono e (m := kq e i + 1) k (by omega)
    have c3 : cnt e (k + 1) = cnt e k + 1 := by simp only [cnt, hk, if_true]
    have c4 := cnt_mono e (m := k + 1) (kq e (i + 1)) (by omega)
    omega
theorem r2A {e : Nat → Bool} {k : Nat} (h : k < kq e 0) : e k = false := by
  cases hk : e k
  · rfl
  · have a2 := ocA (e := e) (i := 0) (Nat.zero_le _)
    have c3 : cnt e (k + 1) = cnt e k + 1 := by simp only [cnt, hk, if_true]
    have c4 := cnt_mono e (m := k + 1) (kq e 0) (by omega)
    omega
theorem usA {e : Nat → Bool} {i : Nat} (h : i < cnt e 65536) : kq e i < kq e (i + 1) := by
  have a1 := r3A h
  have a2 := ocA (e := e) (i := i + 1) h
  rcases Nat.lt_or_ge (kq e i) (kq e (i + 1)) with h1 | h1
  · exact h1
  · have := cnt_mono e (m := kq e (i + 1)) (kq e i) h1
    omega
def ggA (R : Nat → Bool) (k x : Nat) : Bool := decide (x / 65536 < k) && R x
theorem vaA {R : Nat → Bool} (h : ∀ x, TOP ≤ x → R x = false) : ggA R 65536 = R := by
  funext x
  by_cases hx : x / 65536 < 65536
  · exact h9A (decide_eq_true hx)
  · refine (haA (decide_eq_false hx)).trans (h x ?_).symm
    rw [dwA]; omega
theorem rkA {R : Nat → Bool} {k : Nat} (h : ∀ j, j < k → ne R j = false) : ggA R k = fun _ => false := by
  funext x
  by_cases hx : x / 65536 < k
  · exact (h9A (decide_eq_true hx)).trans (lnA (h _ hx))
  · exact haA (decide_eq_false hx)
theorem riA {R e : Nat → Bool} (he : ∀ k, e k = false → ne R k = false) {i : Nat} (h : i < cnt e 65536) : ggA R (kq e (i + 1)) = upd (ggA R (kq e i)) (kq e i) (blk R (kq e i)) := by
  have hn := usA h
  funext x
  have hml := Nat.mod_lt x (show 0 < 65536 by decide)
  have hdm := Nat.div_add_mod x 65536
  unfold upd
  by_cases h1 : x / 65536 = kq e i
  · rw [if_pos h1, cjA hml, ← h1, Nat.mul_comm, hdm]
    exact h9A (decide_eq_true (by rw [h1]; exact hn))
  · rw [if_neg h1]
    by_cases h2 : x / 65536 < kq e i
    · exact (h9A (decide_eq_true (Nat.lt_trans h2 hn))).trans (h9A (decide_eq_true h2)).symm
    · refine Eq.trans ?_ (haA (decide_eq_false h2)).symm
      by_cases h3 : x / 65536 < kq e (i + 1)
      · exact (h9A (decide_eq_true h3)).trans (lnA (he _ (x2A h (by omega) h3)))
      · exact haA (decide_eq_false h3)
theorem m3A (R : Nat → Bool) {k j : Nat} (h : k ≤ j) : ne (ggA R k) j = false := by
  cases hk : ne (ggA R k) j
  · rfl
  · obtain ⟨i, hi, hp⟩ := ne_iff.1 hk
    have h1 : (j * 65536 + i) / 65536 = j := by omega
    unfold ggA at hp
    rw [h1, decide_eq_false (Nat.not_lt.2 h), Bool.false_and] at hp
    cases hp
theorem rjA {R : Nat → Bool} {k : Nat} (h : ne R k = false) : upd (ggA R k) k (blk R k) = ggA R k := by
  have h1 : blk R k = blk (ggA R k) k := by rw [gjA h, gjA (m3A R (Nat.le_refl k))]
  rw [h1, ruA]
theorem vjA {F : Bool → Bool → Bool} (hF : F false false = false) (p q : Nat → Bool) (k : Nat) : blk (two F p q) k = two F (blk p k) (blk q k) := by
  funext i
  by_cases hi : i < 65536
  · rw [cjA hi]; unfold two; rw [cjA hi, cjA hi]
  · rw [doA hi]; unfold two; rw [doA hi, doA hi, hF]
theorem wdA {F : Bool → Bool → Bool} (hF : F false false = false) {p q : Nat → Bool} {k : Nat} (h : (ne p k || ne q k) = false) : ne (two F p q) k = false := by
  rw [Bool.or_eq_false_iff] at h
  cases hn : ne (two F p q) k
  · rfl
  · obtain ⟨i, hi, hp⟩ := ne_iff.1 hn
    unfold two at hp
    rw [o0A h.1 hi, o0A h.2 hi, hF] at hp
    cases hp
theorem o1A (l : List Int) : ∀ i j, i ≤ j → j < (l.mergeSort (fun x y => decide (x ≤ y))).length → (l.mergeSort (fun x y => decide (x ≤ y))).getD i 0 ≤ (l.mergeSort (fun x y => decide (x ≤ y))).getD j 0 := by
  obtain ⟨xs, hxs⟩ : ∃ xs, xs = l.mergeSort (fun x y => decide (x ≤ y)) := ⟨_, rfl⟩
  have hp : xs.Pairwise (fun a b => decide (a ≤ b) = true) := by
    rw [hxs]
    exact List.pairwise_mergeSort (fun a b c h1 h2 => by simp at *; omega) (fun a b => by simp; omega) _
  rw [← hxs]
  intro i j hij hj
  rcases Nat.lt_or_ge i j with h | h
  · have := List.pairwise_iff_getElem.1 hp i j (by omega) hj h
    rw [axA (show i < xs.length by omega), axA hj]
    simpa using this
  · obtain rfl : i = j := by omega
    exact Int.le_refl _
theorem umA (l : List Int) : bkA (l.mergeSort (fun x y => decide (x ≤ y))) = bkA l := by
  funext x; unfold bkA; exact decide_eq_decide.2 List.mem_mergeSort
theorem memb_take {xs : List Int} {i x : Nat} : bkA (xs.take i) x = true ↔ ∃ j, j < i ∧ j < xs.length ∧ xs.getD j 0 = x := by
  unfold bkA
  rw [decide_eq_true_iff]
  constructor
  · intro h
    obtain ⟨j, h1, h2⟩ := List.getElem_of_mem h
    rw [List.length_take] at h1
    refine ⟨j, by omega, by omega, ?_⟩
    rw [axA (show j < xs.length by omega), ← h2, List.getElem_take]
  · rintro ⟨j, h1, h2, h3⟩
    rw [← h3, axA h2]
    exact List.mem_of_getElem? (i := j) (by rw [List.getElem?_take_of_lt h1, List.getElem?_eq_getElem h2])
def ofK (xs : List Int) (i : Nat) : Nat := (xs.getD (i - 1) 0).toNat / 65536
def ofA (xs : List Int) (i : Nat) : List Int := if i = 0 then [] else adA (blk (bkA (xs.take i)) (ofK xs i)) 65536
def ofS (xs : List Int) (i : Nat) : Nat → Bool := if i = 0 then fun _ => false else ggA (bkA (xs.take i)) (ofK xs i)
theorem hrA {xs : List Int} {i : Nat} (h0 : 0 < i) (hi : i < xs.length) (h : xs.getD (i - 1) 0 = xs.getD i 0) : bkA (xs.take (i + 1)) = bkA (xs.take i) := by
  funext x
  rw [Bool.eq_iff_iff, memb_take, memb_take]
  constructor
  · rintro ⟨j, h1, h2, h3⟩
    by_cases e : j = i
    · exact ⟨i - 1, by omega, by omega, by rw [h, ← e]; exact h3⟩
    · exact ⟨j, by omega, h2, h3⟩
  · rintro ⟨j, h1, h2, h3⟩
    exact ⟨j, by omega, h2, h3⟩
section
variable {xs : List Int} (hs : ∀ i j, i ≤ j → j < xs.length → xs.getD i 0 ≤ xs.getD j 0) (hu : ∀ x ∈ xs, 0 ≤ x ∧ x < 4294967296)
include hs hu
omit hs in
theorem hqA {i : Nat} (h : i < xs.length) : 0 ≤ xs.getD i 0 ∧ xs.getD i 0 < 4294967296 := hu _ (lsA h)
omit hs in
theorem t6A {i : Nat} (h0 : 0 < i) (hi : i ≤ xs.length) : ofK xs i < 65536 := by
  have := hqA hu (i := i - 1) (by omega)
  unfold ofK; omega
theorem gvA {i x : Nat} (h0 : 0 < i) (hi : i ≤ xs.length) (h : bkA (xs.take i) x = true) : (x : Int) ≤ xs.getD (i - 1) 0 ∧ x / 65536 ≤ ofK xs i := by
  obtain ⟨j, h1, h2, h3⟩ := memb_take.1 h
  have h4 := hs j (i - 1) (by omega) (by omega)
  have h5 := hqA hu (i := i - 1) (by omega)
  refine ⟨by omega, ?_⟩
  unfold ofK
  exact Nat.div_le_div_right (by omega)
theorem nxA {i : Nat} (h0 : 0 < i) (hi : i ≤ xs.length) : upd (ofS xs i) (ofK xs i) (blk (bkA (xs.take i)) (ofK xs i)) = bkA (xs.take i) := by
  unfold ofS; rw [if_neg (Nat.ne_of_gt h0)]
  funext x
  unfold upd
  by_cases h1 : x / 65536 = ofK xs i
  · rw [if_pos h1, cjA (Nat.mod_lt _ (by decide)), ← h1, Nat.mul_comm, Nat.div_add_mod]
  · rw [if_neg h1]
    cases hm : bkA (xs.take i) x
    · unfold ggA; rw [hm, Bool.and_false]
    · have := (gvA hs hu h0 hi hm).2
      unfold ggA; rw [hm, decide_eq_true (show x / 65536 < ofK xs i by omega)]; rfl
omit hs in
theorem nyA {i : Nat} (h0 : 0 < i) (hi : i ≤ xs.length) : 0 < (ofA xs i).length := by
  unfold ofA
  rw [if_neg (Nat.ne_of_gt h0), baA]
  have h5 := hqA hu (i := i - 1) (by omega)
  have hml : (xs.getD (i - 1) 0).toNat % 65536 < 65536 := Nat.mod_lt _ (by decide)
  have hp : blk (bkA (xs.take i)) (ofK xs i) ((xs.getD (i - 1) 0).toNat % 65536) = true := by
    rw [cjA hml]; unfold ofK; rw [Nat.mul_comm, Nat.div_add_mod]
    exact memb_take.2 ⟨i - 1, by omega, by omega, by omega⟩
  have h1 : cnt (blk (bkA (xs.take i)) (ofK xs i)) ((xs.getD (i - 1) 0).toNat % 65536 + 1) = cnt (blk (bkA (xs.take i)) (ofK xs i)) ((xs.getD (i - 1) 0).toNat % 65536) + 1 := by simp only [cnt, hp, if_true]
  have h2 := cnt_mono (blk (bkA (xs.take i)) (ofK xs i)) (m := (xs.getD (i - 1) 0).toNat % 65536 + 1) 65536 hml
  omega
theorem wtA {i : Nat} (hi : i < xs.length) (hne : i = 0 ∨ xs.getD (i - 1) 0 ≠ xs.getD i 0) :
    ofA xs (i + 1) = (if 0 < i ∧ ofK xs i = ofK xs (i + 1) then ofA xs i else []) ++ [(((xs.getD i 0).toNat % 65536 : Nat) : Int)] ∧
    ofS xs (i + 1) = (if 0 < i ∧ ofK xs i = ofK xs (i + 1) then ofS xs i else bkA (xs.take i)) := by
  have hb := hqA hu hi
  have hK : ofK xs (i + 1) = (xs.getD i 0).toNat / 65536 := by unfold ofK; rw [Nat.add_sub_cancel]
  have hml : (xs.getD i 0).toNat % 65536 < 65536 := Nat.mod_lt _ (by decide)
  have hdm := Nat.div_add_mod (xs.getD i 0).toNat 65536
  have hlt : ∀ x, bkA (xs.take i) x = true → x < (xs.getD i 0).toNat := fun x hx => by
    rcases hne with h0 | h0
    · subst h0; obtain ⟨j, h1, _⟩ := memb_take.1 hx; omega
    · by_cases h0' : i = 0
      · subst h0'; obtain ⟨j, h1, _⟩ := memb_take.1 hx; omega
      · have h1 := (gvA hs hu (Nat.pos_of_ne_zero h0') (Nat.le_of_lt hi) hx).1
        have h2 := hs (i - 1) i (by omega) hi
        omega
  have hmore : ∀ x, bkA (xs.take (i + 1)) x = true ↔ bkA (xs.take i) x = true ∨ x = (xs.getD i 0).toNat := fun x => by
    rw [memb_take, memb_take]
    constructor
    · rintro ⟨j, h1, h2, h3⟩
      by_cases e : j = i
      · subst e; right; omega
      · exact .inl ⟨j, by omega, h2, h3⟩
    · rintro (⟨j, h1, h2, h3⟩ | h)
      · exact ⟨j, by omega, h2, h3⟩
      · exact ⟨i, by omega, hi, by omega⟩
  have hA1 : ofA xs (i + 1) = adA (blk (bkA (xs.take i)) (ofK xs (i + 1))) 65536 ++ [(((xs.getD i 0).toNat % 65536 : Nat) : Int)] := by
    unfold ofA
    rw [if_neg (Nat.succ_ne_zero i)]
    refine ffA (bfA _ _) ?_ (fun z => ?_)
    · unfold Inc
      rw [List.pairwise_append]
      refine ⟨bfA _ _, by simp, fun a ha b hb' => ?_⟩
      rw [List.mem_singleton] at hb'; subst hb'
      obtain ⟨r, h1, h2, rfl⟩ := (buA _ _ _).1 ha
      rw [cjA h1, hK] at h2
      have := hlt _ h2
      omega
    · rw [List.mem_append, List.mem_singleton, buA, buA]
      constructor
      · rintro ⟨r, h1, h2, h3⟩
        rw [cjA h1] at h2
        rcases (hmore _).1 h2 with h4 | h4
        · exact .inl ⟨r, h1, by rw [cjA h1]; exact h4, h3⟩
        · right; rw [hK] at h4; omega
      · rintro (⟨r, h1, h2, h3⟩ | h)
        · exact ⟨r, h1, by rw [cjA h1]; exact (hmore _).2 (.inl (by rw [cjA h1] at h2; exact h2)), h3⟩
        · exact ⟨_, hml, by rw [cjA hml, hK]; exact (hmore _).2 (.inr (by omega)), h⟩
  have hS1 : ofS xs (i + 1) = ggA (bkA (xs.take i)) (ofK xs (i + 1)) := by
    unfold ofS
    rw [if_neg (Nat.succ_ne_zero i)]
    funext x
    unfold ggA
    by_cases h1 : x / 65536 < ofK xs (i + 1)
    · rw [decide_eq_true h1, Bool.true_and, Bool.true_and, Bool.eq_iff_iff, hmore]
      exact ⟨fun h => h.resolve_right (fun e => by rw [e, hK] at h1; omega), .inl⟩
    · rw [decide_eq_false h1]; rfl
  by_cases h1 : 0 < i ∧ ofK xs i = ofK xs (i + 1)
  · rw [if_pos h1, if_pos h1, hA1, hS1]
    constructor
    · have : ofA xs i = adA (blk (bkA (xs.take i)) (ofK xs (i + 1))) 65536 := by unfold ofA; rw [if_neg (Nat.ne_of_gt h1.1), h1.2]
      rw [this]
    · unfold ofS; rw [if_neg (Nat.ne_of_gt h1.1), h1.2]
  · rw [if_neg h1, if_neg h1, hA1, hS1]
    have hlow : ∀ x, bkA (xs.take i) x = true → x / 65536 < ofK xs (i + 1) := fun x hx => by
      by_cases h0 : i = 0
      · subst h0; obtain ⟨j, h1, _⟩ := memb_take.1 hx; omega
      · have h2 := (gvA hs hu (Nat.pos_of_ne_zero h0) (Nat.le_of_lt hi) hx).2
        have h3 : ofK xs i ≠ ofK xs (i + 1) := fun e => h1 ⟨Nat.pos_of_ne_zero h0, e⟩
        have h4 : ofK xs i ≤ ofK xs (i + 1) := by
          rw [hK]; unfold ofK
          have := hs (i - 1) i (by omega) hi
          exact Nat.div_le_div_right (by omega)
        omega
    constructor
    · have : adA (blk (bkA (xs.take i)) (ofK xs (i + 1))) 65536 = [] := List.eq_nil_of_length_eq_zero (by
        rw [baA]
        refine dgA _ (fun r hr => ?_)
        rw [cjA hr]
        cases hm : bkA (xs.take i) (ofK xs (i + 1) * 65536 + r)
        · rfl
        · have := hlow _ hm; omega)
      rw [this]
    · funext x
      cases hm : bkA (xs.take i) x
      · unfold ggA; rw [hm, Bool.and_false]
      · unfold ggA; rw [hm, decide_eq_true (hlow x hm)]; rfl
end
end Go.LA
end
section
set_option linter.unusedSimpArgs false
set_option linter.unusedVariables false
set_option maxRecDepth 3000
namespace Go.Proofs.YtfcioiobhpcngaaGreatDoor
open Go.LA Go.ArrP Go.RowKit
theorem e6A : El Tryz.prog 53 65 (.agg #[.int .u8 0, .slice none 0 0, .slice none 0 0, .slice none 0 0]) 4 80 := ⟨rfl, rfl, rfl, by decide⟩
theorem wpA {w : World} {ba bb na ca nb cb ga gb : Nat} {xs ys : List Value} (ha : Own ba 65 4 w (.slice (some ⟨ga, 0, none⟩) na ca) na xs) (hb : Own bb 65 4 w (.slice (some ⟨gb, 0, none⟩) nb cb) nb ys) (hcb : 0 < cb) (hne : ga ≠ gb) (o l' c' : Nat) :
    (callFunc 131 #[.slice (some ⟨ga, 0, none⟩) na ca, .slice (some ⟨gb, o, none⟩) l' c']).run Tryz.prog w = .ok (.value (.bool false)) w := by
  rw [run_callFunc_extern Tryz.func131 (by kernel_rfl) (by kernel_rfl) (by kernel_rfl) (e := Extern.SlicesOverlaps.overlaps #[53, 53] #[4]) (by kernel_rfl), ehA rfl (fun _ => rfl) (by decide) ha hb hcb hne]
  rfl
theorem r5A (w : World) (base bu : Nat) (v u : Value) (n i : Nat) (cs xs : List Value) (ho : Own base 65 4 w v n cs) (hu : Own bu 65 4 w u 1 xs) (hi : i ≤ n) 
    (hap : ∀ k, u.ownBlock = some k → v.ownBlock ≠ some k) (h1c : ∀ c ∈ cs, c.oneCell' = true) (h1 : ∀ c ∈ xs, c.oneCell' = true) (hn : n ≤ 70368744177663) (hb : (n + 1) * 80 ≤ 140737488355328) :
    Fc Tryz.prog 89 #[v, .int .i64 i, u] w (fun en w' => ∃ v', en = .returned v' ∧ Own 0 65 4 w' v' (n + 1) (cs.take (i * 4) ++ xs ++ cs.drop (i * 4)) ∧ Fr (fun k => v.ownBlock = some k) w w' ∧ LocR w v v') := by
  have hs := ho.slC
  have hsu := hu.slC
  have hcl := ho.1
  have hxl := hu.1
  by_cases hin : i = n
  · refine Fc.of (args := [_, _, _]) Tryz.func89 rfl rfl Tryz.ntmps89 (Nat.le_of_ble_eq_true rfl) ?_
    subst hin
    repeat' (first|(refine oLA ?_;first|refine a0A rfl ?_|(refine a4A (hK _ _ (daA rfl (by decide) e6A rfl ho rfl (HasC.val hsu) h1 (by unfold maxLen; omega) hb (fun v' w2 w3 he2 ho3 hg3 hl3 => ?_))); clear hK K; dsimp only [vals]; refine amA (by kernel_rfl) (fun K hK => ?_))|refine wOp ?_|(refine wCm ?_ ?_<;>intro hc)|(refine wNl hK ?_;clear hK K))|refine wG ?_|(refine wCR ?_;intro K hK)|fail)
    refine blA rfl (fun v5 w5 e5 h5 => ?_)
    obtain rfl : v5 = _ := h5
    refine ⟨_, rfl, ?_, ?_, hl3.le he2.size⟩
    · rw [List.take_of_length_le (by omega), List.drop_of_length_le (by omega), List.append_nil]
      exact ho3.ext e5
    · exact Fr.grown (f5A (e4A he2 hg3.grownBy) e5)
  · have hlt : i < n := by omega
    rcases ho.2 with ⟨_, h0⟩ | ⟨gb, cap, cur, rfl, hgb, hg, hnc, hm, hsz, htake⟩
    · omega
    rcases hu.2 with ⟨_, h0⟩ | ⟨gu, capu, curu, rfl, hgub, hgu, hncu, hmu, hszu, htakeu⟩
    · omega
    have hne : gu ≠ gb := fun e => hap gu rfl (by rw [e]; rfl)
    have hst : ∀ c ∈ cs.drop (i * 4), c.oneCell' = true := fun c hc => h1c c (List.mem_of_mem_drop hc)
    by_cases hroom : n + 1 ≤ cap
    · obtain ⟨zs, hzl, hmore⟩ := ho.more 1 hroom
      have hsl := hmore.slC
      have hsub : dyA (.slice (some ⟨gb, 0, none⟩) (n + 1) cap) (i + 1) (n + 1) 4 = .slice (some ⟨gb, (i + 1) * 4, none⟩) (n + 1 - (i + 1)) (cap - (i + 1)) := e8A (by omega)
      refine Fc.of (args := [_, _, _]) Tryz.func89 rfl rfl Tryz.ntmps89 (Nat.le_of_ble_eq_true rfl) ?_
      repeat' (first|(refine oLA ?_;first|refine a0A rfl ?_|refine hdA rfl rfl rfl ?_|(refine eyA rfl _ rfl rfl rfl (by omega) (by omega) (by omega) (fun _ => rfl) ?_; rw [show ((n : Int) + ((1 : Nat) : Int)).toNat = n + 1 by omega])|(refine cdA rfl _ rfl rfl (HasC.val hsl) rfl (by omega) (by omega) (by exact fun _ => rfl) ?_; rw [show ((i : Int) + ((1 : Nat) : Int)).toNat = i + 1 by omega])|refine puA (f := 131) (c := .bool false) rfl rfl rfl rfl (fun w2 e2 => by rw [hsub]; exact wpA (hu.ext e2) (ho.ext e2) (by omega) hne _ _ _) ?_|(refine a4A (hK _ _ rfl (eeA (i + 1) rfl (by intro q h; cases h; decide) e6A rfl rfl hmore (hsl.sub (Nat.le_of_lt (by omega)) (Nat.le_refl _)) (by omega) (by rw [ldA hlt hcl hzl]; exact hst) (fun w2 w3 e2 ho3 hg3 => ?_))); clear hK K; dsimp only [vals]; have hu3 := ((hu.ext e2).kept hg3 (.inr (fun q => hne (by injection q)))); refine amA (by kernel_rfl) (fun K hK => ?_))|(refine a4A (hK _ _ (eeA i rfl (by intro q h; cases h; decide) e6A rfl rfl ho3 hu3.slC (by omega) (fun c hc => h1 c (List.mem_of_mem_take hc)) (fun w4 w5 e4 ho5 hg5 => ?_))); clear hK K; dsimp only [vals]; refine amA (by kernel_rfl) (fun K hK => ?_))|refine wOp ?_|(refine wCm ?_ ?_<;>intro hc)|(refine wNl hK ?_;clear hK K))|(refine oCX ?_;first|refine djA 8 (by kernel_rfl) (by kernel_rfl) (by decide) (fun K hK => ?_))|refine wG ?_|(refine wCR ?_;intro K hK)|fail)
      refine blA rfl (fun v6 w6 e6 h6 => ?_)
      obtain rfl : v6 = _ := h6
      refine ⟨_, rfl, ?_, ?_, LocR.refl⟩
      · have h7 := ho5.ext e6
        rw [goA hlt hcl (by omega) hzl] at h7
        exact h7.base (Nat.zero_le _)
      · exact Fr.grown (f5A (h2A (e4A e2 hg3) (e4A e4 hg5)) e6)
    · refine Fc.of (args := [_, _, _]) Tryz.func89 rfl rfl Tryz.ntmps89 (Nat.le_of_ble_eq_true rfl) ?_
      repeat' (first|(refine oLA ?_;first|refine a0A rfl ?_|refine hdA rfl rfl rfl ?_|(refine eyA rfl _ rfl rfl rfl (by omega) (by omega) (by omega) (fun _ => rfl) ?_; rw [Int.toNat_natCast])|(refine a4A (hK _ _ (efA (kn := n + 1 - i) rfl (by decide) e6A rfl rfl rfl (igA ho i hi).slC (by omega) (by omega) (by omega) (by decide) (by rw [show i + (n + 1 - i) = n + 1 by omega]; exact hb) (by omega) (fun v' w2 w3 zs e2 hzl hz1 ho3 e3 => ?_))); clear hK K; rw [show i + (n + 1 - i) = n + 1 by omega] at ho3; have x3 := e2.trans e3; have hs3 := hs.ext x3; dsimp only [vals]; refine amA (by kernel_rfl) (fun K hK => ?_))|(refine cdA rfl _ rfl rfl (HasC.ownV ho3) rfl (by omega) (by omega) (by exact fun _ => rfl) ?_; rw [Int.toNat_natCast])|(refine a4A (hK _ _ (eeA i rfl (by intro q h; cases h; decide) e6A rfl rfl ho3 (hu.ext x3).slC (by omega) (fun c hc => h1 c (List.mem_of_mem_take hc)) (fun w4 w5 e4 ho5 hg5 => ?_))); clear hK K; have x5 := (x3.trans e4).grown hg5 (fun q hq => Nat.le_trans e2.size (Own.lt ho3 q hq).1); have hs5 := hs.ext x5; dsimp only [vals]; refine amA (by kernel_rfl) (fun K hK => ?_))|(refine cdA rfl _ rfl rfl (HasC.ownV ho5) rfl (by omega) (by omega) (by exact fun _ => rfl) ?_; rw [show ((i : Int) + ((1 : Nat) : Int)).toNat = i + 1 by omega])|(refine cdA rfl _ rfl rfl (HasC.val hs5) rfl (by omega) (by omega) (by exact fun _ => rfl) ?_; rw [Int.toNat_natCast])|(refine a4A (hK _ _ rfl (eeA (i + 1) rfl (by intro q h; cases h; decide) e6A rfl rfl ho5 (hs5.sub (Nat.le_of_lt hlt) (Nat.le_refl _)) (by omega) (by rw [List.take_of_length_le (by omega : cs.length ≤ n * 4)]; exact fun c hc => hst c (List.mem_of_mem_take hc)) (fun w6 w7 e6 ho7 hg7 => ?_))); clear hK K; dsimp only [vals]; refine amA (by kernel_rfl) (fun K hK => ?_))|refine wOp ?_|(refine wCm ?_ ?_<;>intro hc)|(refine wNl hK ?_;clear hK K))|(refine oCX ?_;first|refine djA 8 (by kernel_rfl) (by kernel_rfl) (by decide) (fun K hK => ?_))|refine wG ?_|(refine wCR ?_;intro K hK)|fail)
      refine blA rfl (fun v8 w8 e8 h8 => ?_)
      obtain rfl : v8 = _ := h8
      refine ⟨_, rfl, ?_, ?_, .inr fun k hk => Nat.le_trans e2.size (Own.lt ho7 k hk).1⟩
      · have h9 := ho7.ext e8
        have ed : (cs.take (n * 4)).drop (i * 4) = cs.drop (i * 4) := by rw [List.take_of_length_le (by omega)]
        rw [ed, huA hlt (by rw [List.length_take]; exact Nat.min_eq_left (by rw [hcl]; exact Nat.mul_le_mul_right _ hi)) (by omega) hzl (by rw [List.length_drop, hcl, Nat.sub_mul])] at h9
        exact Own.base h9 (Nat.zero_le _)
      · exact Fr.grown (jsA _ (((x5.trans e6).grown hg7 (fun q hq => Nat.le_trans e2.size (Own.lt ho3 q hq).1)).trans e8))
abbrev tS : Nat := 55
abbrev tK : Nat := 72
abbrev Qd := Int × Value × Value × Value
def qv (q : Qd) : Value := .agg #[.int .u8 q.1, q.2.1, q.2.2.1, q.2.2.2]
def qcs (q : Qd) : List Value := [.int .u8 q.1, q.2.1, q.2.2.1, q.2.2.2]
def q0 : Qd := (0, nilS, nilS, nilS)
def b9A : List Qd → List Value
  | [] => []
  | q :: r => .int .u8 q.1 :: q.2.1 :: q.2.2.1 :: q.2.2.2 :: b9A r
theorem diA : ∀ a b, b9A (a ++ b) = b9A a ++ b9A b
  | [], b => rfl
  | x :: a, b => by simp only [List.cons_append, b9A, diA a b]
theorem h5A : ∀ (a : List Qd) (j : Nat), j < a.length → ((b9A a).drop (j * 4)).take 4 = qcs (a.getD j q0)
  | [], j, h => by simp at h
  | x :: a, 0, _ => rfl
  | x :: a, j + 1, h => by
    have ih := h5A a j (by simpa using h)
    rw [show (j + 1) * 4 = j * 4 + 4 by omega]
    exact ih
theorem fgA : ∀ (a : List Qd) (j : Nat), b9A (a.take j) = (b9A a).take (j * 4)
  | [], j => by simp [b9A]
  | x :: a, 0 => by simp [b9A]
  | x :: a, j + 1 => by
    rw [show (j + 1) * 4 = j * 4 + 1 + 1 + 1 + 1 by omega]
    simp only [List.take_succ_cons, b9A, fgA a j]
theorem fhA : ∀ (a : List Qd) (j : Nat), b9A (a.drop j) = (b9A a).drop (j * 4)
  | [], j => by simp [b9A]
  | x :: a, 0 => by simp [b9A]
  | x :: a, j + 1 => by
    rw [show (j + 1) * 4 = j * 4 + 1 + 1 + 1 + 1 by omega]
    simp only [List.drop_succ_cons, b9A, fhA a j]
theorem muA (a : List Qd) (j : Nat) (q : Qd) (h : j < a.length) : b9A (a.set j q) = (b9A a).take (j * 4) ++ qcs q ++ (b9A a).drop (j * 4 + 4) := by
  rw [List.set_eq_take_append_cons_drop, if_pos h, diA, fgA, show q :: a.drop (j + 1) = [q] ++ a.drop (j + 1) from rfl, diA, fhA, show (j + 1) * 4 = j * 4 + 4 by omega, List.append_assoc]
  rfl
theorem hzA : ∀ (a : List Qd), ∀ u ∈ b9A a, ∃ j, j < a.length ∧ u ∈ qcs (a.getD j q0)
  | [], u, h => by cases h
  | x :: a, u, h => by
    have h' : u ∈ qcs x ++ b9A a := h
    rcases List.mem_append.1 h' with h1 | h1
    · exact ⟨0, by simp, h1⟩
    · obtain ⟨j, h2, h3⟩ := hzA a u h1
      exact ⟨j + 1, by simpa using h2, h3⟩
theorem Cn.qd {A : Nat → Prop} {w : World} {v : Value} {p : Nat → Bool} {kk : Int} (h : Cn A w v p kk) : ∃ q : Qd, v = qv q ∧ (∀ u ∈ qcs q, u.oneCell' = true) := by
  obtain ⟨kd, va, vw, vr, rfl, -, -, -, -, -, -, h1⟩ := h.parts
  exact ⟨(kd, va, vw, vr), rfl, h1⟩
theorem Cn.mono {A A' : Nat → Prop} {w : World} {v : Value} {p : Nat → Bool} {kk : Int} (h : Cn A w v p kk) (hA : ∀ k, k < w.heap.size → A k → A' k) : Cn A' w v p kk := by
  obtain ⟨hp, ⟨h1, kd, va, h2, h3, h4⟩ | h | h⟩ := h
  · exact ⟨hp, .inl ⟨h1, kd, va, h2, h3, h4.1, fun b hb => hA b (Own.lt h4.1 b hb).2 (h4.2 b hb)⟩⟩
  · exact ⟨hp, .inr (.inl h)⟩
  · exact ⟨hp, .inr (.inr h)⟩
def Plain (A R : Nat → Prop) (w : World) : Prop := ∀ k, R k → ∃ cur e j, w.heap[k]? = some (.cells cur e j) ∧ 22 ≠ e ∧ 96 ≠ e ∧ (A k → 72 ≠ e)
theorem Cn.fr {A R : Nat → Prop} {w w' : World} {v : Value} {p : Nat → Bool} {kk : Int} (h : Cn A w v p kk) (hf : Fr R w w') (hR : Plain A R w) : Cn A w' v p kk := by
  obtain ⟨hp, ⟨h1, kd, va, h2, h3, h4⟩ | ⟨h1, vw, h3, h4⟩ | ⟨h1, vr, h3, h4⟩⟩ := h
  · refine ⟨hp, .inl ⟨h1, kd, va, h2, h3, hf.own h4.1 (fun k hk hr => ?_), h4.2⟩⟩
    obtain ⟨cur, e, j, hb, ne1, ne2, ne3⟩ := hR k hr
    exact Own.apart h4.1 hb (ne3 (h4.2 k hk)) hk
  · refine ⟨hp, .inr (.inl ⟨h1, vw, h3, hf.own h4 (fun k hk hr => ?_)⟩)⟩
    obtain ⟨cur, e, j, hb, ne1, ne2, ne3⟩ := hR k hr
    exact Own.apart h4 hb ne1 hk
  · refine ⟨hp, .inr (.inr ⟨h1, vr, h3, hf.own h4 (fun k hk hr => ?_)⟩)⟩
    obtain ⟨cur, e, j, hb, ne1, ne2, ne3⟩ := hR k hr
    exact Own.apart h4 hb ne2 hk
structure RS (A : Nat → Prop) (w : World) (b : Nat) (kv lv : Value) (p : Nat → Bool) : Prop where
  hb : w.heap[b]? = some (.cells #[kv, lv] tS (0, 0))
  hk : OwnI 0 tK .u16 w kv (b3A p)
  top : ∀ x, TOP ≤ x → p x = false
  hl : ∃ Q : List Qd, Q.length = nk p ∧ Own 0 tC 4 w lv (nk p) (b9A Q) ∧ ∀ i, i < nk p → Cn (fun k => A k ∧ kv.ownBlock ≠ some k) w (qv (Q.getD i q0)) (blk p (kp p i)) (aqA (blk p (kp p i)))
def onw (b : Nat) (kv lv : Value) (k : Nat) : Prop := k = b ∨ kv.ownBlock = some k ∨ lv.ownBlock = some k
theorem RS.ext {A : Nat → Prop} {w w' : World} {b : Nat} {kv lv : Value} {p : Nat → Bool} (h : RS A w b kv lv p) (e : Ext w w') : RS A w' b kv lv p := by
  obtain ⟨Q, h1, h2, h3⟩ := h.hl
  exact ⟨e.block h.hb, h.hk.ext e, h.top, Q, h1, h2.ext e, fun i hi => (h3 i hi).ext e⟩
theorem bwA {base e s n : Nat} {w : World} {v : Value} {cs : List Value} (h : Own base e s w v n cs) {k : Nat} (hk : v.ownBlock = some k) : ∃ cur, w.heap[k]? = some (.cells cur e (0, 0)) := by
  rcases h.2 with ⟨h1, h0⟩ | ⟨gb, cap, cur, rfl, hgb, hg, -⟩
  · rw [h1] at hk; cases hk
  · cases hk; exact ⟨cur, hg⟩
theorem RS.lt {A : Nat → Prop} {w : World} {b : Nat} {kv lv : Value} {p : Nat → Bool} (h : RS A w b kv lv p) {k : Nat} (hk : onw b kv lv k) : k < w.heap.size := by
  obtain ⟨Q, h1, h2, h3⟩ := h.hl
  rcases hk with rfl | hk | hk
  · exact tgA h.hb
  · exact (Own.lt h.hk k hk).2
  · exact (Own.lt h2 k hk).2
theorem RS.plainA {A A' : Nat → Prop} {w : World} {b : Nat} {kv lv : Value} {p : Nat → Bool} (h : RS A w b kv lv p) (hA : ∀ k, kv.ownBlock = some k → ¬ A' k) : Plain A' (onw b kv lv) w := by
  obtain ⟨Q, h1, h2, h3⟩ := h.hl
  rintro k (rfl | hk | hk)
  · exact ⟨_, _, _, h.hb, by decide, by decide, fun _ => by decide⟩
  · obtain ⟨cur, hc⟩ := bwA h.hk hk
    exact ⟨_, _, _, hc, by decide, by decide, fun ha => absurd ha (hA k hk)⟩
  · obtain ⟨cur, hc⟩ := bwA h2 hk
    exact ⟨_, _, _, hc, by decide, by decide, fun _ => by decide⟩
theorem Plain.mono {A A' R : Nat → Prop} {w : World} (h : Plain A R w) (hA : ∀ k, A' k → A k) : Plain A' R w := fun k hk => by
  obtain ⟨cur, e, j, h1, h2, h3, h4⟩ := h k hk
  exact ⟨cur, e, j, h1, h2, h3, fun ha => h4 (hA k ha)⟩
theorem RS.mono {A A' : Nat → Prop} {w : World} {b : Nat} {kv lv : Value} {p : Nat → Bool} (h : RS A w b kv lv p) (hA : ∀ k, k < w.heap.size → A k → kv.ownBlock ≠ some k → A' k) : RS A' w b kv lv p := by
  obtain ⟨Q, h1, h2, h3⟩ := h.hl
  exact ⟨h.hb, h.hk, h.top, Q, h1, h2, fun i hi => (h3 i hi).mono fun k hk ha => ⟨hA k hk ha.1 ha.2, ha.2⟩⟩
theorem RS.fr {A R : Nat → Prop} {w w' : World} {b : Nat} {kv lv : Value} {p : Nat → Bool} (h : RS A w b kv lv p) (hf : Fr R w w') (hR : Plain A R w) (hB : ∀ k, onw b kv lv k → ¬ R k) : RS A w' b kv lv p := by
  obtain ⟨Q, h1, h2, h3⟩ := h.hl
  exact ⟨hf.at h.hb (hB b (.inl rfl)), hf.own h.hk (fun k hk => hB k (.inr (.inl hk))), h.top, Q, h1, hf.own h2 (fun k hk => hB k (.inr (.inr hk))), fun i hi => (h3 i hi).fr hf (hR.mono fun k hk => hk.1)⟩
def RSet (B A : Nat → Prop) (w : World) (v : Value) (p : Nat → Bool) : Prop := ∃ b kv lv, v = .pointer (some ⟨b, 0, none⟩) ∧ RS A w b kv lv p ∧ ∀ k, onw b kv lv k → B k
theorem RSet.ext {B A : Nat → Prop} {w w' : World} {v : Value} {p : Nat → Bool} (h : RSet B A w v p) (e : Ext w w') : RSet B A w' v p := by
  obtain ⟨b, kv, lv, h1, h2, h3⟩ := h
  exact ⟨b, kv, lv, h1, h2.ext e, h3⟩
def rsP (B A : Nat → Prop) (p : Nat → Bool) : AV := ⟨fun v w => RSet B A w v p, fun _ _ _ e h => h.ext e⟩
theorem RSet.mono {B A B' A' : Nat → Prop} {w : World} {v : Value} {p : Nat → Bool} (h : RSet B A w v p) (hB : ∀ k, k < w.heap.size → B k → B' k) (hA : ∀ k, k < w.heap.size → A k → A' k) : RSet B' A' w v p := by
  obtain ⟨b, kv, lv, h1, h2, h3⟩ := h
  exact ⟨b, kv, lv, h1, h2.mono fun k hk ha _ => hA k hk ha, fun k hk => hB k (h2.lt hk) (h3 k hk)⟩
theorem RSet.tt {B A : Nat → Prop} {w : World} {v : Value} {p : Nat → Bool} (h : RSet B A w v p) : RSet TT TT w v p := h.mono (fun _ _ _ => trivial) (fun _ _ _ => trivial)
theorem RSet.fr {B A R : Nat → Prop} {w w' : World} {v : Value} {p : Nat → Bool} (h : RSet B A w v p) (hf : Fr R w w') (hR : Plain A R w) (hB : ∀ k, B k → ¬ R k) : RSet B A w' v p := by
  obtain ⟨b, kv, lv, h1, h2, h3⟩ := h
  exact ⟨b, kv, lv, h1, h2.fr hf hR (fun k hk => hB k (h3 k hk)), h3⟩
def NSet (B A : Nat → Prop) (w : World) (v : Value) (p : Nat → Bool) : Prop := (v = .pointer none ∧ p = fun _ => false) ∨ RSet B A w v p
theorem NSet.ext {B A : Nat → Prop} {w w' : World} {v : Value} {p : Nat → Bool} (h : NSet B A w v p) (e : Ext w w') : NSet B A w' v p := h.imp id (fun h => h.ext e)
theorem RSet.n {B A : Nat → Prop} {w : World} {v : Value} {p : Nat → Bool} (h : RSet B A w v p) : NSet B A w v p := .inr h
theorem ikA (k : Nat) : ne (fun _ => false) k = false := by
  cases h : ne (fun _ => false) k
  · rfl
  · obtain ⟨i, _, h2⟩ := ne_iff.1 h; cases h2
theorem epA : nk (fun _ => false) = 0 := dgA _ (fun i _ => ikA i)
theorem joA : b3A (fun _ => false) = [] := List.eq_nil_of_length_eq_zero (by rw [bnA, epA])
theorem RS.turned {A : Nat → Prop} {w w' : World} {b : Nat} {kv lv kv' lv' : Value} {p p' : Nat → Bool} {Q' : List Qd} (hS : RS A w b kv lv p) (hf : Fr (onw b kv lv) w w') (hb : w'.heap[b]? = some (.cells #[kv', lv'] tS (0, 0))) (hk : OwnI 0 tK .u16 w' kv' (b3A p'))
    (hn : Q'.length = nk p') (hl : Own 0 tC 4 w' lv' (nk p') (b9A Q')) (htop : ∀ x, TOP ≤ x → p' x = false) (hloc : LocR w kv kv')
    (hC : ∀ i, i < nk p' → Cn (fun k => A k ∧ kv.ownBlock ≠ some k) w (qv (Q'.getD i q0)) (blk p' (kp p' i)) (aqA (blk p' (kp p' i)))) : RS A w' b kv' lv' p' := by
  refine ⟨hb, hk, htop, Q', hn, hl, fun i hi => ?_⟩
  refine Cn.fr ((hC i hi).mono (A' := fun k => A k ∧ kv'.ownBlock ≠ some k ∧ kv.ownBlock ≠ some k) fun k hlt ha => ⟨ha.1, fun h => ?_, ha.2⟩) hf (hS.plainA fun k h1 h2 => h2.2.2 h1) |>.mono fun k _ h => ⟨h.1, h.2.1⟩
  rcases hloc with h' | h'
  · exact ha.2 (h' ▸ h)
  · have := h' k h; omega
theorem RS.new {A : Nat → Prop} {w : World} {b : Nat} (hb : w.heap[b]? = some (.cells #[nilS, nilS] tS (0, 0))) : RS A w b nilS nilS (fun _ => false) :=
  ⟨hb, by rw [joA]; exact OwnI.nil, fun _ _ => rfl, [], by rw [epA]; rfl, by rw [epA]; exact Own.nil, fun i hi => by rw [epA] at hi; omega⟩
end Go.Proofs.YtfcioiobhpcngaaGreatDoor
end
section
set_option linter.unusedSimpArgs false
set_option linter.unusedVariables false
set_option maxRecDepth 3000
namespace Go.Proofs.YtfcioiobhpcngaaGreatDoor
open Go.LA Go.ArrP Go.RowKit
section
variable {P : Program} {l : List Oper} {N : Nat} {wb : World} {K : List Oper → Env → Prop} {rest : List Oper} {E : Env}
variable {d : Tmp} {ty t t' : TypeId} {pos : String} {after : Array Edge} {g : Option (Nat × Bool)} {x y z : Operand} {k k' : IntKind}
theorem oNc (h : LA P l wb K (⟨some d, .nilCheck x, ty, pos, after, g⟩ :: rest) E) : LA P l wb K (⟨some d, .nilCheck x, ty, pos, after, g⟩ :: rest) E := h
theorem oEq {op : BinOp} (h : LA P l wb K (⟨some d, .binOp op 24 x y t', ty, pos, after, g⟩ :: rest) E) : LA P l wb K (⟨some d, .binOp op 24 x y t', ty, pos, after, g⟩ :: rest) E := h
end
variable {A B : Nat → Prop}
theorem new_c (w : World) (hB : Fsh B w) : Fc Tryz.prog 11 #[] w (Ret w (.pred (rsP B A (fun _ => false)))) := by
  refine Fc.of (args := []) Tryz.func11 rfl rfl Tryz.ntmps11 (Nat.le_of_ble_eq_true rfl) ?_
  repeat' (first|(refine oLA ?_;first|refine a0A rfl ?_|refine hfA (c := .agg #[nilS, nilS]) rfl (fun _ => by kernel_rfl) ?_|refine k1A rfl rfl ?_|refine wOp ?_|(refine wCm ?_ ?_<;>intro hc)|(refine wNl hK ?_;clear hK K))|refine wG ?_|(refine wCR ?_;intro K hK)|fail)
  all_goals skip
  refine alA rfl rfl (Ext.refl _) (fun v w' e hv => ?_)
  obtain ⟨b, hb, rfl, hh⟩ := hv
  exact ⟨b, nilS, nilS, rfl, RS.new hh, fun k hk => by
    rcases hk with rfl | hk | hk
    · exact hB _ hb
    · cases hk
    · cases hk⟩
theorem tcA {w : World} {v : Value} {p : Nat → Bool} (h : NSet B A w v p) {k : Nat} (hk : k < 65536) : Fc Tryz.prog 87 #[v, .int .u16 k] w (Ret w (.tup2 (.val (.int .i64 (cnt (ne p) k))) (.val (.bool (ne p k))))) := by
  rcases h with ⟨rfl, rfl⟩ | ⟨b, kv, lv, rfl, hS, -⟩
  · rw [ikA, dgA k (fun i _ => ikA i)]
    refine Fc.of (args := [_, _]) Tryz.func87 rfl rfl Tryz.ntmps87 (Nat.le_of_ble_eq_true rfl) ?_
    repeat' (first|(refine oLA ?_;first|refine a0A rfl ?_|(refine oEq ?_; refine c9A (c := .bool true) rfl rfl rfl (fun _ => rfl) ?_)|refine wOp ?_|(refine wCm ?_ ?_<;>intro hc)|(refine wNl hK ?_;clear hK K))|refine wG ?_|(refine wCR ?_;intro K hK)|fail)
    all_goals skip
    all_goals exact edA rfl rfl rfl (Ext.refl _) rfl rfl
  · have hn : (b3A p).length ≤ 4611686018427387903 := by rw [bnA]; have := gbA p; omega
    have hb : bsS (b3A p) (k : Int) = cnt (ne p) k := h7A (ne p) k (by omega)
    have hf : crA (b3A p) (k : Int) = ne p k := by
      rw [e5A _ (gzA p)]; exact c6A (ne p) hk
    refine Fc.of (args := [_, _]) Tryz.func87 rfl rfl Tryz.ntmps87 (Nat.le_of_ble_eq_true rfl) ?_
    repeat' (first|(refine oLA ?_;first|refine a0A rfl ?_|(refine oEq ?_; refine c9A (c := .bool false) rfl rfl rfl (fun _ => rfl) ?_)|(refine oNc ?_; refine akA rfl rfl ?_)|(refine oF 0 ?_; refine a2A (a' := ⟨b, 0, none⟩) rfl rfl (fun _ => rfl) ?_)|(refine oF 1 ?_; refine a2A (a' := ⟨b, 1, none⟩) rfl rfl (fun _ => rfl) ?_)|(refine oLt 52 ?_; refine a8A (c := kv) rfl (fun _ => rfl) rfl hS.hb rfl ?_)|(refine oLt 53 ?_; refine a8A (c := lv) rfl (fun _ => rfl) rfl hS.hb rfl ?_)|refine wOp ?_|(refine wCm ?_ ?_<;>intro hc)|(refine oCv ?_;first|(refine oC 128 ?_; refine a3A (f := 128) rfl rfl rfl rfl  (.tup2 (.val (.int .i64 (bsS (b3A p) k))) (.val (.bool (crA (b3A p) k)))) (by intro u1 u2 w e hu1 hu2; (try obtain rfl : u1 = _ := hu1); (try obtain rfl : u2 = _ := hu2); exact bs_c _ _ _ _ (hS.hk.ext e).slI hn) ?_))|(refine wNl hK ?_;clear hK K))|refine wG ?_|(refine wCR ?_;intro K hK)|fail)
    all_goals skip
    all_goals exact edA rfl rfl rfl (Ext.refl _) (by rw [hb]) (by rw [hf])
theorem kind_none : aqA (fun _ => false) = 1 := by
  unfold aqA
  rw [dgA (p := fun _ => false) 65536 (fun i _ => rfl), dgA (p := biA fun _ => false) 65536 (fun i _ => rfl)]; decide
theorem r9A {w : World} {v : Value} {p : Nat → Bool} (h : NSet B A w v p) {k : Nat} (hk : k < 65536) : Fc Tryz.prog 47 #[v, .int .u16 k] w (Ret w (.pred (cnP A (blk p k) (aqA (blk p k))))) := by
  have hf : ∀ w', Ext w w' → _ := fun w' e => tcA (h.ext e) hk
  cases hn : ne p k
  · rw [hn] at hf
    have h1 : aqA (blk p k) = 1 := by rw [gjA hn]; exact kind_none
    rw [h1, gjA hn]
    refine Fc.of (args := [_, _]) Tryz.func47 rfl rfl Tryz.ntmps47 (Nat.le_of_ble_eq_true rfl) ?_
    repeat' (first|(refine oLA ?_;first|refine a0A rfl ?_|(refine oAl ?_; refine bgA rfl (fun _ => rfl) ?_)|refine hfA (c := .agg #[.int .u8 0, nilS, nilS, nilS]) rfl (fun _ => by kernel_rfl) ?_|(refine a4A (hK _ _ (bvA (φ := cnP A (fun _ => false) 1) (w0 := w) rfl rfl rfl b4A (fun v' w' e hv => by obtain rfl : v' = _ := hv; exact Cn.zero) rfl (fun _ => rfl) (Ext.refl _) (fun w' e' => ?_))); clear hK K)|refine wOp ?_|(refine wCm ?_ ?_<;>intro hc)|(refine oCv ?_;first|(refine oC 87 ?_; refine a3A (f := 87) rfl rfl rfl rfl  (.tup2 (.val (.int .i64 (cnt (ne p) k))) (.val (.bool false))) (by intro u1 u2 w e hu1 hu2; (try obtain rfl : u1 = _ := hu1); (try obtain rfl : u2 = _ := hu2); exact hf _ e) ?_))|(refine wNl hK ?_;clear hK K))|refine wG ?_|(refine wCR ?_;intro K hK)|fail)
    all_goals skip
    all_goals exact bxA rfl rfl rfl rfl rfl (by assumption)
  · obtain ⟨i1, i2⟩ := utA hk hn
    obtain ⟨i, hi⟩ : ∃ i, i = cnt (ne p) k := ⟨_, rfl⟩
    rw [← hi] at i1 i2
    rw [hn] at hf
    rcases h with ⟨rfl, rfl⟩ | ⟨b, kv, lv, rfl, hS, -⟩
    · rw [ikA] at hn; cases hn
    obtain ⟨Q, q1, q2, q3⟩ := hS.hl
    have hcn := q3 i i1
    rw [i2] at hcn
    replace hcn := hcn.mono (A' := A) (fun k _ h => h.1)
    have hat := h5A Q i (by omega)
    rw [← hi] at hf
    clear hi q3
    refine Fc.of (args := [_, _]) Tryz.func47 rfl rfl Tryz.ntmps47 (Nat.le_of_ble_eq_true rfl) ?_
    repeat' (first|(refine oLA ?_;first|refine a0A rfl ?_|(refine oAl ?_; refine bgA rfl (fun _ => rfl) ?_)|(refine oNc ?_; refine akA rfl rfl ?_)|(refine oF 0 ?_; refine a2A (a' := ⟨b, 0, none⟩) rfl rfl (fun _ => rfl) ?_)|(refine oF 1 ?_; refine a2A (a' := ⟨b, 1, none⟩) rfl rfl (fun _ => rfl) ?_)|(refine oLt 52 ?_; refine a8A (c := kv) rfl (fun _ => rfl) rfl hS.hb rfl ?_)|(refine oLt 53 ?_; refine a8A (c := lv) rfl (fun _ => rfl) rfl hS.hb rfl ?_)|(refine oI ?_; refine cnA (s := 4) rfl _ rfl (fun _ => rfl) rfl (HasC.ownV q2) rfl i rfl i1 ?_; rw [hat])|(refine oLd ?_; refine anA (cs := qcs _) rfl (fun _ => rfl) (fun _ => rfl) rfl ?_)|(refine a4A (hK _ _ (bvA (φ := cnP A (blk p k) (aqA (blk p k))) (w0 := w) rfl rfl rfl b4A (fun v' w' e hv => by obtain rfl : v' = _ := hv; exact hcn.ext e) rfl (fun _ => rfl) (Ext.refl _) (fun w' e' => ?_))); clear hK K)|refine wOp ?_|(refine wCm ?_ ?_<;>intro hc)|(refine oCv ?_;first|(refine oC 87 ?_; refine a3A (f := 87) rfl rfl rfl rfl  (.tup2 (.val (.int .i64 i)) (.val (.bool true))) (by intro u1 u2 w e hu1 hu2; (try obtain rfl : u1 = _ := hu1); (try obtain rfl : u2 = _ := hu2); exact hf _ e) ?_))|(refine wNl hK ?_;clear hK K))|refine wG ?_|(refine wCR ?_;intro K hK)|fail)
    all_goals skip
    all_goals exact bxA rfl rfl rfl rfl rfl (by assumption)
end Go.Proofs.YtfcioiobhpcngaaGreatDoor
end
section
set_option linter.unusedSimpArgs false
set_option linter.unusedVariables false
set_option maxRecDepth 3000
namespace Go.Proofs.YtfcioiobhpcngaaGreatDoor
open Go.LA Go.ArrP Go.RowKit
variable {A B : Nat → Prop}
theorem raA {α : Type} {d : α} {l : List α} {i j : Nat} {x : α} (h : i < l.length) : (l.set i x).getD j d = if j = i then x else l.getD j d := by
  rw [List.getD_eq_getElem?_getD, List.getD_eq_getElem?_getD, List.getElem?_set]
  by_cases e : j = i
  · subst e; simp [h]
  · simp [e, Ne.symm e]
theorem rbA {α : Type} {d : α} {l : List α} {i j : Nat} {x : α} (h : i ≤ l.length) : (l.take i ++ [x] ++ l.drop i).getD j d = if j < i then l.getD j d else if j = i then x else l.getD (j - 1) d := by
  have hl : (l.take i).length = i := by rw [List.length_take]; omega
  by_cases h1 : j < i
  · rw [if_pos h1, List.append_assoc, etA (by omega), List.getD_eq_getElem?_getD, List.getD_eq_getElem?_getD, List.getElem?_take_of_lt h1]
  · rw [if_neg h1]
    by_cases h2 : j = i
    · rw [if_pos h2, etA (by rw [List.length_append, List.length_singleton]; omega), dnA (by omega), hl, h2, Nat.sub_self]; rfl
    · rw [if_neg h2, dnA (by rw [List.length_append, List.length_singleton]; omega), List.length_append, List.length_singleton, hl, List.getD_eq_getElem?_getD, List.getD_eq_getElem?_getD, List.getElem?_drop]
      congr 2; omega
theorem k2A {p : Nat → Bool} {k : Nat} {q : Nat → Bool} (h : ∀ x, TOP ≤ x → p x = false) (hk : k < 65536) : ∀ x, TOP ≤ x → upd p k q x = false := fun x hx => by
  unfold upd; rw [if_neg (by rw [dwA] at hx; omega)]; exact h x hx
theorem t2A {a b : Qd} (h : qv a = qv b) : a = b := by
  obtain ⟨a1, a2, a3, a4⟩ := a
  obtain ⟨b1, b2, b3, b4⟩ := b
  unfold qv at h
  simpa using h
def Mut (A : Nat → Prop) (w : World) (b : Nat) (kv lv : Value) (p' : Nat → Bool) (w' : World) : Prop := ∃ kv' lv', RS A w' b kv' lv' p' ∧ Fr (onw b kv lv) w w' ∧ LocR w kv kv' ∧ LocR w lv lv'
theorem RS.set {A : Nat → Prop} {w w' : World} {b : Nat} {kv lv : Value} {p : Nat → Bool} (hS : RS A w b kv lv p) {k : Nat} (hk : k < 65536) (hn : ne p k = true) {q : Nat → Bool} (hq : ∀ i, 65536 ≤ i → q i = false) (hq0 : 0 < cnt q 65536) {Q : List Qd} {qc : Qd} (q1 : Q.length = nk p)
    (q3 : ∀ i, i < nk p → Cn (fun k => A k ∧ kv.ownBlock ≠ some k) w (qv (Q.getD i q0)) (blk p (kp p i)) (aqA (blk p (kp p i)))) (hc : Cn (fun j => A j ∧ kv.ownBlock ≠ some j) w (qv qc) q (aqA q))
    (hf : Fr (onw b kv lv) w w') (hb : w'.heap[b]? = some (.cells #[kv, lv] tS (0, 0))) (hkk : OwnI 0 tK .u16 w' kv (b3A p)) (hl : Own 0 tC 4 w' lv (nk p) (b9A (Q.set (cnt (ne p) k) qc))) : Mut A w b kv lv (upd p k q) w' := by
  have hkeys := l4A p hq hq0 hn
  have hnk : nk (upd p k q) = nk p := by rw [← bnA, ← bnA, hkeys]
  obtain ⟨i1, i2⟩ := utA hk hn
  refine ⟨kv, lv, hS.turned (Q' := Q.set (cnt (ne p) k) qc) hf hb (by rw [hkeys]; exact hkk) (by rw [List.length_set, q1, hnk]) (by rw [hnk]; exact hl) (k2A hS.top hk) LocR.refl (fun j hj => ?_), hf, LocR.refl, LocR.refl⟩
  rw [hnk] at hj
  rw [tsA p hq hq0 hn, raA (by omega)]
  by_cases e : j = cnt (ne p) k
  · rw [if_pos e, e, i2, i5A p k hq]; exact hc
  · have hne : kp p j ≠ k := fun h => e (by rw [← h]; exact (luA (by omega)).symm)
    rw [if_neg e, fjA p q hne]; exact q3 j hj
theorem RS.ins {A : Nat → Prop} {w w' : World} {b : Nat} {kv lv kv' lv' : Value} {p : Nat → Bool} (hS : RS A w b kv lv p) {k : Nat} (hk : k < 65536) (hn : ne p k = false) {q : Nat → Bool} (hq : ∀ i, 65536 ≤ i → q i = false) (hq0 : 0 < cnt q 65536) {Q : List Qd} {qc : Qd} (q1 : Q.length = nk p)
    (q3 : ∀ i, i < nk p → Cn (fun k => A k ∧ kv.ownBlock ≠ some k) w (qv (Q.getD i q0)) (blk p (kp p i)) (aqA (blk p (kp p i)))) (hc : Cn (fun j => A j ∧ kv.ownBlock ≠ some j) w (qv qc) q (aqA q))
    (hf : Fr (onw b kv lv) w w') (hb : w'.heap[b]? = some (.cells #[kv', lv'] tS (0, 0))) (hkk : OwnI 0 tK .u16 w' kv' ((b3A p).take (cnt (ne p) k) ++ [(k : Int)] ++ (b3A p).drop (cnt (ne p) k)))
    (hl : Own 0 tC 4 w' lv' (nk p + 1) (b9A (Q.take (cnt (ne p) k) ++ [qc] ++ Q.drop (cnt (ne p) k)))) (hk1 : LocR w kv kv') (hl1 : LocR w lv lv') : Mut A w b kv lv (upd p k q) w' := by
  have hkeys := gnA p hk hq hq0 hn
  have hnk := neA p hk hq hq0 hn
  have hle : cnt (ne p) k ≤ nk p := cnt_mono _ _ (by omega)
  refine ⟨kv', lv', hS.turned (Q' := Q.take (cnt (ne p) k) ++ [qc] ++ Q.drop (cnt (ne p) k)) hf hb (by rw [hkeys]; exact hkk) (by simp only [List.length_append, List.length_take, List.length_drop, List.length_singleton]; omega) (by rw [hnk]; exact hl) (k2A hS.top hk) hk1 (fun j hj => ?_), hf, hk1, hl1⟩
  rw [hnk] at hj
  rw [svA p hk hq hq0 hn hj, rbA (by omega)]
  have hne : ∀ j, j < nk p → kp p j ≠ k := fun j hj h => by
    have := (jnA hj).2.1
    rw [h, hn] at this; cases this
  split
  · rw [fjA p q (hne j (by omega))]; exact q3 j (by omega)
  · split
    · rw [i5A p k hq]; exact hc
    · rw [fjA p q (hne _ (by omega))]; exact q3 _ (by omega)
theorem slot_ne {A : Nat → Prop} {w : World} {b : Nat} {kv lv : Value} {p : Nat → Bool} (hS : RS A w b kv lv p) : kv.ownBlock ≠ some b ∧ lv.ownBlock ≠ some b ∧ ∀ k, kv.ownBlock = some k → lv.ownBlock ≠ some k := by
  obtain ⟨Q, h1, h2, h3⟩ := hS.hl
  refine ⟨Own.apart hS.hk hS.hb (by decide), Own.apart h2 hS.hb (by decide), fun k hk => ?_⟩
  obtain ⟨cur, hc⟩ := bwA hS.hk hk
  exact Own.apart h2 hc (by decide)
theorem e1A {base e s n : Nat} {w : World} {v : Value} {cs : List Value} (h : Own base e s w v n cs) : v.cells = [v].toArray ∧ v.oneCell' = true := by
  rcases h.2 with ⟨rfl, _⟩ | ⟨g, cap, cur, rfl, _⟩
  · exact ⟨rfl, rfl⟩
  · exact ⟨rfl, rfl⟩
set_option maxHeartbeats 2000000 in
theorem put_s {w : World} {b : Nat} {kv lv vc : Value} {p q : Nat → Bool} (hS : RS A w b kv lv p) {k : Nat} (hk : k < 65536) (hc : Cn (fun j => A j ∧ kv.ownBlock ≠ some j) w vc q (aqA q)) (hq : ∀ i, 65536 ≤ i → q i = false) (hq0 : 0 < cnt q 65536) :
    Fc Tryz.prog 46 #[.pointer (some ⟨b, 0, none⟩), .int .u16 k, vc] w (fun en w' => en = .returned (.tuple #[]) ∧ Mut A w b kv lv (upd p k q) w') := by
  have hf : ∀ w', Ext w w' → _ := fun w' e => tcA (B := TT) (.inr ⟨b, kv, lv, rfl, hS.ext e, fun _ _ => trivial⟩) hk
  obtain ⟨Q, q1, q2, q3⟩ := hS.hl
  obtain ⟨qc, rfl, hqc⟩ := hc.qd
  have nkl := gbA p
  obtain ⟨i, hi⟩ : ∃ i, i = cnt (ne p) k := ⟨_, rfl⟩
  cases hn : ne p k
  · have hle : i ≤ nk p := by rw [hi]; exact cnt_mono _ _ (by omega)
    have hfin : ∀ w' kv' lv', _ := fun w' kv' lv' => hS.ins (w' := w') (kv' := kv') (lv' := lv') hk hn hq hq0 q1 q3 hc
    rw [← hi] at hf hfin
    rw [hn] at hf
    have hsn := slot_ne hS
    have hkl := bnA p
    have hcq : b9A (Q.take i ++ [qc] ++ Q.drop i) = (b9A Q).take (i * 4) ++ qcs qc ++ (b9A Q).drop (i * 4) := by
      rw [diA, diA, fgA, fhA]; rfl
    have hmap : ((b3A p).map (Value.int .u16)).take (i * 1) ++ [.int .u16 (k : Int)] ++ ((b3A p).map (Value.int .u16)).drop (i * 1) = ((b3A p).take i ++ [(k : Int)] ++ (b3A p).drop i).map (Value.int .u16) := by
      rw [Nat.mul_one, List.map_append, List.map_append, List.map_take, List.map_drop]; rfl
    have hlen : ((b3A p).take i ++ [(k : Int)] ++ (b3A p).drop i).length = nk p + 1 := by
      simp only [List.length_append, List.length_take, List.length_drop, List.length_singleton]; omega
    have h1c : ∀ c ∈ (b3A p).map (Value.int .u16), c.oneCell' = true := fun c hc' => by
      obtain ⟨y, _, rfl⟩ := List.mem_map.1 hc'; rfl
    have h1q : ∀ c ∈ b9A Q, c.oneCell' = true := fun c hc' => by
      obtain ⟨j, j1, j2⟩ := hzA Q c hc'
      obtain ⟨qd, e1, e2⟩ := (q3 j (by omega)).qd
      have : Q.getD j q0 = qd := t2A e1
      exact e2 c (this ▸ j2)
    have hk0 := hS.hk
    unfold OwnI at hk0
    rw [hkl] at hk0
    clear hi
    refine Fc.of (args := [_, _, _]) Tryz.func46 rfl rfl Tryz.ntmps46 (Nat.le_of_ble_eq_true rfl) ?_
    repeat' (first|(refine oLA ?_;first|refine wBk ?_|(refine oBx ?_; refine k1A rfl rfl ?_; refine pqA (hK [] _ (byA 5 rfl (fun v5 w5 e5 h5 => ?_))); clear hK K; obtain ⟨b5, hb5, rfl, h5⟩ := h5; have hS5 := hS.ext e5)|(refine oNc ?_; refine akA rfl rfl ?_)|(refine oF 0 ?_; refine a2A (a' := ⟨b, 0, none⟩) rfl rfl (fun _ => rfl) ?_)|(refine oF 1 ?_; refine a2A (a' := ⟨b, 1, none⟩) rfl rfl (fun _ => rfl) ?_)|(refine oLt 52 ?_; refine a8A (c := kv) rfl (fun _ => rfl) rfl hS5.hb rfl ?_)|(refine oLt 53 ?_; refine a8A (c := lv) rfl (fun _ => rfl) rfl hS5.hb rfl ?_)|(refine oD 30 ?_; refine ezA rfl clA rfl rfl ?_)|(refine oD 38 ?_; refine mfA (base := w5.heap.size) (s := 4) (Nat.le_refl _) rfl e6A rfl rfl (by decide) ?_)|(refine oLd ?_; refine cvA (n := 4) rfl h5 rfl rfl (fun _ => rfl) (fun _ => rfl) ?_)|refine wOp ?_|(refine wCm ?_ ?_<;>intro hc)|(refine oCv ?_;first|(refine oC 87 ?_; refine a3A (f := 87) rfl rfl rfl rfl  (.tup2 (.val (.int .i64 i)) (.val (.bool false))) (by intro u1 u2 w e hu1 hu2; (try obtain rfl : u1 = _ := hu1); (try obtain rfl : u2 = _ := hu2); exact hf _ (e5.trans e)) ?_))|(refine wNl hK ?_;clear hK K))|(refine oCX ?_;first|refine ajA (id := 4) [9, 17, 20, 23] (by kernel_rfl) (by kernel_rfl) (by kernel_rfl) (a5A ?_))|refine wG ?_|(refine wCR ?_;intro K hK)|refine wPh ?_|fail)
    have lkv : ∀ k, kv.ownBlock = some k → k < w.heap.size := fun k h => hS.lt (.inr (.inl h))
    have llv : ∀ k, lv.ownBlock = some k → k < w.heap.size := fun k h => hS.lt (.inr (.inr h))
    have sz5 := e5.size
    refine mbA (v3 := undef) (f := 88) rfl rfl rfl rfl rfl (fun w v w' => Own 0 tK 1 w' v (nk p + 1) (((b3A p).map (Value.int .u16)).take (i * 1) ++ [.int .u16 (k : Int)] ++ ((b3A p).map (Value.int .u16)).drop (i * 1)) ∧ Fr (fun k => kv.ownBlock = some k) w w' ∧ LocR w kv v) (fun u3 w1 e1 hu3 => ?_) (fun kv' w1 w2 e1 hR => ⟨(38, .pred (hpA w5.heap.size tC 4 1 (qv qc).cells.toList)) :: _, fun t u _ hu => jpA (fun u hu => ?_) c0A t u hu, a5A ?_⟩)
    · exact r6A w1 0 _ kv u3 (nk p) i _ _ (hk0.ext (e5.trans e1)) hu3 hle (fun k h1 h2 => by have := (Own.lt hu3 k h1).1; have := lkv k h2; omega) h1c (fun c hc' => by rw [List.mem_singleton] at hc'; subst hc'; rfl) (by omega) (by omega)
    · exact hR.2.1.own hu (fun k h1 h2 => by have := (Own.lt hu k h1).1; have := lkv k h2; omega)
    obtain ⟨r1, r2, r3⟩ := hR
    rw [hmap] at r1
    have hb2 := r2.at (e1.block hS5.hb) (fun h => hsn.1 h)
    have h52 := r2.at (e1.block h5) (fun h => by have := lkv _ h; omega)
    have q22 : Own 0 tC 4 w2 lv (nk p) (b9A Q) := r2.own (q2.ext (e5.trans e1)) (fun k h1 h2 => hsn.2.2 k h2 h1)
    have sz2 := Nat.le_trans e1.size r2.size
    repeat' (first|(refine oLA ?_;first|refine wBk ?_|(refine oNc ?_; refine akA rfl rfl ?_)|(refine oF 0 ?_; refine a2A (a' := ⟨b, 0, none⟩) rfl rfl (fun _ => rfl) ?_)|(refine oF 1 ?_; refine a2A (a' := ⟨b, 1, none⟩) rfl rfl (fun _ => rfl) ?_)|(refine oLt 52 ?_; refine a8A (c := kv) rfl (fun _ => rfl) rfl hb2 rfl ?_)|(refine oLt 53 ?_; refine a8A (c := lv) rfl (fun _ => rfl) rfl hb2 rfl ?_)|(refine oD 38 ?_; refine mfA (base := w5.heap.size) (s := 4) sz2 rfl e6A rfl rfl (by decide) ?_)|(refine oLd ?_; refine cvA (n := 4) rfl h52 rfl rfl (fun _ => rfl) (fun _ => rfl) ?_)|refine wOp ?_|(refine wCm ?_ ?_<;>intro hc)|(refine wNl hK ?_;clear hK K))|refine wG ?_|(refine wCR ?_;intro K hK)|refine wPh ?_|fail)
    refine mbA (v3 := undef) (f := 89) rfl rfl rfl rfl rfl (fun w v w' => Own 0 tC 4 w' v (nk p + 1) ((b9A Q).take (i * 4) ++ (qv qc).cells.toList ++ (b9A Q).drop (i * 4)) ∧ Fr (fun k => lv.ownBlock = some k) w w' ∧ LocR w lv v) (fun u3 w3 e3 hu3 => ?_) (fun lv' w3 w4 e3 hR => ⟨_, fun t u _ hu => c0A t u hu, a5A ?_⟩)
    · exact r5A w3 0 _ lv u3 (nk p) i _ _ (q22.ext e3) hu3 hle (fun k h1 h2 => by have := (Own.lt hu3 k h1).1; have := llv k h2; omega) h1q hqc (by omega) (by omega)
    obtain ⟨s1, s2, s3⟩ := hR
    have hcq' : (b9A Q).take (i * 4) ++ (qv qc).cells.toList ++ (b9A Q).drop (i * 4) = b9A (Q.take i ++ [qc] ++ Q.drop i) := hcq.symm
    rw [hcq'] at s1
    have hb4 := s2.at (e3.block hb2) (fun h => hsn.2.1 h)
    have r14 := s2.own (r1.ext e3) (fun k h1 h2 => by
      obtain ⟨cur, hcur⟩ := bwA (r1.ext e3) h1
      exact Own.apart (q22.ext e3) hcur (by decide) h2)
    obtain ⟨ck1, ck2⟩ := e1A r14
    obtain ⟨cl1, cl2⟩ := e1A s1
    have hF4 : Fr (onw b kv lv) w w4 := (((Fr.of (e5.trans e1)).trans (r2.mono fun k h => .inr (.inl h))).trans (Fr.of e3)).trans (s2.mono fun k h => .inr (.inr h))
    repeat' (first|(refine oLA ?_;first|refine wBk ?_|(refine oNc ?_; refine akA rfl rfl ?_)|(refine oF 0 ?_; refine a2A (a' := ⟨b, 0, none⟩) rfl rfl (fun _ => rfl) ?_)|(refine oF 1 ?_; refine a2A (a' := ⟨b, 1, none⟩) rfl rfl (fun _ => rfl) ?_)|(refine oLt 52 ?_; refine a8A (c := kv) rfl (fun _ => rfl) rfl hb4 rfl ?_)|(refine oLt 53 ?_; refine a8A (c := lv) rfl (fun _ => rfl) rfl hb4 rfl ?_)|refine wOp ?_|(refine wCm ?_ ?_<;>intro hc)|(refine wNl hK ?_;clear hK K))|refine wG ?_|(refine wCR ?_;intro K hK)|refine wPh ?_|fail)
    refine dxA (news := [kv']) rfl rfl rfl hb4 ck1 (fun _ => rfl) (Nat.le_of_ble_eq_true rfl) (fun u hu => by rw [List.mem_singleton] at hu; subst hu; exact ck2) (fun w6 e6 => ⟨_, fun t u hu => c0A t u hu, a5A ?_⟩)
    have hb6 : (w6.setRow b #[kv', lv]).heap[b]? = _ := setRow_heap w6 b _ _ _ _ (e6.block hb4)
    obtain ⟨w7, hw7⟩ : ∃ w7, w7 = w6.setRow b #[kv', lv] := ⟨_, rfl⟩
    have hF7 : Fr (onw b kv lv) w w7 := hw7 ▸ ((hF4.trans (Fr.of e6)).setRow (.inl rfl) _)
    have r17 : OwnI 0 tK .u16 w7 kv' ((b3A p).take i ++ [(k : Int)] ++ (b3A p).drop i) := by unfold OwnI; rw [hlen]; exact hw7 ▸ Own.setRow (r14.ext e6) _ (Own.apart (r14.ext e6) (e6.block hb4) (by decide))
    have s17 : Own 0 tC 4 w7 lv' (nk p + 1) (b9A (Q.take i ++ [qc] ++ Q.drop i)) := hw7 ▸ Own.setRow (s1.ext e6) _ (Own.apart (s1.ext e6) (e6.block hb4) (by decide))
    rw [show (#[kv, lv].toList.take 0 ++ [kv'] ++ #[kv, lv].toList.drop (0 + [kv'].length)).toArray = #[kv', lv] from rfl]
    rw [← hw7] at hb6 ⊢
    clear hw7
    repeat' (first|(refine oLA ?_;first|refine wBk ?_|(refine oNc ?_; refine akA rfl rfl ?_)|(refine oF 0 ?_; refine a2A (a' := ⟨b, 0, none⟩) rfl rfl (fun _ => rfl) ?_)|(refine oF 1 ?_; refine a2A (a' := ⟨b, 1, none⟩) rfl rfl (fun _ => rfl) ?_)|(refine oLt 52 ?_; refine a8A (c := kv) rfl (fun _ => rfl) rfl hb6 rfl ?_)|(refine oLt 53 ?_; refine a8A (c := lv) rfl (fun _ => rfl) rfl hb6 rfl ?_)|refine wOp ?_|(refine wCm ?_ ?_<;>intro hc)|(refine wNl hK ?_;clear hK K))|refine wG ?_|(refine wCR ?_;intro K hK)|refine wPh ?_|fail)
    refine dxA (news := [lv']) rfl rfl rfl hb6 cl1 (fun _ => rfl) (Nat.le_of_ble_eq_true rfl) (fun u hu => by rw [List.mem_singleton] at hu; subst hu; exact cl2) (fun w8 e8 => ⟨_, fun t u hu => c0A t u hu, aiA ?_⟩)
    have hb8 : (w8.setRow b #[kv', lv']).heap[b]? = _ := setRow_heap w8 b _ _ _ _ (e8.block hb6)
    obtain ⟨w9, hw9⟩ : ∃ w9, w9 = w8.setRow b #[kv', lv'] := ⟨_, rfl⟩
    have hF9 : Fr (onw b kv lv) w w9 := hw9 ▸ ((hF7.trans (Fr.of e8)).setRow (.inl rfl) _)
    have r19 : OwnI 0 tK .u16 w9 kv' ((b3A p).take i ++ [(k : Int)] ++ (b3A p).drop i) := hw9 ▸ Own.setRow (r17.ext e8) _ (Own.apart (r17.ext e8) (e8.block hb6) (by decide))
    have s19 : Own 0 tC 4 w9 lv' (nk p + 1) (b9A (Q.take i ++ [qc] ++ Q.drop i)) := hw9 ▸ Own.setRow (s17.ext e8) _ (Own.apart (s17.ext e8) (e8.block hb6) (by decide))
    have sz3 := Nat.le_trans sz2 e3.size
    rw [show (#[kv', lv].toList.take 1 ++ [lv'] ++ #[kv', lv].toList.drop (1 + [lv'].length)).toArray = #[kv', lv'] from rfl]
    rw [← hw9] at hb8 ⊢
    clear hw9
    repeat' (first|(refine oLA ?_;first|refine wBk ?_|(refine oNc ?_; refine akA rfl rfl ?_)|(refine oF 0 ?_; refine a2A (a' := ⟨b, 0, none⟩) rfl rfl (fun _ => rfl) ?_)|(refine oF 1 ?_; refine a2A (a' := ⟨b, 1, none⟩) rfl rfl (fun _ => rfl) ?_)|(refine oLt 52 ?_; refine a8A (c := kv) rfl (fun _ => rfl) rfl hb8 rfl ?_)|(refine oLt 53 ?_; refine a8A (c := lv) rfl (fun _ => rfl) rfl hb8 rfl ?_)|refine wOp ?_|(refine wCm ?_ ?_<;>intro hc)|(refine wNl hK ?_;clear hK K))|refine wG ?_|(refine wCR ?_;intro K hK)|refine wPh ?_|fail)
    all_goals skip
    refine b2A rfl (fun w2 e2 => ⟨rfl, ?_⟩) (.inl rfl)
    exact hfin w2 kv' lv' (hF9.trans (Fr.of e2)) (e2.block hb8) (r19.ext e2) (s19.ext e2) (r3.le (Nat.le_trans e5.size e1.size)) (s3.le (by omega))
  · obtain ⟨i1, i2⟩ := utA hk hn
    have hfin : ∀ w', _ := fun w' => hS.set (w' := w') hk hn hq hq0 q1 q3 hc
    rw [← hi] at i1 hf hfin
    rw [hn] at hf
    have hset := muA Q i qc (by omega)
    rcases q2.2 with ⟨_, h0⟩ | ⟨gl, cap, cur, rfl, -, hg, hnc, hm, hsz, htake⟩
    · omega
    have hsn := slot_ne hS
    have hsetN := fun (w1 : World) (hg1 : w1.heap[gl]? = some (.cells cur tC (0, 0))) => Own.setN (e := tC) (s := 4) (news := qcs qc) q2.1 hg1 hnc hm hsz htake i1 rfl
    clear hi
    refine Fc.of (args := [_, _, _]) Tryz.func46 rfl rfl Tryz.ntmps46 (Nat.le_of_ble_eq_true rfl) ?_
    repeat' (first|(refine oLA ?_;first|refine a0A rfl ?_|(refine oBx ?_; refine pwA rfl rfl ?_)|(refine oNc ?_; refine akA rfl rfl ?_)|(refine oF 0 ?_; refine a2A (a' := ⟨b, 0, none⟩) rfl rfl (fun _ => rfl) ?_)|(refine oF 1 ?_; refine a2A (a' := ⟨b, 1, none⟩) rfl rfl (fun _ => rfl) ?_)|(refine oLt 52 ?_; refine a8A (c := kv) rfl (fun _ => rfl) rfl hS.hb rfl ?_)|(refine oLt 53 ?_; refine a8A (c := .slice (some ⟨gl, 0, none⟩) (nk p) cap) rfl (fun _ => rfl) rfl hS.hb rfl ?_)|(refine oI ?_; refine cuA (s := 4) rfl rfl (fun _ => rfl) rfl rfl (by omega) (by omega) ?_; rw [Int.toNat_natCast, Nat.zero_add])|(refine oLd ?_; refine mgA rfl (fun _ => rfl) (fun _ => rfl) rfl ?_)|(refine a4A (hK _ _ rfl (phA (news := qcs qc) rfl rfl rfl hg rfl (fun _ => rfl) (by rw [hsz]; show i * 4 + 4 ≤ cap * 4; omega) hqc (fun w1 e1 => ?_))); clear hK K)|refine wOp ?_|(refine wCm ?_ ?_<;>intro hc)|(refine oCv ?_;first|(refine oC 87 ?_; refine a3A (f := 87) rfl rfl rfl rfl  (.tup2 (.val (.int .i64 i)) (.val (.bool true))) (by intro u1 u2 w e hu1 hu2; (try obtain rfl : u1 = _ := hu1); (try obtain rfl : u2 = _ := hu2); exact hf _ e) ?_))|(refine wNl hK ?_;clear hK K))|(refine oCX ?_;first|refine brA 7 (by kernel_rfl) (by kernel_rfl) (by kernel_rfl) (fun K hK => ?_))|refine wG ?_|(refine wCR ?_;intro K hK)|fail)
    all_goals skip
    refine b2A rfl (fun w2 e2 => ⟨rfl, ?_⟩) (.inr rfl)
    have hS1 := hS.ext e1
    have hne : b ≠ gl := fun e => hsn.2.1 (by rw [e]; rfl)
    refine hfin w2 (((Fr.of e1).setRow (.inr (.inr rfl)) _).trans (Fr.of e2)) (e2.block (k5A _ hS1.hb hne)) (OwnI.ext (Own.setRow hS1.hk _ (Own.apart hS1.hk (e1.block hg) (by decide))) e2) ?_
    rw [hset]
    exact (hsetN w1 (e1.block hg)).ext e2
end Go.Proofs.YtfcioiobhpcngaaGreatDoor
end
section
set_option linter.unusedSimpArgs false
set_option linter.unusedVariables false
set_option maxRecDepth 3000
namespace Go.Proofs.YtfcioiobhpcngaaGreatDoor
open Go.LA Go.ArrP Go.RowKit
variable {A : Nat → Prop}
theorem p3A {w : World} {va vw vr : Value} {kd : Int} {p : Nat → Bool} {x : Nat} (h : SlI .u16 w va (adA p 65536)) (hx : x ≤ 65536) : Fc Tryz.prog 98 #[.agg #[.int .u8 kd, va, vw, vr], .int .i64 x] w (Ret w (.val (.int .i64 (cnt p x)))) := by
  have hb := h7A p x hx
  have hl := baA p 65536
  have hn : (adA p 65536).length ≤ 4611686018427387903 := by rw [baA]; have := cnt_le p 65536; omega
  obtain ⟨n, hnn⟩ : ∃ n, n = (adA p 65536).length := ⟨_, rfl⟩
  by_cases h0 : x = 0
  · subst h0
    refine Fc.of (args := [_, _]) Tryz.func98 rfl rfl Tryz.ntmps98 (Nat.le_of_ble_eq_true rfl) ?_
    repeat' (first|(refine oLA ?_;first|refine a0A rfl ?_|refine dfA ?_|refine wOp ?_|(refine wCm ?_ ?_<;>intro hc)|(refine wNl hK ?_;clear hK K))|refine wG ?_|(refine wCR ?_;intro K hK)|fail)
    all_goals skip
    all_goals exact abA rfl rfl (Ext.refl _) rfl
  by_cases h1 : x = 65536
  · subst h1
    refine Fc.of (args := [_, _]) Tryz.func98 rfl rfl Tryz.ntmps98 (Nat.le_of_ble_eq_true rfl) ?_
    repeat' (first|(refine oLA ?_;first|refine a0A rfl ?_|refine dfA ?_|(refine cyA ?_; refine bmA rfl _ rfl rfl (by exact (HasI.val h).c) ?_)|refine wOp ?_|(refine wCm ?_ ?_<;>intro hc)|(refine wNl hK ?_;clear hK K))|refine wG ?_|(refine wCR ?_;intro K hK)|fail)
    all_goals skip
    all_goals exact abA rfl rfl (Ext.refl _) (by rw [hl])
  · have q0 : True := trivial
    refine Fc.of (args := [_, _]) Tryz.func98 rfl rfl Tryz.ntmps98 (Nat.le_of_ble_eq_true rfl) ?_
    repeat' (first|(refine oLA ?_;first|refine a0A rfl ?_|refine dfA ?_|refine wOp ?_|(refine wCm ?_ ?_<;>intro hc)|(refine oCv ?_;first|(refine oC 143 ?_; refine a3A (f := 143) rfl rfl rfl rfl  (.tup2 (.val (.int .i64 (bsS (adA p 65536) x))) (.val (.bool (crA (adA p 65536) x)))) (by intro u1 u2 w e hu1 hu2; (try obtain rfl : u1 = _ := hu1); (try obtain rfl : u2 = _ := hu2); exact tdA _ _ (adA p 65536) x (h.ext e) hn) ?_))|(refine wNl hK ?_;clear hK K))|refine wG ?_|(refine wCR ?_;intro K hK)|fail)
    all_goals skip
    all_goals exact abA rfl rfl (Ext.refl _) (by rw [hb])
theorem n6A {w : World} {va vw vr : Value} {kd : Int} {p : Nat → Bool} {x : Nat} (h : SlI .u64 w vw (wordsOf p)) (hx : x ≤ 65536) : Fc Tryz.prog 99 #[.agg #[.int .u8 kd, va, vw, vr], .int .i64 x] w (Ret w (.val (.int .i64 (cnt p x)))) := by
  refine Fc.of (args := [_, _]) Tryz.func99 rfl rfl Tryz.ntmps99 (Nat.le_of_ble_eq_true rfl) ?_
  repeat' (first|(refine oLA ?_;first|refine a0A rfl ?_|refine dfA ?_|refine wOp ?_|(refine wCm ?_ ?_<;>intro hc)|(refine oCv ?_;first|(refine oC 144 ?_; refine a3A (f := 144) rfl rfl rfl rfl  (.val (.int .i64 (cnt p x))) (by intro u1 u2 w e hu1 hu2; (try obtain rfl : u1 = _ := hu1); (try obtain rfl : u2 = _ := hu2); exact agA (by rw [show (min (max (x : Int) 0) 65536).toNat = x by omega]) (w7A _ _ p (h.ext e) x (by omega))) ?_))|(refine wNl hK ?_;clear hK K))|refine wG ?_|(refine wCR ?_;intro K hK)|fail)
  all_goals skip
  all_goals exact abA rfl rfl (Ext.refl _) rfl
theorem nmA {w : World} {va vw vr : Value} {kd : Int} {p : Nat → Bool} {x : Nat} (h : SlR w vr (aoA p)) (hx : x ≤ 65536) : Fc Tryz.prog 100 #[.agg #[.int .u8 kd, va, vw, vr], .int .i64 x] w (Ret w (.val (.int .i64 (cnt p x)))) := by
  have hr : hnA (aoA p) x = cnt p x := by rw [show hnA (aoA p) x = _ from lgA p x 65536, show (min (max (x : Int) 0) (65536 : Nat)).toNat = x by omega]
  have hn : (aoA p).length ≤ 70000 := by have := d1A p; omega
  refine Fc.of (args := [_, _]) Tryz.func100 rfl rfl Tryz.ntmps100 (Nat.le_of_ble_eq_true rfl) ?_
  repeat' (first|(refine oLA ?_;first|refine a0A rfl ?_|refine dfA ?_|refine wOp ?_|(refine wCm ?_ ?_<;>intro hc)|(refine oCv ?_;first|(refine oC 145 ?_; refine a3A (f := 145) rfl rfl rfl rfl  (.val (.int .i64 (cnt p x))) (by intro u1 u2 w e hu1 hu2; (try obtain rfl : u1 = _ := hu1); (try obtain rfl : u2 = _ := hu2); exact agA (by rw [hr]) (qgA _ _ (aoA p) x (h.ext e) (dtA p) hn (by omega))) ?_))|(refine wNl hK ?_;clear hK K))|refine wG ?_|(refine wCR ?_;intro K hK)|fail)
  all_goals skip
  all_goals exact abA rfl rfl (Ext.refl _) rfl
theorem wnA {w : World} {v : Value} {p : Nat → Bool} {kk : Int} {x : Nat} (h : Cn A w v p kk) (hx : x ≤ 65536) : Fc Tryz.prog 52 #[v, .int .i64 x] w (Ret w (.val (.int .i64 (cnt p x)))) := by
  have hk : ∀ w', Ext w w' → _ := fun w' e => fcA (h.ext e)
  obtain ⟨hp, ⟨rfl, kd, va, hkd, rfl, ho⟩ | ⟨rfl, vw, rfl, ho⟩ | ⟨rfl, vr, rfl, ho⟩⟩ := h
  · skip
    refine Fc.of (args := [_, _]) Tryz.func52 rfl rfl Tryz.ntmps52 (Nat.le_of_ble_eq_true rfl) ?_
    repeat' (first|(refine oLA ?_;first|refine a0A rfl ?_|refine dfA ?_|refine ceA (c := .agg #[.nilFunc, .func (.func 98) #[] #[], .func (.func 99) #[] #[], .func (.func 100) #[] #[]]) rfl rfl rfl rfl (fun _ => by kernel_rfl) ?_|(refine d7A 1 (c := .func (.func 98) #[] #[]) rfl rfl (fun _ => rfl) rfl rfl rfl (by decide) (fun _ => by kernel_rfl) ?_)|refine wOp ?_|(refine wCm ?_ ?_<;>intro hc)|(refine oCv ?_;first|(refine oC 82 ?_; refine a1A (f := 82) rfl rfl rfl _ (by intro u1 w' e hu1; obtain rfl : u1 = _ := hu1; exact hk w' e) ?_)|(refine a3A (f := 98) rfl rfl rfl rfl (.val (.int .i64 (cnt p x))) (by intro u1 u2 w' e hu1 hu2; obtain rfl : u1 = _ := hu1; obtain rfl : u2 = _ := hu2;exact p3A (ho.ext e).slI hx) ?_))|(refine wNl hK ?_;clear hK K))|refine wG ?_|(refine wCR ?_;intro K hK)|fail)
    all_goals skip
    all_goals exact abA rfl rfl (Ext.refl _) rfl
  · skip
    refine Fc.of (args := [_, _]) Tryz.func52 rfl rfl Tryz.ntmps52 (Nat.le_of_ble_eq_true rfl) ?_
    repeat' (first|(refine oLA ?_;first|refine a0A rfl ?_|refine dfA ?_|refine ceA (c := .agg #[.nilFunc, .func (.func 98) #[] #[], .func (.func 99) #[] #[], .func (.func 100) #[] #[]]) rfl rfl rfl rfl (fun _ => by kernel_rfl) ?_|(refine d7A 2 (c := .func (.func 99) #[] #[]) rfl rfl (fun _ => rfl) rfl rfl rfl (by decide) (fun _ => by kernel_rfl) ?_)|refine wOp ?_|(refine wCm ?_ ?_<;>intro hc)|(refine oCv ?_;first|(refine oC 82 ?_; refine a1A (f := 82) rfl rfl rfl _ (by intro u1 w' e hu1; obtain rfl : u1 = _ := hu1; exact hk w' e) ?_)|(refine a3A (f := 99) rfl rfl rfl rfl (.val (.int .i64 (cnt p x))) (by intro u1 u2 w' e hu1 hu2; obtain rfl : u1 = _ := hu1; obtain rfl : u2 = _ := hu2;exact n6A (ho.ext e).slI hx) ?_))|(refine wNl hK ?_;clear hK K))|refine wG ?_|(refine wCR ?_;intro K hK)|fail)
    all_goals skip
    all_goals exact abA rfl rfl (Ext.refl _) rfl
  · skip
    refine Fc.of (args := [_, _]) Tryz.func52 rfl rfl Tryz.ntmps52 (Nat.le_of_ble_eq_true rfl) ?_
    repeat' (first|(refine oLA ?_;first|refine a0A rfl ?_|refine dfA ?_|refine ceA (c := .agg #[.nilFunc, .func (.func 98) #[] #[], .func (.func 99) #[] #[], .func (.func 100) #[] #[]]) rfl rfl rfl rfl (fun _ => by kernel_rfl) ?_|(refine d7A 3 (c := .func (.func 100) #[] #[]) rfl rfl (fun _ => rfl) rfl rfl rfl (by decide) (fun _ => by kernel_rfl) ?_)|refine wOp ?_|(refine wCm ?_ ?_<;>intro hc)|(refine oCv ?_;first|(refine oC 82 ?_; refine a1A (f := 82) rfl rfl rfl _ (by intro u1 w' e hu1; obtain rfl : u1 = _ := hu1; exact hk w' e) ?_)|(refine a3A (f := 100) rfl rfl rfl rfl (.val (.int .i64 (cnt p x))) (by intro u1 u2 w' e hu1 hu2; obtain rfl : u1 = _ := hu1; obtain rfl : u2 = _ := hu2;exact nmA (ho.ext e).slR hx) ?_))|(refine wNl hK ?_;clear hK K))|refine wG ?_|(refine wCR ?_;intro K hK)|fail)
    all_goals skip
    all_goals exact abA rfl rfl (Ext.refl _) rfl
end Go.Proofs.YtfcioiobhpcngaaGreatDoor
end
section
set_option linter.unusedSimpArgs false
set_option linter.unusedVariables false
set_option maxRecDepth 3000
namespace Go.Proofs.YtfcioiobhpcngaaGreatDoor
open Go.LA Go.ArrP Go.RowKit
variable {A B : Nat → Prop}
theorem lmA {w : World} {v : Value} {p : Nat → Bool} (h : NSet B A w v p) : ∀ x, TOP ≤ x → p x = false := by
  rcases h with ⟨rfl, rfl⟩ | ⟨b, kv, lv, rfl, hS, -⟩
  · exact fun _ _ => rfl
  · exact hS.top
structure Pts (A : Nat → Prop) (w : World) (v : Value) (p : Nat → Bool) (lv : Value) (Q : List Qd) : Prop where
  len : Q.length = nk p
  own : Own 0 tC 4 w lv (nk p) (b9A Q)
  cn : ∀ i, i < nk p → Cn A w (qv (Q.getD i q0)) (blk p (kp p i)) (aqA (blk p (kp p i)))
  set : 0 < nk p → ∃ b kv, v = .pointer (some ⟨b, 0, none⟩) ∧ w.heap[b]? = some (.cells #[kv, lv] tS (0, 0)) ∧ OwnI 0 tK .u16 w kv (b3A p)
theorem Pts.ext {w w' : World} {v : Value} {p : Nat → Bool} {lv : Value} {Q : List Qd} (h : Pts A w v p lv Q) (e : Ext w w') : Pts A w' v p lv Q :=
  ⟨h.len, h.own.ext e, fun i hi => (h.cn i hi).ext e, fun h0 => by
    obtain ⟨b, kv, h1, h2, h3⟩ := h.set h0
    exact ⟨b, kv, h1, e.block h2, h3.ext e⟩⟩
theorem Pts.at {w : World} {v : Value} {p : Nat → Bool} {lv : Value} {Q : List Qd} (h : Pts A w v p lv Q) {i : Nat} (hi : i < nk p) : ((b9A Q).drop (i * 4)).take 4 = qcs (Q.getD i q0) ∧ Cn A w (qv (Q.getD i q0)) (blk p (kp p i)) (aqA (blk p (kp p i))) ∧ ∀ u ∈ qcs (Q.getD i q0), u.oneCell' = true := by
  refine ⟨h5A Q i (by have := h.len; omega), h.cn i hi, ?_⟩
  obtain ⟨q, h1, h2⟩ := (h.cn i hi).qd
  rw [t2A h1]; exact h2
theorem oaA {w : World} {v : Value} {p : Nat → Bool} (h : NSet B A w v p) : ∃ lv Q, Pts A w v p lv Q ∧ ∀ w', Ext w w' → Fc Tryz.prog 50 #[v] w' (Ret w' (.val lv)) := by
  rcases h with ⟨rfl, rfl⟩ | ⟨b, kv, lv, rfl, hS, -⟩
  · refine ⟨nilS, [], ⟨by rw [epA]; rfl, by rw [epA]; exact Own.nil, fun i hi => by rw [epA] at hi; omega, fun hi => by rw [epA] at hi; omega⟩, fun w' e => ?_⟩
    refine Fc.of (args := [_]) Tryz.func50 rfl rfl Tryz.ntmps50 (Nat.le_of_ble_eq_true rfl) ?_
    repeat' (first|(refine oLA ?_;first|refine a0A rfl ?_|(refine oEq ?_; refine c9A (c := .bool true) rfl rfl rfl (fun _ => rfl) ?_)|refine wOp ?_|(refine wCm ?_ ?_<;>intro hc)|(refine wNl hK ?_;clear hK K))|refine wG ?_|(refine wCR ?_;intro K hK)|fail)
    exact abA rfl rfl (Ext.refl _) rfl
  · obtain ⟨Q, q1, q2, q3⟩ := hS.hl
    refine ⟨lv, Q, ⟨q1, q2, fun i hi => (q3 i hi).mono fun k _ h => h.1, fun _ => ⟨b, kv, rfl, hS.hb, hS.hk⟩⟩, fun w' e => ?_⟩
    replace hS := hS.ext e
    refine Fc.of (args := [_]) Tryz.func50 rfl rfl Tryz.ntmps50 (Nat.le_of_ble_eq_true rfl) ?_
    repeat' (first|(refine oLA ?_;first|refine a0A rfl ?_|(refine oEq ?_; refine c9A (c := .bool false) rfl rfl rfl (fun _ => rfl) ?_)|(refine oNc ?_; refine akA rfl rfl ?_)|(refine oF 0 ?_; refine a2A (a' := ⟨b, 0, none⟩) rfl rfl (fun _ => rfl) ?_)|(refine oF 1 ?_; refine a2A (a' := ⟨b, 1, none⟩) rfl rfl (fun _ => rfl) ?_)|(refine oLt 52 ?_; refine a8A (c := kv) rfl (fun _ => rfl) rfl hS.hb rfl ?_)|(refine oLt 53 ?_; refine a8A (c := lv) rfl (fun _ => rfl) rfl hS.hb rfl ?_)|refine wOp ?_|(refine wCm ?_ ?_<;>intro hc)|(refine wNl hK ?_;clear hK K))|refine wG ?_|(refine wCR ?_;intro K hK)|fail)
    exact abA rfl rfl (Ext.refl _) rfl
theorem oeA {w : World} {v : Value} {p : Nat → Bool} (h : NSet B A w v p) : Fc Tryz.prog 40 #[v] w (Ret w (.pred (bjA w.heap.size tK .u16 (b3A p)))) := by
  rcases h with ⟨rfl, rfl⟩ | ⟨b, kv, lv, rfl, hS, -⟩
  · rw [joA]
    refine Fc.of (args := [_]) Tryz.func40 rfl rfl Tryz.ntmps40 (Nat.le_of_ble_eq_true rfl) ?_
    repeat' (first|(refine oLA ?_;first|refine a0A rfl ?_|(refine oEq ?_; refine c9A (c := .bool true) rfl rfl rfl (fun _ => rfl) ?_)|refine wOp ?_|(refine wCm ?_ ?_<;>intro hc)|(refine wNl hK ?_;clear hK K))|refine wG ?_|(refine wCR ?_;intro K hK)|fail)
    exact alA rfl rfl (Ext.refl _) (fun v _ _ hv => by obtain rfl : v = _ := hv; exact OwnI.nil)
  · have hn : (b3A p).length ≤ 65536 := by rw [bnA]; exact gbA p
    refine Fc.of (args := [_]) Tryz.func40 rfl rfl Tryz.ntmps40 (Nat.le_of_ble_eq_true rfl) ?_
    repeat' (first|(refine oLA ?_;first|refine a0A rfl ?_|(refine oEq ?_; refine c9A (c := .bool false) rfl rfl rfl (fun _ => rfl) ?_)|(refine oNc ?_; refine akA rfl rfl ?_)|(refine oF 0 ?_; refine a2A (a' := ⟨b, 0, none⟩) rfl rfl (fun _ => rfl) ?_)|(refine oF 1 ?_; refine a2A (a' := ⟨b, 1, none⟩) rfl rfl (fun _ => rfl) ?_)|(refine oLt 52 ?_; refine a8A (c := kv) rfl (fun _ => rfl) rfl hS.hb rfl ?_)|(refine oLt 53 ?_; refine a8A (c := lv) rfl (fun _ => rfl) rfl hS.hb rfl ?_)|refine wOp ?_|(refine wCm ?_ ?_<;>intro hc)|(refine oCv ?_;first|(refine oC 55 ?_; refine a1A (f := 55) rfl rfl rfl  (.pred (bjA w.heap.size tK .u16 (b3A p))) (by intro u1 w e hu1; (try obtain rfl : u1 = _ := hu1); exact (foA _ _ _ (hS.hk.ext e).slI hn).mono (aaA e.size)) ?_))|(refine wNl hK ?_;clear hK K))|refine wG ?_|(refine wCR ?_;intro K hK)|fail)
    exact alA rfl rfl (Ext.refl _) (fun _ _ _ hv => hv)
theorem uqA {w : World} {v : Value} {p : Nat → Bool} (h : NSet B A w v p) : Fc Tryz.prog 15 #[v] w (Ret w (.val (.int .i64 (cnt p TOP)))) := by
  obtain ⟨lv, Q, hP, hL⟩ := oaA h
  have hnk := gbA p
  have hct := cnt_le p TOP
  have htop := dwA
  refine Fc.of (args := [_]) Tryz.func15 rfl rfl Tryz.ntmps15 (Nat.le_of_ble_eq_true rfl) ?_
  repeat' (first|(refine oLA ?_;first|refine a0A rfl ?_|(refine cyA ?_; refine bmA rfl _ rfl rfl (HasC.ownV hP.own) ?_)|refine wOp ?_|(refine wCm ?_ ?_<;>intro hc)|(refine oCv ?_;first|(refine oC 50 ?_; refine a1A (f := 50) rfl rfl rfl  (.val lv) (by intro u1 w e hu1; (try obtain rfl : u1 = _ := hu1); exact hL _ e) ?_))|(refine wNl hK ?_;clear hK K))|refine wG ?_|(refine wCR ?_;intro K hK)|fail)
  refine b8A (ι := Nat) (fun i => [(0, .val v), (3, .val (.int .i64 (cnt p (kp p i * 65536)))), (7, .val lv), (8, .val (.int .i64 (nk p))), (9, .val (.int .i64 i))]) (fun i => i ≤ nk p) (fun i => nk p - i) 0 (Nat.zero_le _) (by rw [lvA]; (repeat' (first | exact Sub.nil | (refine Sub.val rfl ?_ ?_; first | with_reducible rfl | (congr 1; omega)) | refine Sub.same rfl ?_)); done) ?_
  intro i hi
  have hle := cnt_mono p (m := kp p i * 65536) TOP (by have := kp_le p i; omega)
  by_cases hil : i < nk p
  · obtain ⟨hat, hcn, h1⟩ := hP.at hil
    have hkc := uwA hil
    have hb6 := cnt_le (blk p (kp p i)) 65536
    repeat' (first|(refine oLA ?_;first|refine a0A rfl ?_|(refine oI ?_; refine cnA (s := 4) rfl _ rfl (fun _ => rfl) rfl (HasC.ownV hP.own) rfl i rfl (by omega) ?_; rw [hat])|(refine oLt 65 ?_; refine anA (cs := qcs _) rfl (fun _ => rfl) (fun _ => rfl) rfl ?_)|(refine oD 5 ?_; refine a4A (hK _ _ (c7A rfl rfl (by decide) (fun _ => rfl) (fun _ => rfl) (fun _ => rfl) rfl h1 (fun bx wx ex hbx hbc => ?_))); clear hK K; refine amA (by kernel_rfl) (fun K hK => ?_))|(refine oD 14 ?_; refine cvA (n := 4) rfl hbc rfl rfl (fun _ => rfl) (fun _ => rfl) ?_)|refine wOp ?_|(refine wCm ?_ ?_<;>intro hc)|(refine oCv ?_;first|(refine oC 51 ?_; refine a1A (f := 51) rfl rfl rfl  (.val (.int .i64 (cnt (blk p (kp p i)) 65536))) (by intro u1 w e hu1; (try obtain rfl : u1 = _ := hu1); exact hsA (hcn.ext (ex.trans e))) ?_))|(refine wNl hK ?_;clear hK K))|refine wG ?_|(refine wCR ?_;intro K hK)|fail)
    all_goals skip
    exact j0A ex (i + 1) hil (by omega) (by rw [hkc]; (repeat' (first | exact Sub.nil | (refine Sub.val rfl ?_ ?_; first | with_reducible rfl | (congr 1; omega)) | refine Sub.same rfl ?_)); done)
  · obtain rfl : i = nk p := by omega
    rw [kfA] at hle ⊢
    repeat' (first|(refine oLA ?_;first|refine a0A rfl ?_|refine wOp ?_|(refine wCm ?_ ?_<;>intro hc)|(refine wNl hK ?_;clear hK K))|refine wG ?_|(refine wCR ?_;intro K hK)|fail)
    exact abA rfl rfl (Ext.refl _) rfl
end Go.Proofs.YtfcioiobhpcngaaGreatDoor
end
section
set_option linter.unusedSimpArgs false
set_option linter.unusedVariables false
set_option maxRecDepth 3000
namespace Go.Proofs.YtfcioiobhpcngaaGreatDoor
open Go.LA Go.ArrP Go.RowKit
variable {A B : Nat → Prop}
theorem has_s {w : World} {v : Value} {p : Nat → Bool} (h : NSet B A w v p) {x : Nat} (hx : x < 4294967296) : Fc Tryz.prog 20 #[v, .int .u32 x] w (Ret w (.val (.bool (p x)))) := by
  have hb : blk p (x / 65536) (x % 65536) = p x := by rw [cjA (Nat.mod_lt _ (by omega))]; congr 1; omega
  have e2 : IntKind.u16.wrap (x : Int) = ((x % 65536 : Nat) : Int) := by rw [IntKind.wrap_u16]; omega
  have e1 : (x : Int) / 65536 = ((x / 65536 : Nat) : Int) := by omega
  have hx1 : x / 65536 < 65536 := by omega
  have hx2 : x % 65536 < 65536 := Nat.mod_lt _ (by omega)
  obtain ⟨k, hk⟩ : ∃ k, k = x / 65536 := ⟨_, rfl⟩
  obtain ⟨r, hr⟩ : ∃ r, r = x % 65536 := ⟨_, rfl⟩
  rw [← hk, ← hr] at hb
  rw [← hk] at e1 hx1; rw [← hr] at e2 hx2
  clear hk hr
  refine Fc.of (args := [_, _]) Tryz.func20 rfl rfl Tryz.ntmps20 (Nat.le_of_ble_eq_true rfl) ?_
  repeat' (first|(refine oLA ?_;first|refine a0A rfl ?_|(refine oB .shr ?_; refine ejA rfl rfl rfl (by decide) (by decide) ?_; rw [show (2 : Int) ^ Int.toNat 16 = 65536 by decide, e1])|(refine oD 11 ?_; refine f0A rfl rfl rfl rfl ?_; rw [e2])|refine wOp ?_|(refine wCm ?_ ?_<;>intro hc)|(refine oCv ?_;first|(refine oC 47 ?_; refine a3A (f := 47) rfl rfl rfl rfl  (.pred (cnP A (blk p k) (aqA (blk p k)))) (by intro u1 u2 w e hu1 hu2; (try obtain rfl : u1 = _ := hu1); (try obtain rfl : u2 = _ := hu2); exact r9A (h.ext e) hx1) ?_)|(refine oC 54 ?_; refine a3A (f := 54) rfl rfl rfl rfl  (.val (.bool (blk p k r))) (by intro u1 u2 w e hu1 hu2; (try obtain rfl : u1 = _ := hu1); (try obtain rfl : u2 = _ := hu2); exact x7A hu1 hx2) ?_))|(refine wNl hK ?_;clear hK K))|refine wG ?_|(refine wCR ?_;intro K hK)|fail)
  all_goals skip
  exact abA rfl rfl (Ext.refl _) (by rw [hb])
theorem RS.self {A : Nat → Prop} {w : World} {b : Nat} {kv lv : Value} {p : Nat → Bool} (h : RS A w b kv lv p) : RS (fun k => A k ∧ kv.ownBlock ≠ some k) w b kv lv p := h.mono fun k _ ha hb => ⟨ha, hb⟩
end Go.Proofs.YtfcioiobhpcngaaGreatDoor
end
section
set_option linter.unusedVariables false
namespace Go.LA
open Go.RowKit
section
variable {P : Program} {l : List Oper} {M : List Nat} {N : Nat} {ws wb : World} {K : List Oper → Env → Prop} {rest : List Oper} {E : Env} {Q : Exit → Act → World → Prop} {m : Nat} {C : World → Env → Prop}
variable {d : Tmp} {ty t t' : TypeId} {pos : String} {after : Array Edge} {g : Option (Nat × Bool)} {x y z : Operand} {k kd : IntKind}
theorem a6A {b n cap : Nat} {e : TypeId} {i : Int} (hg : b5A l E g = some true) (ht : P.underlying t = some (.slice e)) (hs : ∀ w, (sizeOf e).run P w = .ok 1 w) (hx : opE E x = .val (.slice (some ⟨b, 0, none⟩) n cap))
    (hy : opE E y = .val (.int k i)) (j : Nat) (hj : i = (j : Int)) (hn : j < n) (h : LA P l wb K rest ((d, .val (.pointer (some ⟨b, j, none⟩))) :: E)) : LA P l wb K (⟨some d, .indexAddr t x y, ty, pos, after, g⟩ :: rest) E := by
  refine cuA hg ht hs hx hy (by omega) (by omega) ?_
  rw [hj, Int.toNat_natCast, Nat.mul_one, Nat.zero_add]; exact h
theorem aeA {base e b n cap j : Nat} {xs : List Int} (ho : OwnI base e kd wb (.slice (some ⟨b, 0, none⟩) n cap) xs) (hg : b5A l E g = some true) (ht : ∀ w, (isAgg t).run P w = .ok false w) (hx : opE E x = .val (.pointer (some ⟨b, j, none⟩))) (hj : j < xs.length)
    (h : LA P l wb K rest ((d, .val (.int kd (xs.getD j 0))) :: E)) : LA P l wb K (⟨some d, .load t x, ty, pos, after, g⟩ :: rest) E := by
  obtain ⟨b', cap', cur, hv, -, hb, -, -, -, hcur⟩ := ho.row (by omega)
  cases hv
  exact a8A hg ht hx hb (npA hcur hj) h
theorem afA {w0 : World} {e b n cap j : Nat} {c : Int} {xs : List Int} (hm : l[m]? = some ⟨none, .store t x y, ty, pos, after, none⟩) (he : Ext w0 ws) (ho : OwnI w0.heap.size e kd ws (.slice (some ⟨b, 0, none⟩) n cap) xs)
    (hx : opE E x = .val (.pointer (some ⟨b, j, none⟩))) (hy : opE E y = .val (.int kd c)) (hj : j < xs.length) (hs : ∀ w, (sizeOf t).run P w = .ok 1 w)
    (h : ∀ w', Ext w0 w' → OwnI w0.heap.size e kd w' (.slice (some ⟨b, 0, none⟩) n cap) (xs.set j c) → C w' (vals E)) : MX P N l Q m ws E C := by
  obtain ⟨b', cap', cur, hv, hb0, hb, hnc, hcm, hsz, hcur⟩ := ho.row (by omega)
  cases hv
  have e3 : (cur.toList.take j ++ [Value.int kd c] ++ cur.toList.drop (j + [Value.int kd c].length)).toArray = cur.setIfInBounds j (.int kd c) := by
    apply Array.ext'
    rw [Array.toList_setIfInBounds, List.set_eq_take_append_cons_drop, if_pos (by simp; omega)]
    simp
  refine dxA (news := [.int kd c]) hm hx hy hb rfl hs (by simp; omega) (by simp [Value.oneCell']) (fun w hw => ⟨_, fun t u hu => c0A t u hu, ?_⟩)
  rw [e3]
  exact h _ ((he.trans hw).setRow hb0 _) (OwnI.set hb0 (hw.block hb) hnc hcm hsz hcur j hj c)
variable {q s4 : Operand}
theorem fdA {f : FuncId} {ats : Array TypeId} {fv : Operand} {v1 v2 v3 : Value} (R : World → Prop) (hc : ∀ w, Ext wb w → Fc P f #[v1, v2, v3] w (fun e w' => e = .returned (.tuple #[]) ∧ R w')) (hg : g = none) (hd : d < N) (hfv : opE E fv = .val (.func (.func f) #[] #[])) (hv1 : opE E x = .val v1) (hv2 : opE E y = .val v2) (hv3 : opE E z = .val v3)
    (h : ∀ w, R w → LX P N w l Q rest ((d, .val (.tuple #[])) :: vals E)) : LX P N wb l Q (⟨some d, .call ⟨.value fv, #[x, y, z], ats⟩, ty, pos, after, g⟩ :: rest) E :=
  c1A hg hd hfv hv1 hv2 hv3 (fun v w => v = .tuple #[] ∧ R w) (fun w e => (hc w e).mono fun e' w' ⟨h1, h2⟩ => ⟨_, h1, rfl, h2⟩) (fun v w hv => by obtain ⟨rfl, hw⟩ := hv; exact h w hw)
theorem eiA {f : FuncId} {ats : Array TypeId} {fv : Operand} {v1 v2 v3 v4 : Value} (R : World → Prop) (hc : ∀ w, Ext wb w → Fc P f #[v1, v2, v3, v4] w (fun e w' => e = .returned (.tuple #[]) ∧ R w')) (hg : g = none) (hd : d < N) (hfv : opE E fv = .val (.func (.func f) #[] #[])) (hv1 : opE E x = .val v1) (hv2 : opE E y = .val v2) (hv3 : opE E z = .val v3) (hv4 : opE E q = .val v4)
    (h : ∀ w, R w → LX P N w l Q rest ((d, .val (.tuple #[])) :: vals E)) : LX P N wb l Q (⟨some d, .call ⟨.value fv, #[x, y, z, q], ats⟩, ty, pos, after, g⟩ :: rest) E :=
  d5A hg hd hfv hv1 hv2 hv3 hv4 (fun v w => v = .tuple #[] ∧ R w) (fun w e => (hc w e).mono fun e' w' ⟨h1, h2⟩ => ⟨_, h1, rfl, h2⟩) (fun v w hv => by obtain ⟨rfl, hw⟩ := hv; exact h w hw)
theorem d8A {c c' : Code} (k : Nat) (E' : Env) (h1 : CX P N wb (.block k c) E (Exit.then (Cut N wb E') Q)) (h2 : CX P N wb c' E' Q) : CX P N wb (.seq (.block k c) c') E Q := g5A E' h1 h2
end
open Go.Sort
theorem swp_size (D : Array Int) (i j : Nat) : (swp D i j).size = D.size := by unfold swp; simp
theorem lxA (h : Nat) (hb : h < 4611686018427387904) : IntKind.i64.wrap (((h : Int) - 1).tdiv 2) = (((h - 1) / 2 : Nat) : Int) := by
  cases h with
  | zero => decide
  | succ h =>
    rw [show (((h + 1 : Nat) : Int) - 1) = (h : Int) by omega, show h + 1 - 1 = h by omega, Int.tdiv_eq_ediv_of_nonneg (by omega), ddA .i64 _ (by dsimp only [fits]; omega)]
    omega
theorem sift_go {lt : Int → Int → Bool} {hi first r c : Nat} {d : Array Int} (h : ¬ 2 * r + 1 ≥ hi) (hc : c = if (decide (2 * r + 1 + 1 < hi) && lt d[first + (2 * r + 1)]! d[first + (2 * r + 1) + 1]!) = true then 2 * r + 2 else 2 * r + 1) :
    siftDown lt hi first r d = if lt d[first + r]! d[first + c]! then siftDown lt hi first c (swp d (first + r) (first + c)) else d := by
  rw [siftDown, dif_neg h]
  by_cases hh : (decide (2 * r + 1 + 1 < hi) && lt d[first + (2 * r + 1)]! d[first + (2 * r + 1) + 1]!) = true
  · rw [if_pos hh] at hc ⊢
    subst hc
    have h2 : 2 * r + 2 < hi := by simp at hh; omega
    cases hl : lt d[first + r]! d[first + (2 * r + 2)]!
    · simp
    · simp [h2]
  · rw [if_neg hh] at hc ⊢
    subst hc
    cases hl : lt d[first + r]! d[first + (2 * r + 1)]!
    · simp
    · simp
theorem sift_size {lt : Int → Int → Bool} {hi first : Nat} : ∀ (m r : Nat) (d : Array Int), hi - r ≤ m → (siftDown lt hi first r d).size = d.size
  | 0, r, d, h => by rw [siftDown, dif_pos (by omega)]
  | m + 1, r, d, h => by
    by_cases hr : 2 * r + 1 ≥ hi
    · rw [siftDown, dif_pos hr]
    · obtain ⟨c, hc⟩ : ∃ c, c = if (decide (2 * r + 1 + 1 < hi) && lt d[first + (2 * r + 1)]! d[first + (2 * r + 1) + 1]!) = true then 2 * r + 2 else 2 * r + 1 := ⟨_, rfl⟩
      have hlt : r < c := by rw [hc]; split <;> omega
      rw [sift_go hr hc]
      cases hl : lt d[first + r]! d[first + c]!
      · rfl
      · simp only [if_true]
        rw [sift_size m c _ (by omega), swp_size]
theorem scanUp_go {p : Int → Bool} {d : Array Int} {i j : Nat} (h : i ≤ j) (hp : p d[i]! = true) : scanUp p d j i = scanUp p d j (i + 1) := by
  conv => lhs; rw [scanUp]
  rw [if_pos (by simp [h, hp])]
theorem bbA {p : Int → Bool} {d : Array Int} {i j : Nat} (h : ¬ i ≤ j ∨ p d[i]! = false) : scanUp p d j i = i := by
  rw [scanUp, if_neg (by rcases h with h | h <;> simp [h])]
theorem scanDown_go {p : Int → Bool} {d : Array Int} {i j : Nat} (h : i ≤ j + 1) (hp : p d[j + 1]! = true) : scanDown p d i (j + 1) = scanDown p d i j := by
  rw [scanDown, if_pos (by simp [h, hp])]
theorem b1A {p : Int → Bool} {d : Array Int} {i j : Nat} (h : ¬ i ≤ j ∨ p d[j]! = false) : scanDown p d i j = j := by
  cases j with
  | zero => rfl
  | succ j => rw [scanDown, if_neg (by rcases h with h | h <;> simp [h])]
theorem d0A (p : Int → Bool) (d : Array Int) (j : Nat) : ∀ (m i : Nat), j + 1 - i ≤ m → i ≤ scanUp p d j i ∧ scanUp p d j i ≤ max i (j + 1)
  | 0, i, h1 => by rw [bbA (i := i) (j := j) (.inl (by omega))]; omega
  | m + 1, i, h1 => by
    by_cases h : i ≤ j
    · cases hp : p d[i]!
      · rw [bbA (.inr hp)]; omega
      · rw [scanUp_go h hp]; have := d0A p d j m (i + 1) (by omega); omega
    · rw [bbA (.inl h)]; omega
theorem caA (p : Int → Bool) (d : Array Int) (i : Nat) : ∀ (j : Nat), (i ≤ scanDown p d i j + 1 ∨ scanDown p d i j = j) ∧ scanDown p d i j ≤ j
  | 0 => by rw [scanDown]; omega
  | j + 1 => by
    by_cases h1 : i ≤ j + 1
    · cases hp : p d[j + 1]!
      · rw [b1A (.inr hp)]; omega
      · rw [scanDown_go h1 hp]; have := caA p d i j; omega
    · rw [b1A (.inl h1)]; omega
theorem nuA {lt : Int → Int → Bool} {D0 D : Array Int} {lo hi pv i2 j2 : Nat} (hD : D = swp D0 lo pv) (hi2 : i2 = scanUp (fun x => lt x D[lo]!) D (hi - 1) (lo + 1)) (hj2 : j2 = scanDown (fun x => !lt x D[lo]!) D i2 (hi - 1)) :
    partition lt D0 lo hi pv = if i2 > j2 then (j2, true, swp D j2 lo) else ((partLoop lt lo (i2 + 1) (j2 - 1) (swp D i2 j2)).1, false, swp (partLoop lt lo (i2 + 1) (j2 - 1) (swp D i2 j2)).2 (partLoop lt lo (i2 + 1) (j2 - 1) (swp D i2 j2)).1 lo) := by
  subst hj2 hi2 hD; rfl
theorem partLoop_eq {lt : Int → Int → Bool} {d : Array Int} {a i j i2 j2 : Nat} (hi2 : i2 = scanUp (fun x => lt x d[a]!) d j i) (hj2 : j2 = scanDown (fun x => !lt x d[a]!) d i2 j) (h1 : 1 ≤ i) :
    partLoop lt a i j d = if i2 > j2 then (j2, d) else partLoop lt a (i2 + 1) (j2 - 1) (swp d i2 j2) := by
  have b1 := d0A (fun x => lt x d[a]!) d j _ i (Nat.le_refl _)
  have b2 := caA (fun x => !lt x d[a]!) d i2 j
  rw [← hi2] at b1; rw [← hj2] at b2
  rw [partLoop]
  simp only [← hi2, ← hj2]
  by_cases h : i2 > j2
  · rw [if_pos h, if_pos h]
  · rw [if_neg h, if_neg h, dif_pos (by omega)]
theorem partEqLoop_eq {lt : Int → Int → Bool} {d : Array Int} {a i j i2 j2 : Nat} (hi2 : i2 = scanUp (fun x => !lt d[a]! x) d j i) (hj2 : j2 = scanDown (fun x => lt d[a]! x) d i2 j) (h1 : 1 ≤ i) :
    partEqLoop lt a i j d = if i2 > j2 then (i2, d) else partEqLoop lt a (i2 + 1) (j2 - 1) (swp d i2 j2) := by
  have b1 := d0A (fun x => !lt d[a]! x) d j _ i (Nat.le_refl _)
  have b2 := caA (fun x => lt d[a]! x) d i2 j
  rw [← hi2] at b1; rw [← hj2] at b2
  rw [partEqLoop]
  simp only [← hi2, ← hj2]
  by_cases h : i2 > j2
  · rw [if_pos h, if_pos h]
  · rw [if_neg h, if_neg h, dif_pos (by omega)]
theorem cbA {D : Array Int} {i : Nat} : D.toList.getD i 0 = D[i]! := by
  by_cases h : i < D.size
  · simp [List.getD, h]
  · simp [List.getD, h, getElem!_neg]
theorem atA (D : Array Int) (i j : Nat) : (D.toList.set i D[j]!).set j D[i]! = (swp D i j).toList := by
  unfold swp; simp
theorem apA (D : Array Int) : D.toList.length = D.size := Array.length_toList
end Go.LA
end
section
set_option linter.unusedVariables false
namespace Go.LA
variable {P : Program} {N : Nat} {wb : World} {E : Env} {Q : Exit → Act → World → Prop}
theorem cqA {id : Nat} {l : Array Oper} {m : Bool} {c1 c' : Code} {ι : Type} (J : ι → Env) (I : ι → World → Prop) (h1 : CX P N wb (.seq (.region id l m) c1) E (Exit.then (RndW N J I (fun _ => 0) 1) Q)) (h2 : ∀ i w, I i w → CX P N w c' (J i) Q) : CX P N wb (.seq (.seq (.region id l m) c1) c') E Q := by
  refine q0A ?_
  unfold CX at *
  intro a w s
  refine Code.wp_mono ?_ (h1 a w s)
  intro e a' w' h
  cases e with
  | normal => obtain ⟨i, ⟨h3, h4⟩, -⟩ := h; exact h2 i w' h3 a' w' h4
  | exit id => exact h
  | ret => exact h
  | goto l => exact h
  | panic v => exact h
  | outgrown => exact h
end Go.LA
namespace Go.Sort
theorem scanSorted_go {lt : Int → Int → Bool} {d : Array Int} {b i : Nat} (h : i < b) (hp : lt d[i]! d[i - 1]! = false) : scanSorted lt d b i = scanSorted lt d b (i + 1) := by
  rw [scanSorted, if_pos (by simp [h, hp])]
theorem scanSorted_stop {lt : Int → Int → Bool} {d : Array Int} {b i : Nat} (h : ¬ i < b ∨ lt d[i]! d[i - 1]! = true) : scanSorted lt d b i = i := by
  rw [scanSorted, if_neg (by rcases h with h | h <;> simp [h])]
theorem scanSorted_bd {lt : Int → Int → Bool} {d : Array Int} {b : Nat} : ∀ (m i : Nat), b - i ≤ m → i ≤ b → i ≤ scanSorted lt d b i ∧ scanSorted lt d b i ≤ b
  | m, i, hm, hi => by
    by_cases h : i < b
    · cases hp : lt d[i]! d[i - 1]!
      · rw [scanSorted_go h hp]
        cases m with
        | zero => omega
        | succ m => have := scanSorted_bd (lt := lt) (d := d) (b := b) m (i + 1) (by omega) (by omega); omega
      · rw [scanSorted_stop (.inr hp)]; exact ⟨Nat.le_refl _, hi⟩
    · rw [scanSorted_stop (.inl h)]; exact ⟨Nat.le_refl _, hi⟩
theorem shiftDown_size {lt : Int → Int → Bool} : ∀ (j : Nat) (d : Array Int), (shiftDown lt j d).size = d.size
  | 0, d => rfl
  | j + 1, d => by
    rw [shiftDown]; split
    · rfl
    · rw [shiftDown_size j, swp_size]
theorem shiftUp_go {lt : Int → Int → Bool} {d : Array Int} {b j : Nat} (h : j < b) (hp : lt d[j]! d[j - 1]! = true) : shiftUp lt b j d = shiftUp lt b (j + 1) (swp d j (j - 1)) := by
  rw [shiftUp, if_pos h, if_neg (by simp [hp])]
theorem shiftUp_stop {lt : Int → Int → Bool} {d : Array Int} {b j : Nat} (h : ¬ j < b ∨ lt d[j]! d[j - 1]! = false) : shiftUp lt b j d = d := by
  rw [shiftUp]
  rcases h with h | h
  · rw [if_neg h]
  · split
    · rw [if_pos (by simp [h])]
    · rfl
theorem shiftUp_size {lt : Int → Int → Bool} {b : Nat} : ∀ (m j : Nat) (d : Array Int), b - j ≤ m → (shiftUp lt b j d).size = d.size
  | m, j, d, hm => by
    by_cases h : j < b
    · cases hp : lt d[j]! d[j - 1]!
      · rw [shiftUp_stop (.inr hp)]
      · rw [shiftUp_go h hp]
        cases m with
        | zero => omega
        | succ m => rw [shiftUp_size m (j + 1) _ (by omega), swp_size]
    · rw [shiftUp_stop (.inl h)]
theorem pI_end {lt : Int → Int → Bool} {a b s i i3 : Nat} {d : Array Int} (hi : i3 = scanSorted lt d b i) (h : i3 = b) : partialIns lt a b (s + 1) i d = (d, true) := by
  rw [partialIns]; simp only [← hi]; rw [if_pos h]
theorem pI_short {lt : Int → Int → Bool} {a b s i i3 : Nat} {d : Array Int} (hi : i3 = scanSorted lt d b i) (h : ¬ i3 = b) (h2 : b - a < 50) : partialIns lt a b (s + 1) i d = (d, false) := by
  rw [partialIns]; simp only [← hi]; rw [if_neg h, if_pos h2]
theorem pI_go {lt : Int → Int → Bool} {a b s i i3 : Nat} {d D2 D3 D4 : Array Int} (hi : i3 = scanSorted lt d b i) (h : ¬ i3 = b) (h2 : ¬ b - a < 50) (e2 : D2 = swp d i3 (i3 - 1))
    (e3 : D3 = if i3 - a ≥ 2 then shiftDown lt (i3 - 1) D2 else D2) (e4 : D4 = if b - i3 ≥ 2 then shiftUp lt b (i3 + 1) D3 else D3) : partialIns lt a b (s + 1) i d = partialIns lt a b s i3 D4 := by
  subst e4 e3 e2
  rw [partialIns]; simp only [← hi]; rw [if_neg h, if_neg h2]
end Go.Sort
end
section
set_option linter.unusedVariables false
namespace Go.LA
open Go.RowKit
section
variable {P : Program} {l : List Oper} {M : List Nat} {N : Nat} {ws wb : World} {K : List Oper → Env → Prop} {rest : List Oper} {E : Env} {Q : Exit → Act → World → Prop} {m : Nat} {C : World → Env → Prop}
variable {d : Tmp} {ty t t' : TypeId} {pos : String} {after : Array Edge} {g : Option (Nat × Bool)} {x y z : Operand} {k kd : IntKind}
theorem OwnI.keepRow {base e e' b : Nat} {kd : IntKind} {w : World} {v : Value} {xs : List Int} {cur cs : Array Value} {j : Nat × Nat} (h : OwnI base e kd w v xs) (hb : w.heap[b]? = some (.cells cur e' j)) (hne : e ≠ e') : OwnI base e kd (w.setRow b cs) v xs := by
  refine ⟨h.1, ?_⟩
  rcases h.2 with hn | ⟨g, cap, cr, hv, hg, hx, r⟩
  · exact .inl hn
  · refine .inr ⟨g, cap, cr, hv, hg, ?_, r⟩
    rw [setRow_other w b g cs (fun he => ?_)]
    · exact hx
    · subst he
      rw [hx] at hb
      simp only [Option.some.injEq, Obj.cells.injEq] at hb
      exact hne hb.2.1
theorem fiA {w0 : World} {e e2 b n cap j base2 : Nat} {c : Int} {xs ys : List Int} {kd2 : IntKind} {v2 : Value} (hm : l[m]? = some ⟨none, .store t x y, ty, pos, after, none⟩) (he : Ext w0 ws) (ho : OwnI w0.heap.size e kd ws (.slice (some ⟨b, 0, none⟩) n cap) xs)
    (ho2 : OwnI base2 e2 kd2 ws v2 ys) (hne : e2 ≠ e)
    (hx : opE E x = .val (.pointer (some ⟨b, j, none⟩))) (hy : opE E y = .val (.int kd c)) (hj : j < xs.length) (hs : ∀ w, (sizeOf t).run P w = .ok 1 w)
    (h : ∀ w', Ext w0 w' → OwnI w0.heap.size e kd w' (.slice (some ⟨b, 0, none⟩) n cap) (xs.set j c) → OwnI base2 e2 kd2 w' v2 ys → C w' (vals E)) : MX P N l Q m ws E C := by
  obtain ⟨b', cap', cur, hv, hb0, hb, hnc, hcm, hsz, hcur⟩ := ho.row (by omega)
  cases hv
  have e3 : (cur.toList.take j ++ [Value.int kd c] ++ cur.toList.drop (j + [Value.int kd c].length)).toArray = cur.setIfInBounds j (.int kd c) := by
    apply Array.ext'
    rw [Array.toList_setIfInBounds, List.set_eq_take_append_cons_drop, if_pos (by simp; omega)]
    simp
  refine dxA (news := [.int kd c]) hm hx hy hb rfl hs (by simp; omega) (by simp [Value.oneCell']) (fun w hw => ⟨_, fun t u hu => c0A t u hu, ?_⟩)
  rw [e3]
  exact h _ ((he.trans hw).setRow hb0 _) (OwnI.set hb0 (hw.block hb) hnc hcm hsz hcur j hj c) ((ho2.ext hw).keepRow (hw.block hb) hne)
theorem xjA {s : ByteArray} {i : Int} (hg : b5A l E g = some true) (ht : P.underlying t = some .string) (hx : opE E x = .val (.string s)) (hy : opE E y = .val (.int k i)) (h0 : 0 ≤ i) (h1 : i < 256)
    (hs : ∀ j, j < 256 → s[j]? = some (UInt8.ofNat (Go.Sort.bitsLen j))) (h : ∀ v : Nat, v = Go.Sort.bitsLen i.toNat → v ≤ 8 → LA P l wb K rest ((d, .val (.int .u8 v)) :: E)) : LA P l wb K (⟨some d, .index t x y, ty, pos, after, g⟩ :: rest) E := by
  obtain ⟨j, rfl⟩ : ∃ j : Nat, i = j := ⟨i.toNat, by omega⟩
  have hb : Go.Sort.bitsLen j ≤ 8 := (Go.Sort.bitsLen_le_iff j 8).2 (by omega)
  refine b0A _ hg (bcA fun a w he hh => ?_) (h (Go.Sort.bitsLen j) (by simp) hb)
  have e1 := hh x (by simp [Op.operands]); have e2 := hh y (by simp [Op.operands])
  rw [hx] at e1; rw [hy] at e2; simp only [AD.ok] at e1 e2
  have hsj := hs j (by omega)
  have hu : (UInt8.ofNat (Go.Sort.bitsLen j)).toNat = Go.Sort.bitsLen j := by simp; omega
  have hrun : (Instr.index t (.string s) (.int k (j : Int))).run P w = .ok (.int .u8 (Go.Sort.bitsLen j : Nat)) w := by
    simp [Instr.index, run_underlying ht, asIntOf, hsj, hu]
  simp only [execOp, e1, e2, Sem.run_bind, hrun, Result.andThen_ok, Sem.run_pure]
theorem kxA {n m : Int} (hg : b5A l E g = some true) (hx : opE E x = .val (.int .u64 n)) (hy : opE E y = .val (.int .u64 m)) (h : ∀ c : Nat, c < 18446744073709551616 → LA P l wb K rest ((d, .val (.int .u64 (c : Int))) :: E))
    (hn : 0 ≤ n ∧ n < 18446744073709551616) (hm : 0 ≤ m ∧ m < 18446744073709551616) : LA P l wb K (⟨some d, .binOp .xor t x y t', ty, pos, after, g⟩ :: rest) E := by
  obtain ⟨n, rfl⟩ : ∃ j : Nat, n = j := ⟨n.toNat, by omega⟩
  obtain ⟨m, rfl⟩ : ∃ j : Nat, m = j := ⟨m.toNat, by omega⟩
  refine chA (.inr (.inr (.inl rfl))) hg hx hy ?_
  rw [bits_xor_u64_nat n m (by omega) (by omega)]
  exact h _ (Nat.xor_lt_two_pow (n := 64) (by omega) (by omega))
theorem pyA {n : Int} {m : Nat} (hg : b5A l E g = some true) (hx : opE E x = .val (.int .u64 n)) (hy : opE E y = .val (.int .u64 (m : Int))) (h : ∀ c : Nat, c ≤ m → LA P l wb K rest ((d, .val (.int .u64 (c : Int))) :: E))
    (hn : 0 ≤ n ∧ n < 18446744073709551616) (hm : m < 18446744073709551616) : LA P l wb K (⟨some d, .binOp .and t x y t', ty, pos, after, g⟩ :: rest) E := by
  obtain ⟨n, rfl⟩ : ∃ j : Nat, n = j := ⟨n.toNat, by omega⟩
  refine chA (.inl rfl) hg hx hy ?_
  rw [bits_and_u64_nat n m (by omega) (by omega)]
  exact h _ Nat.and_le_right
end
end Go.LA
namespace Go.Sort
theorem bitsLen_div {x k : Nat} (h : 2 ^ k ≤ x) : bitsLen x = k + bitsLen (x / 2 ^ k) := by
  have hp : 0 < 2 ^ k := Nat.two_pow_pos k
  have h0 : x ≠ 0 := by omega
  have h1 : x / 2 ^ k ≠ 0 := by have := (Nat.le_div_iff_mul_le hp).2 (by omega : 1 * 2 ^ k ≤ x); omega
  apply Nat.le_antisymm
  · rw [bitsLen_le_iff, Nat.pow_add, Nat.mul_comm]
    exact (Nat.div_lt_iff_lt_mul hp).1 (lt_two_pow_bitsLen _)
  · have hk : k ≤ bitsLen x := by
      rcases Nat.lt_or_ge (bitsLen x) k with h2 | h2
      · have := lt_two_pow_bitsLen x
        have := Nat.pow_le_pow_right (n := 2) (by omega) (Nat.le_of_lt h2)
        omega
      · exact h2
    have : bitsLen (x / 2 ^ k) ≤ bitsLen x - k := by
      rw [bitsLen_le_iff, Nat.div_lt_iff_lt_mul hp, ← Nat.pow_add, Nat.sub_add_cancel hk]
      exact lt_two_pow_bitsLen x
    omega
end Go.Sort
end
section
set_option linter.unusedVariables false
namespace Go.LA
open Go.RowKit
section
variable {P : Program} {l : List Oper} {M : List Nat} {N : Nat} {ws wb : World} {K : List Oper → Env → Prop} {rest : List Oper} {E : Env} {Q : Exit → Act → World → Prop} {m : Nat} {C : World → Env → Prop}
variable {d : Tmp} {ty t t' : TypeId} {pos : String} {after : Array Edge} {g : Option (Nat × Bool)} {x y z : Operand} {k kd : IntKind}
theorem piA {w0 : World} {e e2 b n cap j base2 : Nat} {c : Int} {xs ys : List Int} {kd2 : IntKind} {v2 : Value} (hg : g = none) (he : Ext w0 wb) (ho : OwnI w0.heap.size e kd wb (.slice (some ⟨b, 0, none⟩) n cap) xs)
    (ho2 : OwnI base2 e2 kd2 wb v2 ys) (hne : e2 ≠ e)
    (hx : opE E x = .val (.pointer (some ⟨b, j, none⟩))) (hy : opE E y = .val (.int kd c)) (hj : j < xs.length) (hs : ∀ w, (sizeOf t).run P w = .ok 1 w)
    (h : ∀ w', Ext w0 w' → OwnI w0.heap.size e kd w' (.slice (some ⟨b, 0, none⟩) n cap) (xs.set j c) → OwnI base2 e2 kd2 w' v2 ys → LX P N w' l Q rest (vals E)) : LX P N wb l Q (⟨none, .store t x y, ty, pos, after, g⟩ :: rest) E := by
  obtain ⟨b', cap', cur, hv, hb0, hb, hnc, hcm, hsz, hcur⟩ := ho.row (by omega)
  cases hv
  exact deA hg hx hy hb hs (by omega) rfl rfl (fun w hw => h _ ((he.trans hw).setRow hb0 _) (OwnI.set hb0 (hw.block hb) hnc hcm hsz hcur j hj c) ((ho2.ext hw).keepRow (hw.block hb) hne))
theorem c5A {c c' : Value} (hg : b5A l E g = some true) (hx : opE E x = .val (.tuple #[c, c'])) (h : LA P l wb K rest ((d, .val c) :: E)) : LA P l wb K (⟨some d, .extract x 0, ty, pos, after, g⟩ :: rest) E :=
  b0A _ hg (bcA fun a w he hh => by
    have e1 := hh x (by simp [Op.operands]); rw [hx] at e1; simp only [AD.ok] at e1
    simp [execOp, e1, Instr.extract]) h
theorem c4A {c c' : Value} (hg : b5A l E g = some true) (hx : opE E x = .val (.tuple #[c, c'])) (h : LA P l wb K rest ((d, .val c') :: E)) : LA P l wb K (⟨some d, .extract x 1, ty, pos, after, g⟩ :: rest) E :=
  b0A _ hg (bcA fun a w he hh => by
    have e1 := hh x (by simp [Op.operands]); rw [hx] at e1; simp only [AD.ok] at e1
    simp [execOp, e1, Instr.extract]) h
theorem vrA {e : TypeId} {z0 : Value} (hg : g = none) (hd : d < N) (hz : ∀ w, (zeroValue e).run P w = .ok z0 w)
    (h : ∀ b w', Ext wb w' → wb.heap.size ≤ b → w'.heap[b]? = some (.cells z0.cells e (0, 0)) → LX P N w' l Q rest ((d, .val (.pointer (some ⟨b, 0, none⟩))) :: E)) :
    LX P N wb l Q (⟨some d, .alloc e, ty, pos, after, g⟩ :: rest) E := by
  unfold LX
  intro a w st
  have ra : (Instr.alloc e true (.tuple #[])).run P w = .ok (.pointer (some ⟨w.heap.size, 0, none⟩)) (w.alloc (.cells z0.cells e)) := by
    simp only [Instr.alloc, Sem.run_bind, hz, Result.andThen_ok]
    rfl
  refine wpList_plain hg fun Kc hK => ?_
  unfold Oper.wp
  simp only [execOp, Sem.run_bind, ra, Result.andThen_ok, Sem.run_pure, Oper.upon]
  refine hK _ _ ?_
  have st1 : St N wb ((d, .val (.pointer (some ⟨w.heap.size, 0, none⟩))) :: E) (a.put (some d) (.pointer (some ⟨w.heap.size, 0, none⟩))) (w.alloc (.cells z0.cells e)) :=
    st.push (Ext.alloc _ _) (dst := some d) (r := .val _) (fun d' hd' => by cases hd'; exact hd) (.inr rfl)
  have h2 := h w.heap.size (w.alloc (.cells z0.cells e)) (st.ext.trans (Ext.alloc _ _)) st.ext.size (heap_alloc_new w _)
  unfold LX at h2
  exact h2 _ _ ⟨st1.sz, st1.df, Ext.refl _, st1.sat⟩
theorem gkA {f : FuncId} {ats : Array TypeId} {fv : Operand} {q q5 : Operand} {v1 v2 v3 v4 v5 : Value} (hg : g = none) (hd : d < N) (hfv : opE E fv = .val (.func (.func f) #[] #[])) (hv1 : opE E x = .val v1) (hv2 : opE E y = .val v2) (hv3 : opE E z = .val v3) (hv4 : opE E q = .val v4) (hv5 : opE E q5 = .val v5) (R : Value → World → Prop)
    (hc : ∀ w, Ext wb w → Fc P f #[v1, v2, v3, v4, v5] w (fun e w' => ∃ v, e = .returned v ∧ R v w')) (h : ∀ v w, R v w → LX P N w l Q rest ((d, .val v) :: vals E)) :
    LX P N wb l Q (⟨some d, .call ⟨.value fv, #[x, y, z, q, q5], ats⟩, ty, pos, after, g⟩ :: rest) E := by
  unfold LX
  intro a w st
  have h0 := st.opd fv; rw [hfv] at h0; simp only [AD.ok] at h0
  have ev1 := st.opd x; rw [hv1] at ev1; simp only [AD.ok] at ev1
  have ev2 := st.opd y; rw [hv2] at ev2; simp only [AD.ok] at ev2
  have ev3 := st.opd z; rw [hv3] at ev3; simp only [AD.ok] at ev3
  have ev4 := st.opd q; rw [hv4] at ev4; simp only [AD.ok] at ev4
  have ev5 := st.opd q5; rw [hv5] at ev5; simp only [AD.ok] at ev5
  have hcc := hc w st.ext
  refine wpList_plain hg fun Kc hK => ?_
  unfold Oper.wp
  rw [c2A h0 (Fc.run hcc _ _)]
  simp only [Oper.upon, List.map_toArray, List.map_cons, List.map_nil, ev1, ev2, ev3, ev4, ev5]
  refine hcc.calls.mono ?_
  rintro e w' ⟨v, rfl, hv⟩
  refine hK _ _ ?_
  have h2 := h v w' hv
  unfold LX at h2
  exact h2 _ _ ((st.vals (w' := w')).push (Ext.refl _) (dst := some d) (r := .val v) (fun d' hd' => by cases hd'; exact hd) (.inr rfl))
end
end Go.LA
end
section
set_option linter.unusedSimpArgs false
set_option linter.unusedVariables false
set_option maxRecDepth 3000
namespace Go.Proofs.YtfcioiobhpcngaaGreatDoor
open Go.LA Go.ArrP Go.RowKit
variable {A B : Nat → Prop}
def rng (p : Nat → Bool) (lo hi y : Nat) : Bool := p y || (decide (lo ≤ y) && decide (y < hi))
theorem icA (p : Nat → Bool) {lo hi : Nat} (h : hi ≤ lo) : rng p lo hi = p := by
  funext y; unfold rng
  by_cases h1 : lo ≤ y
  · rw [decide_eq_false (show ¬ y < hi by omega), Bool.and_false, Bool.or_false]
  · rw [decide_eq_false h1, Bool.false_and, Bool.or_false]
theorem trA (p : Nat → Bool) {lo0 lo e k : Nat} (h0 : lo0 ≤ lo) (h1 : lo < e) (hk1 : k * 65536 ≤ lo) (hk2 : e ≤ (k + 1) * 65536) {a c : Int} (ha : a = (lo : Int) - (k : Int) * 65536) (hc : c = (e : Int) - (k : Int) * 65536) :
    upd (rng p lo0 lo) k (two (fun x y => x || y) (blk (rng p lo0 lo) k) (flp (fun _ => false) a c)) = rng p lo0 e := by
  funext y
  have hdm := Nat.div_add_mod y 65536
  have hml := Nat.mod_lt y (show 0 < 65536 by decide)
  unfold upd
  by_cases hy : y / 65536 = k
  · rw [if_pos hy]
    have hyy : k * 65536 + y % 65536 = y := by rw [← hy, Nat.mul_comm]; exact hdm
    have h2 : blk (rng p lo0 lo) k (y % 65536) = rng p lo0 lo y := by rw [cjA hml, hyy]
    have h3 : flp (fun _ => false) a c (y % 65536) = (decide (lo ≤ y) && decide (y < e)) := by
      unfold flp two fxA d9A
      rw [decide_eq_true hml, Bool.and_true]
      have e1 : decide (a ≤ ((y % 65536 : Nat) : Int)) = decide (lo ≤ y) := decide_eq_decide.2 (by omega)
      have e2 : decide (((y % 65536 : Nat) : Int) < c) = decide (y < e) := decide_eq_decide.2 (by omega)
      rw [e1, e2]
      cases decide (lo ≤ y) <;> cases decide (y < e) <;> rfl
    show (blk (rng p lo0 lo) k (y % 65536) || flp (fun _ => false) a c (y % 65536)) = _
    rw [h2, h3]
    unfold rng
    rw [Bool.or_assoc]
    congr 1
    rw [Bool.eq_iff_iff]
    simp only [Bool.or_eq_true, Bool.and_eq_true, decide_eq_true_eq]
    omega
  · rw [if_neg hy]
    unfold rng
    congr 1
    rw [Bool.eq_iff_iff]
    simp only [Bool.and_eq_true, decide_eq_true_eq]
    have hks := fnA k
    omega
theorem v5A {p : Nat → Bool} {lo hi : Int} {i : Nat} (h1 : lo ≤ (i : Int)) (h2 : (i : Int) < hi) (h3 : i < 65536) : flp p lo hi i = !p i := by
  unfold flp two fxA d9A
  rw [decide_eq_true h1, decide_eq_true h2, decide_eq_true h3]
  cases p i <;> rfl
theorem vbA {q : Nat → Bool} {r n : Nat} (h : r < n) (hr : q r = true) : 0 < cnt q n := by
  have h1 : cnt q (r + 1) = cnt q r + 1 := by simp only [cnt, hr, if_true]
  have h2 := cnt_mono q (m := r + 1) n h
  omega
theorem RS.fsh {w : World} {b : Nat} {kv lv : Value} {p : Nat → Bool} (h : RS A w b kv lv p) (hA : Fsh A w) : Fsh (fun k => A k ∧ kv.ownBlock ≠ some k) w := fun k hk => ⟨hA k hk, fun hb => by have := h.lt (.inr (.inl hb)); omega⟩
theorem RS.nset {w : World} {b : Nat} {kv lv : Value} {p : Nat → Bool} (h : RS A w b kv lv p) : NSet TT (fun k => A k ∧ kv.ownBlock ≠ some k) w (.pointer (some ⟨b, 0, none⟩)) p := .inr ⟨b, kv, lv, rfl, h.self, fun _ _ => trivial⟩
theorem Mut.from {w w1 w' : World} {b : Nat} {kv lv : Value} {p' : Nat → Bool} (e : Ext w w1) (h : Mut A w1 b kv lv p' w') : Mut A w b kv lv p' w' := by
  obtain ⟨kv', lv', h1, h2, h3, h4⟩ := h
  exact ⟨kv', lv', h1, (Fr.of e).trans h2, h3.le e.size, h4.le e.size⟩
theorem Mut.ext {w w1 w' : World} {b : Nat} {kv lv : Value} {p' : Nat → Bool} (h : Mut A w b kv lv p' w1) (e : Ext w1 w') : Mut A w b kv lv p' w' := by
  obtain ⟨kv', lv', h1, h2, h3, h4⟩ := h
  exact ⟨kv', lv', h1.ext e, h2.trans (Fr.of e), h3, h4⟩
theorem ijA {w : World} {b : Nat} {kv lv kv' lv' : Value} {base : Nat} (hb : ∀ k, onw b kv lv k → base ≤ k) (hs : base ≤ w.heap.size) (h1 : LocR w kv kv') (h2 : LocR w lv lv') (k : Nat) (hk : onw b kv' lv' k) : base ≤ k := by
  rcases hk with rfl | hk | hk
  · exact hb _ (.inl rfl)
  · exact h1.ge (fun k hk => hb k (.inr (.inl hk))) hs k hk
  · exact h2.ge (fun k hk => hb k (.inr (.inr hk))) hs k hk
theorem Mut.then {w w1 w' : World} {b : Nat} {kv lv kv1 lv1 : Value} {p' : Nat → Bool} (hf : Fr (onw b kv lv) w w1) (h1 : LocR w kv kv1) (h2 : LocR w lv lv1) (h : Mut A w1 b kv1 lv1 p' w') : Mut A w b kv lv p' w' := by
  obtain ⟨kv', lv', g1, g2, g3, g4⟩ := h
  refine ⟨kv', lv', g1, ⟨g2.os.trans hf.os, g2.tape.trans hf.tape, g2.output.trans hf.output, Nat.le_trans hf.size g2.size, fun k hk hn => ?_⟩, h1.trans g3 hf.size, h2.trans g4 hf.size⟩
  rw [g2.block k (Nat.lt_of_lt_of_le hk hf.size) (fun h => hn ?_), hf.block k hk hn]
  rcases h with h | h | h
  · exact .inl h
  · rcases h1 with h1 | h1
    · exact .inr (.inl (h1 ▸ h))
    · have := h1 k h; omega
  · rcases h2 with h2 | h2
    · exact .inr (.inr (h2 ▸ h))
    · have := h2 k h; omega
set_option maxHeartbeats 1000000 in
theorem g1A {w0 w : World} {b : Nat} {kv lv : Value} {p : Nat → Bool} (h0 : Ext w0 w) (hT : Tab w0) (hB : ∀ k, onw b kv lv k → w0.heap.size ≤ k) (hS : RS A w b kv lv p) (hA : Fsh A w) {lo hi : Nat} (hlo : lo < 18446744073709551616) (hhi : hi < 18446744073709551616) :
    Fc Tryz.prog 12 #[.pointer (some ⟨b, 0, none⟩), .int .u64 lo, .int .u64 hi] w (fun en w' => en = .returned (.tuple #[]) ∧ Mut A w b kv lv (rng p lo (min hi TOP)) w') := by
  have htop := dwA
  obtain ⟨H, hH⟩ : ∃ H, H = min hi TOP := ⟨_, rfl⟩
  have hH2 : min (hi : Int) 4294967296 = (H : Int) := by omega
  have hH3 : H ≤ 4294967296 := by omega
  rw [← hH]
  clear hH htop
  refine Fc.of (args := [_, _, _]) Tryz.func12 rfl rfl Tryz.ntmps12 (Nat.le_of_ble_eq_true rfl) ?_
  repeat' (first|(refine oLA ?_;first|refine a0A rfl ?_|(refine cmA rfl rfl rfl ?_; rw [hH2])|refine wOp ?_|(refine wCm ?_ ?_<;>intro hc)|(refine wNl hK ?_;clear hK K))|refine wG ?_|(refine wCR ?_;intro K hK)|fail)
  refine ahA (ι := Nat) (fun i => [(0, .val (.pointer (some ⟨b, 0, none⟩))), (1, .val (.int .u64 i)), (2, .val (.int .u64 H))]) (fun i w' => lo ≤ i ∧ (i = lo ∨ i ≤ H) ∧ Mut A w b kv lv (rng p lo i) w') (fun i => H - i)
    (fun w2 e2 => ⟨lo, ⟨Nat.le_refl _, .inl rfl, by rw [icA p (Nat.le_refl _)]; exact ⟨kv, lv, hS.ext e2, Fr.of e2, LocR.refl, LocR.refl⟩⟩, (by repeat' (first | exact Sub.nil | refine Sub.val rfl (by first | with_reducible rfl | (congr 1; omega)) ?_ | refine Sub.same rfl ?_))⟩) ?_
  rintro i w1 ⟨hi0, hi1, kv1, lv1, hS1, hF1, hl1, hl2⟩
  have hB1 := ijA hB h0.size hl1 hl2
  have h01 : Ext w0 w1 := Fr.ext h0 hF1 hB
  have hA1 : Fsh A w1 := fun k hk => hA k (Nat.le_trans hF1.size hk)
  have hF := hS1.fsh hA1
  have hT1 := hT.ext h01
  by_cases hlt : i < H
  · obtain ⟨k, hk⟩ : ∃ k, k = i / 65536 := ⟨_, rfl⟩
    obtain ⟨e0, he0⟩ : ∃ e0, e0 = min H ((k + 1) * 65536) := ⟨_, rfl⟩
    have hks := fnA k
    have k1 : k * 65536 ≤ i := by omega
    have k2 : i < k * 65536 + 65536 := by omega
    have k3 : k < 65536 := by omega
    have e1 : (i : Int) / 65536 = (k : Int) := by omega
    have e3 : IntKind.u64.wrap ((((i : Int) / 65536) + 1) * 65536) = ((k * 65536 + 65536 : Nat) : Int) := by rw [e1, ddA .u64 _ (by dsimp only [fits]; omega)]; omega
    have e4 : IntKind.u64.wrap ((k : Int) * 65536) = ((k * 65536 : Nat) : Int) := by rw [ddA .u64 _ (by dsimp only [fits]; omega)]; omega
    have e5 : min (H : Int) ((k * 65536 + 65536 : Nat) : Int) = (e0 : Int) := by omega
    have hup := trA p (lo0 := lo) (lo := i) (e := e0) (k := k) hi0 (by omega) k1 (by omega) (a := (i : Int) - ((k * 65536 : Nat) : Int)) (c := (e0 : Int) - ((k * 65536 : Nat) : Int)) (by omega) (by omega)
    obtain ⟨g, hg⟩ : ∃ g, g = flp (fun _ => false) ((i : Int) - ((k * 65536 : Nat) : Int)) ((e0 : Int) - ((k * 65536 : Nat) : Int)) := ⟨_, rfl⟩
    obtain ⟨q, hq⟩ : ∃ q, q = two (fun x y => x || y) (blk (rng p lo i) k) g := ⟨_, rfl⟩
    rw [← hg, ← hq] at hup
    have f1 : ∀ w', Ext w1 w' → ∀ u, Cn (fun k => A k ∧ kv1.ownBlock ≠ some k) w' u (fun _ => false) 1 → Fc Tryz.prog 49 #[u, .int .i64 ((i : Int) - ((k * 65536 : Nat) : Int)), .int .i64 ((e0 : Int) - ((k * 65536 : Nat) : Int))] w' (Ret w' (.pred (cnP (fun k => A k ∧ kv1.ownBlock ≠ some k) g (aqA g)))) :=
      fun w' e u hu => by rw [hg]; exact xaA hu (hT1.ext e) (hF.ext e) _ _ (by omega) (by omega)
    have f2 : ∀ w', Ext w1 w' → ∀ u v, Cn (fun k => A k ∧ kv1.ownBlock ≠ some k) w' u (blk (rng p lo i) k) (aqA (blk (rng p lo i) k)) → Cn (fun k => A k ∧ kv1.ownBlock ≠ some k) w' v g (aqA g) → Fc Tryz.prog 48 #[u, v] w' (Ret w' (.pred (cnP (fun k => A k ∧ kv1.ownBlock ≠ some k) q (aqA q)))) :=
      fun w' e u v hu hv => by rw [hq]; exact cor_c hu hv (hT1.ext e) (hF.ext e)
    have hq1 : ∀ i, 65536 ≤ i → q i = false := fun j hj => by
      rw [hq, hg]; unfold two flp two fxA d9A
      rw [doA (by omega), decide_eq_false (show ¬ j < 65536 by omega), Bool.and_false]; rfl
    have hq2 : 0 < cnt q 65536 := by
      refine vbA (r := i - k * 65536) (by omega) ?_
      rw [hq, hg]; unfold two
      rw [v5A (by omega) (by omega) (by omega)]; simp
    have f3 : ∀ w', Ext w1 w' → ∀ u, Cn (fun k => A k ∧ kv1.ownBlock ≠ some k) w' u q (aqA q) → _ := fun w' (e : Ext w1 w') u hu => put_s (hS1.ext e) (vc := u) k3 hu hq1 hq2
    rw [hup] at f3
    clear hg hup hq hq1 hq2
    repeat' (first|(refine oLA ?_;first|refine a0A rfl ?_|(refine oEq ?_; refine c9A (c := .bool true) rfl rfl rfl (fun _ => rfl) ?_)|(refine oB .shr ?_; refine ejA rfl rfl rfl (by decide) (by decide) ?_; rw [show (2 : Int) ^ Int.toNat 16 = 65536 by decide])|(refine oD 23 ?_; refine hbA rfl rfl rfl (by decide) (by decide) ?_; rw [show (2 : Int) ^ Int.toNat 16 = 65536 by decide, e3])|(refine oD 30 ?_; refine hbA rfl rfl rfl (by decide) (by decide) ?_; rw [show (2 : Int) ^ Int.toNat 16 = 65536 by decide, e1, e4])|(refine oD 27 ?_; rw [e1]; refine mhA (n := (k : Int)) rfl rfl rfl rfl (by dsimp only [fits]; omega) ?_)|(refine cmA rfl rfl rfl ?_; rw [e5])|(refine oAl ?_; refine a4A (hK _ _ (vrA rfl (by decide) (fun _ => rfl) (fun b9 w9 x9 hb9 h9 => ?_))); clear hK K; have c9 : Cn (fun k => A k ∧ kv1.ownBlock ≠ some k) w9 (.agg #[.int .u8 0, nilS, nilS, nilS]) (fun _ => false) 1 := Cn.zero; refine amA (by kernel_rfl) (fun K hK => ?_))|(refine oLd ?_; refine cvA (n := 4) rfl h9 rfl rfl (fun _ => rfl) (fun _ => rfl) ?_)|(refine oC 46 ?_; refine a4A (hK _ _ rfl (byA 46 rfl (fun v17 w17 e17 h17 => c1A rfl (by decide) rfl rfl rfl rfl (fun v w' => v = .tuple #[] ∧ Mut A w b kv lv (rng p lo e0) w') (fun w8 e8 => (f3 _ (x9.trans (e17.trans e8)) _ (Cn.ext h17 e8)).mono fun en w' h => ⟨_, h.1, rfl, (h.2.from (x9.trans (e17.trans e8))).then hF1 hl1 hl2⟩) (fun v w2 hm => ?_)))); clear hK K; obtain ⟨rfl, hm⟩ := hm)|refine wOp ?_|(refine wCm ?_ ?_<;>intro hc)|(refine oCv ?_;first|(refine oC 47 ?_; refine a3A (f := 47) rfl rfl rfl rfl  (.pred (cnP (fun k => A k ∧ kv1.ownBlock ≠ some k) (blk (rng p lo i) k) (aqA (blk (rng p lo i) k)))) (by intro u1 u2 w e hu1 hu2; (try obtain rfl : u1 = _ := hu1); (try obtain rfl : u2 = _ := hu2); exact r9A (hS1.ext (x9.trans e)).nset k3) ?_)|(refine oC 49 ?_; refine bhA (f := 49) rfl rfl rfl rfl rfl  (.pred (cnP (fun k => A k ∧ kv1.ownBlock ≠ some k) g (aqA g))) (by intro u1 u2 u3 w e hu1 hu2 hu3; (try obtain rfl : u1 = _ := hu1); (try obtain rfl : u2 = _ := hu2); (try obtain rfl : u3 = _ := hu3); exact f1 _ (x9.trans e) _ (c9.ext e)) ?_)|(refine oC 48 ?_; refine a3A (f := 48) rfl rfl rfl rfl  (.pred (cnP (fun k => A k ∧ kv1.ownBlock ≠ some k) q (aqA q))) (by intro u1 u2 w e hu1 hu2; (try obtain rfl : u1 = _ := hu1); (try obtain rfl : u2 = _ := hu2); exact f2 _ (x9.trans e) _ _ hu1 hu2) ?_))|(refine wNl hK ?_;clear hK K))|(refine oCX ?_;first|refine brA 16 (by kernel_rfl) (by kernel_rfl) (by kernel_rfl) (fun K hK => ?_))|refine wG ?_|(refine wCR ?_;intro K hK)|fail)
    all_goals skip
    exact a7A e0 (fun w5 e5 => ⟨by omega, by omega, hm.ext e5⟩) (by omega) (by repeat' (first | exact Sub.nil | refine Sub.val rfl (by first | with_reducible rfl | (congr 1; omega)) ?_ | refine Sub.same rfl ?_))
  · have hmut : Mut A w b kv lv (rng p lo H) w1 := by
      by_cases e : i = H
      · exact e ▸ ⟨kv1, lv1, hS1, hF1, hl1, hl2⟩
      · have : i = lo := by omega
        rw [show rng p lo H = rng p lo i by rw [icA p (show H ≤ lo by omega), icA p (show i ≤ lo by omega)]]
        exact ⟨kv1, lv1, hS1, hF1, hl1, hl2⟩
    repeat' (first|(refine oLA ?_;first|refine a0A rfl ?_|(refine oEq ?_; refine c9A (c := .bool true) rfl rfl rfl (fun _ => rfl) ?_)|refine wOp ?_|(refine wCm ?_ ?_<;>intro hc)|(refine wNl hK ?_;clear hK K))|refine wG ?_|(refine wCR ?_;intro K hK)|fail)
    all_goals skip
    exact b2A rfl (fun w5 e5 => ⟨rfl, hmut.ext e5⟩) (.inl rfl)
end Go.Proofs.YtfcioiobhpcngaaGreatDoor
end
section
set_option linter.unusedSimpArgs false
set_option linter.unusedVariables false
namespace Go.Proofs.YtfcioiobhpcngaaGreatDoor
open Go.LA Go.ArrP Go.RowKit
variable {A B : Nat → Prop}
def RowCn (base : Nat) (A : Nat → Prop) (p : Nat → Bool) (kk : Int) (v : Value) (w : World) : Prop := ∃ qc : Qd, Own base tC 4 w v 1 (qcs qc) ∧ Cn A w (qv qc) p kk ∧ ∀ u ∈ qcs qc, u.oneCell' = true
def u5A (base : Nat) (A : Nat → Prop) (p : Nat → Bool) (kk : Int) : AV := ⟨fun v w => RowCn base A p kk v w, fun _ _ _ e ⟨qc, h1, h2, h3⟩ => ⟨qc, h1.ext e, h2.ext e, h3⟩⟩
section
variable {P : Program} {l : List Oper} {N : Nat} {wb : World} {K : List Oper → Env → Prop} {rest : List Oper} {E : Env} {Q : Exit → Act → World → Prop}
variable {d : Tmp} {ty t : TypeId} {pos : String} {after : Array Edge} {g : Option (Nat × Bool)} {x y z : Operand}
theorem j1A {z0 : Value} {b base : Nat} {r : AD} {p : Nat → Bool} {kk : Int} (hbase : base ≤ wb.heap.size) (hg : b5A l E g = some true) (hel : El P t tC z0 4 b) (hx : opE E x = r) (hr : ∀ v w, Ext wb w → r.ok v w → Cn A w v p kk) (h : LA P l wb K rest ((d, .pred (u5A base A p kk)) :: E)) :
    LA P l wb K (⟨some d, .buildSlice t 1 #[(0, x)], ty, pos, after, g⟩ :: rest) E := by
  refine b0A (.pred (u5A base A p kk)) hg (fun a w he hh => ?_) h
  have h1 := hh x (by simp [Op.operands])
  rw [hx] at h1
  have hcn := hr _ _ he h1
  obtain ⟨qc, hqc, h1c⟩ := hcn.qd
  have hc : (a.eval x).cells = (qcs qc).toArray := by rw [hqc]; rfl
  have hcz : (a.eval x).cells.size = 4 := by rw [hc]; rfl
  have hrun : (Instr.buildSlice t 1 #[(0, a.eval x)]).run P w = .ok (.slice (some ⟨w.heap.size, 0, none⟩) 1 1) (w.alloc (.cells (a.eval x).cells tC)) := by
    have hf := h4A (c := a.eval x) (z := z0.cells) (s := 4) hcz
    simp only [Instr.buildSlice, Sem.run_bind, run_underlying hel.ht, Result.andThen_ok, hel.sizeOf, Nat.one_mul, gt_iff_lt, show ¬ (2 ^ 24 < 4) by omega, if_false, show ¬ (4 = 0) by omega, Sem.run_pure, hel.zero]
    simp only [Nat.one_mul] at hf
    rw [hf]
    rfl
  simp only [execOp, List.map_toArray, List.map_cons, List.map_nil, Sem.run_bind, hrun, Result.andThen_ok, Sem.run_pure]
  have x1 : Ext w (w.alloc (.cells (a.eval x).cells tC)) := Ext.alloc _ _
  refine ⟨x1, qc, ⟨by simp [qcs], .inr ⟨w.heap.size, 1, (a.eval x).cells, rfl, Nat.le_trans hbase he.size, heap_alloc_new w _, Nat.le_refl _, by decide, by rw [hcz], ?_⟩⟩, (hqc ▸ hcn).ext x1, h1c⟩
  rw [hc]; rfl
end
theorem RowCn.fr {base : Nat} {A R : Nat → Prop} {p : Nat → Bool} {kk : Int} {v : Value} {w w' : World} (h : RowCn base A p kk v w) (hf : Fr R w w') (hR : Plain A R w) (hb : ∀ k, base ≤ k → ¬ R k) : RowCn base A p kk v w' := by
  obtain ⟨qc, h1, h2, h3⟩ := h
  exact ⟨qc, hf.own h1 (fun k hk => hb k (Own.lt h1 k hk).1), h2.fr hf hR, h3⟩
theorem RS.app {w w' : World} {b : Nat} {kv lv kv' lv' : Value} {p : Nat → Bool} (hS : RS A w b kv lv p) {k : Nat} (hk : k < 65536) (hlast : ∀ j, k ≤ j → ne p j = false) {q : Nat → Bool} (hq : ∀ i, 65536 ≤ i → q i = false) (hq0 : 0 < cnt q 65536) {Q : List Qd} {qc : Qd} (q1 : Q.length = nk p)
    (q3 : ∀ i, i < nk p → Cn (fun k => A k ∧ kv.ownBlock ≠ some k) w (qv (Q.getD i q0)) (blk p (kp p i)) (aqA (blk p (kp p i)))) (hc : Cn (fun j => A j ∧ kv'.ownBlock ≠ some j) w' (qv qc) q (aqA q))
    (hf : Fr (onw b kv lv) w w') (hb : w'.heap[b]? = some (.cells #[kv', lv'] tS (0, 0))) (hkk : OwnI 0 tK .u16 w' kv' (b3A p ++ [(k : Int)])) (hl : Own 0 tC 4 w' lv' (nk p + 1) (b9A Q ++ qcs qc)) (hk1 : LocR w kv kv') (hl1 : LocR w lv lv') : Mut A w b kv lv (upd p k q) w' := by
  have hn := hlast k (Nat.le_refl _)
  have hcn : cnt (ne p) k = nk p := (ghA 65536 (Nat.le_of_lt hk) (fun x h1 _ => hlast x h1)).symm
  have hkeys := gnA p hk hq hq0 hn
  have hkl := bnA p
  have hnk := neA p hk hq hq0 hn
  rw [hcn, List.take_of_length_le (by omega), List.drop_of_length_le (by omega), List.append_nil] at hkeys
  have hcells : b9A (Q ++ [qc]) = b9A Q ++ qcs qc := by rw [diA]; rfl
  refine ⟨kv', lv', ⟨hb, by rw [hkeys]; exact hkk, k2A hS.top hk, Q ++ [qc], by rw [List.length_append, List.length_singleton, q1, hnk], by rw [hnk, hcells]; exact hl, fun i hi => ?_⟩, hf, hk1, hl1⟩
  rw [hnk] at hi
  rw [svA p hk hq hq0 hn hi, hcn]
  have hne : ∀ j, j < nk p → kp p j ≠ k := fun j hj h => by
    have := (jnA hj).2.1
    rw [h, hn] at this; cases this
  split
  · rename_i h1
    rw [fjA p q (hne i h1), etA (by omega)]
    refine Cn.fr ((q3 i h1).mono (A' := fun k => A k ∧ kv'.ownBlock ≠ some k ∧ kv.ownBlock ≠ some k) fun j hlt ha => ⟨ha.1, fun h => ?_, ha.2⟩) hf (hS.plainA fun k h1 h2 => h2.2.2 h1) |>.mono fun k _ h => ⟨h.1, h.2.1⟩
    rcases hk1 with h' | h'
    · exact ha.2 (h' ▸ h)
    · have := h' j h; omega
  · have hi' : i = nk p := by omega
    rw [if_pos hi', i5A p k hq, dnA (by omega), show i - Q.length = 0 by omega]
    exact hc
theorem Cn.loc {w w1 w' : World} {kv kv' v : Value} {p : Nat → Bool} {kk : Int} (hl : LocR w1 kv kv') (hs : w.heap.size ≤ w1.heap.size) (h : Cn (fun j => A j ∧ kv.ownBlock ≠ some j ∧ j < w.heap.size) w' v p kk) : Cn (fun j => A j ∧ kv'.ownBlock ≠ some j) w' v p kk :=
  h.mono fun j _ ha => ⟨ha.1, fun h => by
    rcases hl with h' | h'
    · exact ha.2.1 (h' ▸ h)
    · have h9 := h' j h
      have h10 := ha.2.2
      omega⟩
theorem Cn.loc3 {w w1 w' : World} {kv kv' v : Value} {p : Nat → Bool} {kk : Int} (hl : LocR w1 kv kv') (hs : w.heap.size ≤ w1.heap.size) (h : Cn (fun j => A j ∧ kv.ownBlock ≠ some j ∧ j < w.heap.size) w' v p kk) : Cn (fun j => A j ∧ kv.ownBlock ≠ some j ∧ kv'.ownBlock ≠ some j) w' v p kk :=
  h.mono fun j _ ha => ⟨ha.1, ha.2.1, fun h => by
    rcases hl with h' | h'
    · exact ha.2.1 (h' ▸ h)
    · have h9 := h' j h
      have h10 := ha.2.2
      omega⟩
end Go.Proofs.YtfcioiobhpcngaaGreatDoor
end
section
set_option linter.unusedSimpArgs false
set_option linter.unusedVariables false
namespace Go.LA
open Go.RowKit
def spV (k : IntKind) (x : Sp) : Value := .agg #[.int k x.1, .int k x.2]
def ciA (k : IntKind) : List Sp → List Value
  | [] => []
  | x :: r => .int k x.1 :: .int k x.2 :: ciA k r
variable {k : IntKind}
theorem g0A : ∀ a b, ciA k (a ++ b) = ciA k a ++ ciA k b
  | [], b => rfl
  | x :: a, b => by simp only [List.cons_append, ciA, g0A a b]
theorem i0A : ∀ a, (ciA k a).length = a.length * 2
  | [] => rfl
  | x :: a => by simp only [ciA, List.length_cons, i0A a]; omega
theorem jvA : ∀ (a : List Sp) (j : Nat), j < a.length → ((ciA k a).drop (j * 2)).take 2 = [.int k (a.getD j (0, 0)).1, .int k (a.getD j (0, 0)).2]
  | [], j, h => by simp at h
  | x :: a, 0, _ => rfl
  | x :: a, j + 1, h => by
    have ih := jvA a j (by simpa using h)
    rw [show (j + 1) * 2 = j * 2 + 1 + 1 by omega]
    exact ih
theorem h6A : ∀ (a : List Sp) (j : Nat) (c : Int), (ciA k a).set (j * 2 + 1) (.int k c) = ciA k (a.set j ((a.getD j (0, 0)).1, c))
  | [], j, c => by simp [ciA]
  | x :: a, 0, c => rfl
  | x :: a, j + 1, c => by
    rw [show (j + 1) * 2 + 1 = j * 2 + 1 + 1 + 1 by omega]
    simp only [ciA, List.set_cons_succ, h6A a j c, List.getD_cons_succ]
def SlP (k : IntKind) (w : World) (v : Value) (rs : List Sp) : Prop := SlC w v rs.length 2 (ciA k rs)
theorem SlP.ext {w w' : World} {v : Value} {rs : List Sp} (h : SlP k w v rs) (e : Ext w w') : SlP k w' v rs := SlC.ext h e
theorem SlP.len {w : World} {v : Value} {rs : List Sp} (h : SlP k w v rs) : rs.length ≤ 9223372036854775807 := SlC.len h
def OwnP (base e : Nat) (k : IntKind) (w : World) (v : Value) (rs : List Sp) : Prop := Own base e 2 w v rs.length (ciA k rs)
theorem OwnP.ext {base e : Nat} {w w' : World} {v : Value} {rs : List Sp} (h : OwnP base e k w v rs) (x : Ext w w') : OwnP base e k w' v rs := Own.ext h x
theorem OwnP.slP {base e : Nat} {w : World} {v : Value} {rs : List Sp} (h : OwnP base e k w v rs) : SlP k w v rs := Own.slC h
theorem OwnP.nil {base e : Nat} {w : World} : OwnP base e k w (.slice none 0 0) [] := Own.nil
def lkA (base e : Nat) (k : IntKind) (rs : List Sp) : AV := ⟨fun v w => OwnP base e k w v rs, fun _ _ _ x h => h.ext x⟩
theorem d2A {w : World} {base base' e : Nat} {rs rs' : List Sp} (hb : base' ≤ base) (hr : rs = rs') (en : Ending) (w' : World) (h : Ret w (.pred (lkA base e k rs)) en w') : Ret w (.pred (lkA base' e k rs')) en w' := by
  obtain ⟨v, h1, h2, h3⟩ := h
  exact ⟨v, h1, h2, hr ▸ Own.base h3 hb⟩
def HasP (wb : World) (r : AD) (k : IntKind) (rs : List Sp) : Prop := HasC wb r rs.length 2 (ciA k rs)
theorem HasP.val {wb : World} {u : Value} {rs : List Sp} (h : SlP k wb u rs) : HasP wb (.val u) k rs := HasC.val h
theorem HasP.ownV {wb : World} {base e : Nat} {u : Value} {rs : List Sp} (h : OwnP base e k wb u rs) : HasP wb (.val u) k rs := HasC.ownV h
theorem HasP.own {wb : World} {base e : Nat} {rs : List Sp} : HasP wb (.pred (lkA base e k rs)) k rs := HasC.own
section
variable {P : Program} {l : List Oper} {N : Nat} {wb : World} {K : List Oper → Env → Prop} {rest : List Oper} {E : Env} {Q : Exit → Act → World → Prop}
variable {d : Tmp} {ty t t' : TypeId} {pos : String} {after : Array Edge} {g : Option (Nat × Bool)} {x y z : Operand} {k' : IntKind}
theorem d6A {rs : List Sp} (hg : b5A l E g = some true) (e : TypeId) (ht : P.underlying t = some (.slice e)) {r : AD} (hr : opE E x = r) (hx : HasP wb r k rs)
    (h : LA P l wb K rest ((d, .val (.int .i64 (rs.length : Int))) :: E)) : LA P l wb K (⟨some d, .call ⟨.builtin .len, #[x], #[t]⟩, ty, pos, after, g⟩ :: rest) E := bmA hg e ht hr hx h
theorem c8A {rs : List Sp} {j : Nat} (hg : b5A l E g = some true) (e : TypeId) (ht : P.underlying t = some (.slice e)) (hs : ∀ w, (sizeOf e).run P w = .ok 2 w)
    {r : AD} (hr : opE E x = r) (hx : HasP wb r k rs) (hi : opE E y = .val (.int k' ((j : Nat) : Int))) (hn : j < rs.length)
    (h : LA P l wb K rest ((d, .pred (guA [.int k (rs.getD j (0, 0)).1, .int k (rs.getD j (0, 0)).2])) :: E)) : LA P l wb K (⟨some d, .indexAddr t x y, ty, pos, after, g⟩ :: rest) E :=
  cnA hg e ht hs hr hx hi j rfl hn (by rw [jvA rs j hn]; exact h)
theorem vsA {f m f' m' : Int} {z0 : Value} {b : Nat} {e : TypeId} (hg : b5A l E g = some true) (hel : El P t e z0 2 b) (hx : opE E x = .val (spV k (f, m))) (hy : opE E y = .val (spV k (f', m'))) (h : LA P l wb K rest ((d, .pred (hpA wb.heap.size e 2 2 (ciA k [(f, m), (f', m')]))) :: E)) :
    LA P l wb K (⟨some d, .buildSlice t 2 #[(0, x), (1, y)], ty, pos, after, g⟩ :: rest) E := by
  refine b0A (.pred (hpA wb.heap.size e 2 2 (ciA k [(f, m), (f', m')]))) hg (fun a w he hh => ?_) h
  have e1 := hh x (by simp [Op.operands])
  have e2 := hh y (by simp [Op.operands])
  rw [hx] at e1; rw [hy] at e2; simp only [AD.ok] at e1 e2
  have hf : Instr.fill (fun i => some (i * 2, 2)) ((Array.range (2 * 2)).map (fun j => z0.cells[j % z0.cells.size]!)) [(0, spV k (f, m)), (1, spV k (f', m'))] = some #[.int k f, .int k m, .int k f', .int k m'] := by
    have er : Array.range (2 * 2) = #[0, 1, 2, 3] := rfl
    rw [er]; simp [Instr.fill, spV, Value.cells]
  have hrun : (Instr.buildSlice t 2 #[(0, spV k (f, m)), (1, spV k (f', m'))]).run P w = .ok (.slice (some ⟨w.heap.size, 0, none⟩) 2 2) (w.alloc (.cells #[.int k f, .int k m, .int k f', .int k m'] e)) := by
    simp only [Instr.buildSlice, Sem.run_bind, run_underlying hel.ht, Result.andThen_ok, hel.sizeOf, Nat.reduceMul, Nat.reducePow, gt_iff_lt, Nat.reduceLT, if_false, Sem.run_pure, Nat.reduceEqDiff, hel.zero]
    simp only [Nat.reduceMul] at hf
    rw [hf]
    rfl
  simp only [execOp, List.map_toArray, List.map_cons, List.map_nil, e1, e2, Sem.run_bind, hrun, Result.andThen_ok, Sem.run_pure]
  exact ⟨Ext.alloc _ _, by simp [ciA], .inr ⟨w.heap.size, 2, #[.int k f, .int k m, .int k f', .int k m'], rfl, he.size, heap_alloc_new w _, Nat.le_refl _, by decide, by simp, by simp [ciA]⟩⟩
end
theorem OwnP.row {base e : Nat} {w : World} {v : Value} {rs : List Sp} (h : OwnP base e k w v rs) (hp : 0 < rs.length) :
    ∃ b cap cur, v = .slice (some ⟨b, 0, none⟩) rs.length cap ∧ base ≤ b ∧ w.heap[b]? = some (.cells cur e (0, 0)) ∧ rs.length ≤ cap ∧ cap ≤ maxLen ∧ cur.size = cap * 2 ∧ cur.toList.take (rs.length * 2) = ciA k rs := by
  rcases h.2 with ⟨_, h0⟩ | ⟨b, cap, cur, rfl, h1, h2, h3, h4, h5, h6⟩
  · omega
  · exact ⟨b, cap, cur, rfl, h1, h2, h3, h4, h5, h6⟩
theorem OwnP.set2 {base e b cap : Nat} {w : World} {cur : Array Value} {rs : List Sp} (hb : base ≤ b) (hg : w.heap[b]? = some (.cells cur e (0, 0))) (hnc : rs.length ≤ cap) (hm : cap ≤ maxLen) (hsz : cur.size = cap * 2) (ht : cur.toList.take (rs.length * 2) = ciA k rs) (i : Nat) (c : Int) :
    OwnP base e k (w.setRow b (cur.setIfInBounds (i * 2 + 1) (.int k c))) (.slice (some ⟨b, 0, none⟩) rs.length cap) (rs.set i ((rs.getD i (0, 0)).1, c)) := by
  refine ⟨by rw [i0A], .inr ⟨b, cap, cur.setIfInBounds (i * 2 + 1) (.int k c), by rw [List.length_set], hb, setRow_heap w b cur _ e _ hg, by rw [List.length_set]; exact hnc, hm, by simpa using hsz, ?_⟩⟩
  rw [Array.toList_setIfInBounds, List.length_set, List.take_set, ht, h6A]
end Go.LA
end
section
set_option linter.unusedSimpArgs false
set_option linter.unusedVariables false
set_option maxRecDepth 3000
namespace Go.Proofs.YtfcioiobhpcngaaGreatDoor
open Go.LA Go.ArrP Go.RowKit
variable {A B : Nat → Prop}
noncomputable def spU (xs : List Sp) (y : Nat) : Bool := xs.any (fun x => decide (x.1.toNat ≤ y) && decide (y < min x.2.toNat TOP))
theorem twA (xs ys : List Sp) (y : Nat) : spU (xs ++ ys) y = (spU xs y || spU ys y) := List.any_append
theorem omA {xs : List Sp} {i : Nat} (h : i < xs.length) : xs.getD i (0, 0) ∈ xs := by
  rw [List.getD_eq_getElem?_getD, List.getElem?_eq_getElem h]; exact List.getElem_mem h
theorem mmA {xs : List Sp} {i : Nat} (h : i < xs.length) : xs.take (i + 1) = xs.take i ++ [xs.getD i (0, 0)] := by
  rw [List.getD_eq_getElem?_getD, List.getElem?_eq_getElem h, List.take_add_one, List.getElem?_eq_getElem h]; rfl
theorem qcA {xs : List Sp} {i : Nat} (h : i < xs.length) : rng (spU (xs.take i)) (xs.getD i (0, 0)).1.toNat (min (xs.getD i (0, 0)).2.toNat TOP) = spU (xs.take (i + 1)) := by
  funext y
  rw [mmA h, twA]
  unfold rng
  congr 1
  unfold spU
  rw [List.any_cons, List.any_nil, Bool.or_false]
def U64 (xs : List Sp) : Prop := ∀ x ∈ xs, 0 ≤ x.1 ∧ x.1 < 18446744073709551616 ∧ 0 ≤ x.2 ∧ x.2 < 18446744073709551616
theorem nhA {w : World} {v : Value} {xs : List Sp} (h : SlP .u64 w v xs) (hx : U64 xs) (hT : Tab w) (hB : Fsh B w) (hA : Fsh A w) : Fc Tryz.prog 14 #[v] w (Ret w (.pred (rsP B A (spU xs)))) := by
  have hlen := h.len
  refine Fc.of (args := [_]) Tryz.func14 rfl rfl Tryz.ntmps14 (Nat.le_of_ble_eq_true rfl) ?_
  repeat' (first|(refine oLA ?_;first|refine a0A rfl ?_|(refine cyA ?_; refine d6A rfl _ rfl rfl (HasP.val h) ?_)|refine wOp ?_|(refine wCm ?_ ?_<;>intro hc)|(refine oCv ?_;first|(refine oC 11 ?_; refine dcA (f := 11) rfl rfl  (.pred (rsP (fun k => w.heap.size ≤ k) A (fun _ => false))) (by intro w e; exact new_c _ (fun k hk => Nat.le_trans e.size hk)) ?_))|(refine wNl hK ?_;clear hK K))|refine wG ?_|(refine wCR ?_;intro K hK)|fail)
  refine g6A 3 rfl (fun v3 w3 e3 h3 => ?_)
  obtain ⟨b, kv3, lv3, rfl, hS3, hB3⟩ := h3
  refine ahA (ι := Nat) (fun i => [(3, .val (.pointer (some ⟨b, 0, none⟩))), (7, .val v), (8, .val (.int .i64 xs.length)), (9, .val (.int .i64 i))]) (fun i w' => i ≤ xs.length ∧ Ext w w' ∧ ∃ kv lv, RS A w' b kv lv (spU (xs.take i)) ∧ ∀ k, onw b kv lv k → w.heap.size ≤ k) (fun i => xs.length - i)
    (fun w2 e2 => ⟨0, ⟨Nat.zero_le _, e3.trans e2, kv3, lv3, hS3.ext e2, hB3⟩, (by repeat' (first | exact Sub.nil | refine Sub.val rfl (by first | with_reducible rfl | (congr 1; omega)) ?_ | refine Sub.same rfl ?_))⟩) ?_
  rintro i w1 ⟨hi, he, kv, lv, hS, hB1⟩
  have h1 := h.ext he
  by_cases hil : i < xs.length
  · obtain ⟨u1, u2, u3, u4⟩ := hx _ (omA hil)
    have hsu := qcA hil
    obtain ⟨lo, hlo⟩ : ∃ lo : Nat, (xs.getD i (0, 0)).1 = (lo : Int) := ⟨(xs.getD i (0, 0)).1.toNat, by omega⟩
    obtain ⟨hi', hhi⟩ : ∃ hi : Nat, (xs.getD i (0, 0)).2 = (hi : Int) := ⟨(xs.getD i (0, 0)).2.toNat, by omega⟩
    rw [hlo, hhi, Int.toNat_natCast, Int.toNat_natCast] at hsu
    rw [hlo] at u1 u2; rw [hhi] at u3 u4
    repeat' (first|(refine oLA ?_;first|refine a0A rfl ?_|(refine oI ?_; refine c8A rfl _ rfl (fun _ => rfl) rfl (HasP.val h1) rfl hil ?_; rw [hlo, hhi])|(refine oLt 32 ?_; refine anA (cs := [.int .u64 lo, .int .u64 hi']) rfl (fun _ => rfl) (fun _ => rfl) rfl ?_)|(refine oD 5 ?_; refine a4A (hK _ _ (c7A rfl rfl (by decide) (fun _ => rfl) (fun _ => rfl) (fun _ => rfl) rfl (by intro u hu; simp [Value.cells] at hu; rcases hu with rfl | rfl <;> rfl) (fun bx wx ex hbx hbc => ?_))); clear hK K; refine amA (by kernel_rfl) (fun K hK => ?_))|(refine oF 0 ?_; refine a2A (a' := ⟨bx, 0, none⟩) rfl rfl (fun _ => rfl) ?_)|(refine oF 1 ?_; refine a2A (a' := ⟨bx, 1, none⟩) rfl rfl (fun _ => rfl) ?_)|(refine oLt 22 ?_; refine a8A rfl (fun _ => rfl) rfl hbc rfl ?_)|(refine oC 12 ?_; refine a4A (hK _ _ (c1A rfl (by decide) rfl rfl rfl rfl (fun v w' => v = .tuple #[] ∧ ∃ wz, Ext w1 wz ∧ Mut A wz b kv lv (spU (xs.take (i + 1))) w') (fun w8 e8 => (g1A (he.trans (ex.trans e8)) hT hB1 (hS.ext (ex.trans e8)) (hA.ext (he.trans (ex.trans e8))) (by omega) (by omega)).mono fun en w' h => ⟨_, h.1, rfl, _, ex.trans e8, hsu ▸ h.2⟩) (fun v w2 hm => ?_))); clear hK K; obtain ⟨rfl, wz, ez, hm⟩ := hm)|refine wOp ?_|(refine wCm ?_ ?_<;>intro hc)|(refine wNl hK ?_;clear hK K))|refine wG ?_|(refine wCR ?_;intro K hK)|fail)
    all_goals skip
    obtain ⟨kv', lv', hS', hF', l1, l2⟩ := hm
    have x2 := he.trans ez
    exact a7A (i + 1) (fun w5 e5 => ⟨hil, (Fr.ext x2 hF' hB1).trans e5, kv', lv', hS'.ext e5, ijA hB1 x2.size l1 l2⟩) (by omega) (by repeat' (first | exact Sub.nil | refine Sub.val rfl (by first | with_reducible rfl | (congr 1; omega)) ?_ | refine Sub.same rfl ?_))
  · obtain rfl : i = xs.length := by omega
    rw [List.take_length] at hS
    repeat' (first|(refine oLA ?_;first|refine a0A rfl ?_|refine wOp ?_|(refine wCm ?_ ?_<;>intro hc)|(refine wNl hK ?_;clear hK K))|refine wG ?_|(refine wCR ?_;intro K hK)|fail)
    exact alA rfl rfl he (fun u w5 e5 hu => by obtain rfl : u = _ := hu; exact ⟨b, kv, lv, rfl, hS.ext e5, fun k hk => hB k (hB1 k hk)⟩)
end Go.Proofs.YtfcioiobhpcngaaGreatDoor
end
section
set_option linter.unusedSimpArgs false
set_option linter.unusedVariables false
set_option maxRecDepth 3000
namespace Go.Proofs.YtfcioiobhpcngaaGreatDoor
open Go.LA Go.ArrP Go.RowKit
theorem syA {a b : List Sp} (hl : a.length = b.length) (h : ∀ k, k < a.length → (a.getD k (0, 0)).1 = (b.getD k (0, 0)).1 ∧ (a.getD k (0, 0)).2 = (b.getD k (0, 0)).2) : a = b :=
  List.ext_getElem hl fun i h1 h2 => by
    obtain ⟨e1, e2⟩ := h i h1
    have g1 : a.getD i (0, 0) = a[i] := by simp [List.getD, h1]
    have g2 : b.getD i (0, 0) = b[i] := by simp [List.getD, h2]
    rw [g1, g2] at e1 e2
    exact Prod.ext e1 e2
theorem v7A (f m f' m' : Int) (w : World) : (Op.equalIn 10000 32 (spV .u64 (f, m)) (spV .u64 (f', m'))).run Tryz.prog w = .ok (decide (f = f') && decide (m = m')) w := by
  unfold spV
  rw [run_equalIn_agg w 9999 32 _ _ (by kernel_rfl) (by kernel_rfl)]
  have hp : ∀ (f m : Int) (w : World), (part 22 #[.int .u64 f, .int .u64 m] 0).run Tryz.prog w = .ok (.int .u64 f) w := fun f m w => by kernel_rfl
  have hq : ∀ (f m : Int) (w : World), (part 22 #[.int .u64 f, .int .u64 m] 1).run Tryz.prog w = .ok (.int .u64 m) w := fun f m w => by kernel_rfl
  have he : ∀ (a b : Int) (w : World), (Op.equalIn 9999 22 (.int .u64 a) (.int .u64 b)).run Tryz.prog w = .ok (a == b) w := fun a b w => run_equalIn_int w 9998 _ _ _ a b (by kernel_rfl : Tryz.prog.underlying 22 = some (.int .u64))
  simp only [Program.fieldsOf, Tryz.underlying32]
  simp only [Op.eqFields, Sem.run_bind, Sem.run_ite, hp, hq, he, Result.andThen_ok, Sem.run_pure]
  by_cases h1 : f = f' <;> by_cases h2 : m = m' <;> simp [h1, h2]
theorem loA (f m f' m' : Int) (x y : Operand) (w : World) : (do eqGuard .neq 32 x y (spV .u64 (f, m)) (spV .u64 (f', m')); binOp .neq 32 (spV .u64 (f, m)) (spV .u64 (f', m')) : Sem Value).run Tryz.prog w = .ok (.bool (!(decide (f = f') && decide (m = m')))) w := by
  have h := v7A f m f' m' w
  unfold spV at h ⊢
  rw [Sem.run_bind, run_eqGuard_agg w _ _ _ _ _ _ (by kernel_rfl)]
  simp only [Result.andThen_ok, run_neq_struct, h]
theorem v6A (w : World) (v u : Value) (a b : List Sp) (h : SlP .u64 w v a) (h' : SlP .u64 w u b) : Fc Tryz.prog 53 #[v, u] w (Ret w (.val (.bool (decide (a = b))))) := by
  have hl := h.len
  have hl' := h'.len
  refine Fc.of (args := [_, _]) Tryz.func53 rfl rfl Tryz.ntmps53 (Nat.le_of_ble_eq_true rfl) ?_
  by_cases hlen : a.length = b.length
  · skip
    repeat' (first|(refine oLA ?_;first|refine a0A rfl ?_|(refine oI ?_; refine c8A rfl _ rfl (fun _ => rfl) rfl (by first | exact HasP.val (by assumption) | exact HasP.own | exact HasP.ownV (by assumption)) rfl (by omega) ?_)|(refine oLt 32 ?_; refine anA rfl (fun _ => rfl) (fun _ => rfl) rfl ?_)|(refine cyA ?_; refine d6A rfl _ rfl rfl (by first | exact HasP.val (by assumption) | exact HasP.own | exact HasP.ownV (by assumption)) ?_)|refine wOp ?_|(refine wCm ?_ ?_<;>intro hc)|(refine wNl hK ?_;clear hK K))|refine wG ?_|(refine wCR ?_;intro K hK)|fail)
    refine b8A (ι := Nat) (fun k => [(0, .val v), (1, .val u), (12, .val (.int .i64 a.length)), (13, .val (.int .i64 k))]) (fun k => k ≤ a.length ∧ ∀ i, i < k → (a.getD i (0, 0)).1 = (b.getD i (0, 0)).1 ∧ (a.getD i (0, 0)).2 = (b.getD i (0, 0)).2) (fun k => a.length - k) 0 ⟨Nat.zero_le _, fun i h1 => by omega⟩ (by repeat' (first | exact Sub.nil | refine Sub.val rfl (by first | with_reducible rfl | (congr 1; omega)) ?_ | refine Sub.same rfl ?_)) ?_
    rintro k ⟨hk, hin⟩
    by_cases hkl : k < a.length
    · by_cases he : (a.getD k (0, 0)).1 = (b.getD k (0, 0)).1 ∧ (a.getD k (0, 0)).2 = (b.getD k (0, 0)).2
      · have hb : (!(decide ((a.getD k (0, 0)).1 = (b.getD k (0, 0)).1) && decide ((a.getD k (0, 0)).2 = (b.getD k (0, 0)).2))) = false := by rw [decide_eq_true he.1, decide_eq_true he.2]; rfl
        repeat' (first|(refine oLA ?_;first|refine a0A rfl ?_|(refine c9A (c := .bool false) rfl rfl rfl (fun w => (loA (a.getD k (0, 0)).1 (a.getD k (0, 0)).2 (b.getD k (0, 0)).1 (b.getD k (0, 0)).2 _ _ w).trans (by rw [hb])) ?_)|(refine oI ?_; refine c8A rfl _ rfl (fun _ => rfl) rfl (by first | exact HasP.val (by assumption) | exact HasP.own | exact HasP.ownV (by assumption)) rfl (by omega) ?_)|(refine oLt 32 ?_; refine anA rfl (fun _ => rfl) (fun _ => rfl) rfl ?_)|(refine cyA ?_; refine d6A rfl _ rfl rfl (by first | exact HasP.val (by assumption) | exact HasP.own | exact HasP.ownV (by assumption)) ?_)|refine wOp ?_|(refine wCm ?_ ?_<;>intro hc)|(refine wNl hK ?_;clear hK K))|refine wG ?_|(refine wCR ?_;intro K hK)|fail)
        all_goals skip
        refine bpA (k + 1) ⟨hkl, fun i h1 => ?_⟩ (by omega) (by repeat' (first | exact Sub.nil | refine Sub.val rfl (by first | with_reducible rfl | (congr 1; omega)) ?_ | refine Sub.same rfl ?_))
        by_cases e : i = k
        · subst e; exact he
        · exact hin i (by omega)
      · have hb : (!(decide ((a.getD k (0, 0)).1 = (b.getD k (0, 0)).1) && decide ((a.getD k (0, 0)).2 = (b.getD k (0, 0)).2))) = true := by
          by_cases h1 : (a.getD k (0, 0)).1 = (b.getD k (0, 0)).1
          · rw [decide_eq_true h1, decide_eq_false (fun h2 => he ⟨h1, h2⟩)]; rfl
          · rw [decide_eq_false h1]; rfl
        have hne : a ≠ b := fun e => he (by rw [e]; exact ⟨rfl, rfl⟩)
        repeat' (first|(refine oLA ?_;first|refine a0A rfl ?_|(refine c9A (c := .bool true) rfl rfl rfl (fun w => (loA (a.getD k (0, 0)).1 (a.getD k (0, 0)).2 (b.getD k (0, 0)).1 (b.getD k (0, 0)).2 _ _ w).trans (by rw [hb])) ?_)|(refine oI ?_; refine c8A rfl _ rfl (fun _ => rfl) rfl (by first | exact HasP.val (by assumption) | exact HasP.own | exact HasP.ownV (by assumption)) rfl (by omega) ?_)|(refine oLt 32 ?_; refine anA rfl (fun _ => rfl) (fun _ => rfl) rfl ?_)|(refine cyA ?_; refine d6A rfl _ rfl rfl (by first | exact HasP.val (by assumption) | exact HasP.own | exact HasP.ownV (by assumption)) ?_)|refine wOp ?_|(refine wCm ?_ ?_<;>intro hc)|(refine wNl hK ?_;clear hK K))|refine wG ?_|(refine wCR ?_;intro K hK)|fail)
        exact abA rfl rfl (Ext.refl _) (by rw [decide_eq_false hne])
    · obtain rfl : k = a.length := by omega
      have : a = b := syA hlen hin
      repeat' (first|(refine oLA ?_;first|refine a0A rfl ?_|(refine oI ?_; refine c8A rfl _ rfl (fun _ => rfl) rfl (by first | exact HasP.val (by assumption) | exact HasP.own | exact HasP.ownV (by assumption)) rfl (by omega) ?_)|(refine oLt 32 ?_; refine anA rfl (fun _ => rfl) (fun _ => rfl) rfl ?_)|(refine cyA ?_; refine d6A rfl _ rfl rfl (by first | exact HasP.val (by assumption) | exact HasP.own | exact HasP.ownV (by assumption)) ?_)|refine wOp ?_|(refine wCm ?_ ?_<;>intro hc)|(refine wNl hK ?_;clear hK K))|refine wG ?_|(refine wCR ?_;intro K hK)|fail)
      exact abA rfl rfl (Ext.refl _) (by rw [decide_eq_true this])
  · have hne : a ≠ b := fun e => hlen (by rw [e])
    repeat' (first|(refine oLA ?_;first|refine a0A rfl ?_|(refine oI ?_; refine c8A rfl _ rfl (fun _ => rfl) rfl (by first | exact HasP.val (by assumption) | exact HasP.own | exact HasP.ownV (by assumption)) rfl (by omega) ?_)|(refine oLt 32 ?_; refine anA rfl (fun _ => rfl) (fun _ => rfl) rfl ?_)|(refine cyA ?_; refine d6A rfl _ rfl rfl (by first | exact HasP.val (by assumption) | exact HasP.own | exact HasP.ownV (by assumption)) ?_)|refine wOp ?_|(refine wCm ?_ ?_<;>intro hc)|(refine wNl hK ?_;clear hK K))|refine wG ?_|(refine wCR ?_;intro K hK)|fail)
    exact abA rfl rfl (Ext.refl _) (by rw [decide_eq_false hne])
theorem iaA (w : World) (v u : Value) (a b : List Sp) (h : SlP .u64 w v a) (h' : SlP .u64 w u b) : Fc Tryz.prog 18 #[v, u] w (Ret w (.val (.bool (decide (a = b))))) := by
  have hl := h.len
  have hl' := h'.len
  refine Fc.of (args := [_, _]) Tryz.func18 rfl rfl Tryz.ntmps18 (Nat.le_of_ble_eq_true rfl) ?_
  by_cases hlen : a.length = b.length
  · skip
    repeat' (first|(refine oLA ?_;first|refine a0A rfl ?_|(refine oI ?_; refine c8A rfl _ rfl (fun _ => rfl) rfl (by first | exact HasP.val (by assumption) | exact HasP.own | exact HasP.ownV (by assumption)) rfl (by omega) ?_)|(refine oLt 32 ?_; refine anA rfl (fun _ => rfl) (fun _ => rfl) rfl ?_)|(refine cyA ?_; refine d6A rfl _ rfl rfl (by first | exact HasP.val (by assumption) | exact HasP.own | exact HasP.ownV (by assumption)) ?_)|refine wOp ?_|(refine wCm ?_ ?_<;>intro hc)|(refine wNl hK ?_;clear hK K))|refine wG ?_|(refine wCR ?_;intro K hK)|fail)
    refine b8A (ι := Nat) (fun k => [(0, .val v), (1, .val u), (5, .val (.int .i64 k))]) (fun k => k ≤ a.length ∧ ∀ i, i < k → (a.getD i (0, 0)).1 = (b.getD i (0, 0)).1 ∧ (a.getD i (0, 0)).2 = (b.getD i (0, 0)).2) (fun k => a.length - k) 0 ⟨Nat.zero_le _, fun i h1 => by omega⟩ (by repeat' (first | exact Sub.nil | refine Sub.val rfl (by first | with_reducible rfl | (congr 1; omega)) ?_ | refine Sub.same rfl ?_)) ?_
    rintro k ⟨hk, hin⟩
    by_cases hkl : k < a.length
    · by_cases he : (a.getD k (0, 0)).1 = (b.getD k (0, 0)).1 ∧ (a.getD k (0, 0)).2 = (b.getD k (0, 0)).2
      · have hb : (!(decide ((a.getD k (0, 0)).1 = (b.getD k (0, 0)).1) && decide ((a.getD k (0, 0)).2 = (b.getD k (0, 0)).2))) = false := by rw [decide_eq_true he.1, decide_eq_true he.2]; rfl
        repeat' (first|(refine oLA ?_;first|refine a0A rfl ?_|(refine c9A (c := .bool false) rfl rfl rfl (fun w => (loA (a.getD k (0, 0)).1 (a.getD k (0, 0)).2 (b.getD k (0, 0)).1 (b.getD k (0, 0)).2 _ _ w).trans (by rw [hb])) ?_)|(refine oI ?_; refine c8A rfl _ rfl (fun _ => rfl) rfl (by first | exact HasP.val (by assumption) | exact HasP.own | exact HasP.ownV (by assumption)) rfl (by omega) ?_)|(refine oLt 32 ?_; refine anA rfl (fun _ => rfl) (fun _ => rfl) rfl ?_)|(refine cyA ?_; refine d6A rfl _ rfl rfl (by first | exact HasP.val (by assumption) | exact HasP.own | exact HasP.ownV (by assumption)) ?_)|refine wOp ?_|(refine wCm ?_ ?_<;>intro hc)|(refine wNl hK ?_;clear hK K))|refine wG ?_|(refine wCR ?_;intro K hK)|fail)
        all_goals skip
        refine bpA (k + 1) ⟨hkl, fun i h1 => ?_⟩ (by omega) (by repeat' (first | exact Sub.nil | refine Sub.val rfl (by first | with_reducible rfl | (congr 1; omega)) ?_ | refine Sub.same rfl ?_))
        by_cases e : i = k
        · subst e; exact he
        · exact hin i (by omega)
      · have hb : (!(decide ((a.getD k (0, 0)).1 = (b.getD k (0, 0)).1) && decide ((a.getD k (0, 0)).2 = (b.getD k (0, 0)).2))) = true := by
          by_cases h1 : (a.getD k (0, 0)).1 = (b.getD k (0, 0)).1
          · rw [decide_eq_true h1, decide_eq_false (fun h2 => he ⟨h1, h2⟩)]; rfl
          · rw [decide_eq_false h1]; rfl
        have hne : a ≠ b := fun e => he (by rw [e]; exact ⟨rfl, rfl⟩)
        repeat' (first|(refine oLA ?_;first|refine a0A rfl ?_|(refine c9A (c := .bool true) rfl rfl rfl (fun w => (loA (a.getD k (0, 0)).1 (a.getD k (0, 0)).2 (b.getD k (0, 0)).1 (b.getD k (0, 0)).2 _ _ w).trans (by rw [hb])) ?_)|(refine oI ?_; refine c8A rfl _ rfl (fun _ => rfl) rfl (by first | exact HasP.val (by assumption) | exact HasP.own | exact HasP.ownV (by assumption)) rfl (by omega) ?_)|(refine oLt 32 ?_; refine anA rfl (fun _ => rfl) (fun _ => rfl) rfl ?_)|(refine cyA ?_; refine d6A rfl _ rfl rfl (by first | exact HasP.val (by assumption) | exact HasP.own | exact HasP.ownV (by assumption)) ?_)|refine wOp ?_|(refine wCm ?_ ?_<;>intro hc)|(refine wNl hK ?_;clear hK K))|refine wG ?_|(refine wCR ?_;intro K hK)|fail)
        exact abA rfl rfl (Ext.refl _) (by rw [decide_eq_false hne])
    · obtain rfl : k = a.length := by omega
      have : a = b := syA hlen hin
      repeat' (first|(refine oLA ?_;first|refine a0A rfl ?_|(refine oI ?_; refine c8A rfl _ rfl (fun _ => rfl) rfl (by first | exact HasP.val (by assumption) | exact HasP.own | exact HasP.ownV (by assumption)) rfl (by omega) ?_)|(refine oLt 32 ?_; refine anA rfl (fun _ => rfl) (fun _ => rfl) rfl ?_)|(refine cyA ?_; refine d6A rfl _ rfl rfl (by first | exact HasP.val (by assumption) | exact HasP.own | exact HasP.ownV (by assumption)) ?_)|refine wOp ?_|(refine wCm ?_ ?_<;>intro hc)|(refine wNl hK ?_;clear hK K))|refine wG ?_|(refine wCR ?_;intro K hK)|fail)
      exact abA rfl rfl (Ext.refl _) (by rw [decide_eq_true this])
  · have hne : a ≠ b := fun e => hlen (by rw [e])
    repeat' (first|(refine oLA ?_;first|refine a0A rfl ?_|(refine oI ?_; refine c8A rfl _ rfl (fun _ => rfl) rfl (by first | exact HasP.val (by assumption) | exact HasP.own | exact HasP.ownV (by assumption)) rfl (by omega) ?_)|(refine oLt 32 ?_; refine anA rfl (fun _ => rfl) (fun _ => rfl) rfl ?_)|(refine cyA ?_; refine d6A rfl _ rfl rfl (by first | exact HasP.val (by assumption) | exact HasP.own | exact HasP.ownV (by assumption)) ?_)|refine wOp ?_|(refine wCm ?_ ?_<;>intro hc)|(refine wNl hK ?_;clear hK K))|refine wG ?_|(refine wCR ?_;intro K hK)|fail)
    exact abA rfl rfl (Ext.refl _) (by rw [decide_eq_false hne])
end Go.Proofs.YtfcioiobhpcngaaGreatDoor
end
