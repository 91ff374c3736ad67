import Derived.Test.YtjiacignpmabcaaDoorC16
import Derived.Test.YtjiacignpmabcaaDoorCV

set_option linter.unusedSimpArgs false
set_option linter.unusedVariables false
set_option maxRecDepth 3000
namespace Go.Proofs.YtjiacignpmabcaaDoor
open Go.LA Go.ArrP Go.RowKit
set_option maxHeartbeats 4000000 in
theorem make3_c {w : World} {va : Value} {xs : List Int} {k : Int} (h : SlI .u16 w va xs) (hl : Low xs) (hk : k = 1 ∨ k = 2 ∨ k = 3) :
    Fc Tryd.prog 24 #[va, .int .u8 k] w (Ret w (.tup3 (.pred (cnP TT (memb xs) k)) (.pred (mkI w.heap.size tM (memb xs))) (.val (.bool true)))) := by
  have hp := memb_top hl
  have hof : ∀ w', Ext w w' → _ := fun w' e => mof_c w' va xs (h.ext e) hl
  obtain ⟨p, hpp⟩ : ∃ p, p = memb xs := ⟨_, rfl⟩
  rw [← hpp] at hp hof ⊢
  refine Fc.of (args := [_, _]) Tryd.func24 rfl rfl Tryd.ntmps24 (Nat.le_of_ble_eq_true rfl) ?_
  repeat' (first
   |(refine oLA ?_;first
   |refine LA_pass rfl ?_
   |(refine oAl ?_; refine LA_alloc rfl (fun _ => rfl) ?_)
   |(refine oD 5 ?_; refine LA_stop (hK _ _ (LX_pick 4 rfl (fun v4 w4 e4 h4 => ?_))); clear hK K)|(refine wOpB ?_;try dsimp only [Int.reduceToNat, Int.reducePow])|refine wOp ?_|(refine wOpD ?_;try dsimp only [Int.reduceToNat, Int.toNat_natCast])|(refine LA_cmp rfl rfl rfl rfl (fun hc => ?_) (fun hc => ?_)<;>dsimp only [cmpP] at hc)|(refine LA_nil (hK [] _ (LX_nil ?_));clear hK K)|(refine LA_nil (hK _ ?_);clear hK K))
   |(refine oCX ?_;first
   |refine wCX ?_|(refine wCR ?_;intro K hK))
   |(refine oPX ?_;first
   |refine wPX ?_)
   |(refine oLX ?_;first
   |refine LX_nil ?_))
  obtain ⟨b4, hb4, rfl, h4⟩ := h4
  refine LX_la (by kernel_rfl) (fun K hK => ?_)
  repeat' (first
   |(refine oLA ?_;first
   |refine LA_pass rfl ?_
   |(refine oAl ?_; refine LA_alloc rfl (fun _ => rfl) ?_)
   |(refine oD 9 ?_; refine LA_stop (hK _ _ (LX_pick 7 rfl (fun v7 w7 e7 h7 => LX_pick 8 rfl (fun v8 w8 e8 h8 => ?_)))); clear hK K)|(refine wOpB ?_;try dsimp only [Int.reduceToNat, Int.reducePow])|refine wOp ?_|(refine wOpD ?_;try dsimp only [Int.reduceToNat, Int.toNat_natCast])|(refine LA_cmp rfl rfl rfl rfl (fun hc => ?_) (fun hc => ?_)<;>dsimp only [cmpP] at hc)|(refine oCv ?_;first
   |(refine oC 10 ?_; refine LA_call1 (f := 10) rfl rfl rfl  (.pred (mkI w4.heap.size tM p)) (by intro u1 w e hu1; (try obtain rfl : u1 = _ := hu1); exact (hof _ (e4.trans e)).mono (ret_mk e.size)) ?_))|(refine LA_nil (hK [] _ (LX_nil ?_));clear hK K)|(refine LA_nil (hK _ ?_);clear hK K))
   |(refine oCX ?_;first
   |refine wCX ?_|(refine wCR ?_;intro K hK))
   |(refine oPX ?_;first
   |refine wPX ?_)
   |(refine oLX ?_;first
   |refine LX_nil ?_))
  have h7 : MkI w4.heap.size tM w7 v7 p := h7
  obtain ⟨b8, hb8, rfl, h8⟩ := h8
  have hb4l : b4 < w4.heap.size := blk_lt h4
  have h48 : b4 ≠ b8 := by omega
  have h4' := (e7.trans e8).block h4
  have h7' := h7.ext e8
  have e08 := e4.trans (e7.trans e8)
  refine LX_la (by kernel_rfl) (fun K hK => ?_)
  have hml : ∀ w', Ext w8 w' → _ := fun w' e => mlist_c w' v7 _ p (h7'.ext e)
  have hmw : ∀ w', Ext w8 w' → _ := fun w' e => rwords_c w' v7 _ p (h7'.ext e)
  have hmr : ∀ w', Ext w8 w' → _ := fun w' e => rruns06_c w' v7 _ p (h7'.ext e)
  rcases hk with rfl | rfl | rfl
  · skip
    repeat' (first
     |(refine oLA ?_;first
     |refine LA_pass rfl ?_
     |(refine oSt ?_; refine LA_stop (hK _ _ (LX_storeK (q := 29) (φ := cnP TT p 1) (n := 4) rfl rfl rfl h8 rfl lays_cn (fun _ => rfl) (fun cs w9 e9 hcn hcs hb9 => ?_))); clear hK K)|(refine wOpB ?_;try dsimp only [Int.reduceToNat, Int.reducePow])|refine wOp ?_|(refine wOpD ?_;try dsimp only [Int.reduceToNat, Int.toNat_natCast])|(refine LA_cmp rfl rfl rfl rfl (fun hc => ?_) (fun hc => ?_)<;>dsimp only [cmpP] at hc)|(refine oCv ?_;first
     |(refine oC 11 ?_; refine LA_call1 (f := 11) rfl rfl rfl  (.pred (ownI _ 29 .u16 (listS p 65536))) (by intro u1 w e hu1; (try obtain rfl : u1 = _ := hu1); exact (hml _ e).mono (ret_base e.size)) ?_)
     |(refine oC 18 ?_; refine LA_call1 (f := 18) rfl rfl rfl  (.pred (ownI _ 66 .u64 (wordsOf p))) (by intro u1 w e hu1; (try obtain rfl : u1 = _ := hu1); exact (hmw _ e).mono (ret_base e.size)) ?_)
     |(refine oC 57 ?_; refine LA_call1 (f := 57) rfl rfl rfl  (.pred (ownR _ 70 (runsL p))) (by intro u1 w e hu1; (try obtain rfl : u1 = _ := hu1); exact (hmr _ e).mono (ret_baseR e.size rfl)) ?_)
     |(refine oC 9 ?_; refine LA_call1 (f := 9) rfl rfl rfl  (.tup2 (.pred (cnP TT p 1)) (.val (.bool true))) (by intro u1 w e hu1; (try obtain rfl : u1 = _ := hu1); exact (ofarr_c (OwnI.slI hu1) (listS_inc p _) (listS_low p) tt).mono (ret_t2 (fun _ _ h => cn_memb hp h))) ?_)
     |(refine oC 17 ?_; refine LA_call1 (f := 17) rfl rfl rfl  (.tup2 (.pred (cnP TT p 2)) (.val (.bool true))) (by intro u1 w e hu1; (try obtain rfl : u1 = _ := hu1); exact ofwrd_c (OwnI.slI hu1) hp tt) ?_)
     |(refine oC 56 ?_; refine LA_call1 (f := 56) rfl rfl rfl  (.tup2 (.pred (cnP TT p 3)) (.val (.bool true))) (by intro u1 w e hu1; (try obtain rfl : u1 = _ := hu1); exact ofrun_c (OwnR.slR hu1) hp tt) ?_))|(refine LA_nil (hK [] _ (LX_nil ?_));clear hK K)|(refine LA_nil (hK _ ?_);clear hK K))
     |(refine oCX ?_;first
     |refine wCX ?_|(refine wCR ?_;intro K hK))
     |(refine oPX ?_;first
     |refine wPX ?_)
     |(refine oLX ?_;first
     |refine LX_nil ?_))
    have h4S := setRow_keep cs (e9.block h4') h48
    have h7S := (h7'.ext e9).setRow hb9 (by decide) cs
    have h8S := VarC.set hb9 hcn hcs
    have eS : Ext w (w9.setRow b8 cs) := (e08.trans e9).setRow (by have := e4.size; omega) cs
    have hkd : ∀ w', Ext (w9.setRow b8 cs) w' → _ := fun w' e => kind_c (h8S.hc.ext e)
    refine LX_la (by kernel_rfl) (fun K hK => ?_)
    repeat' (first
     |(refine oLA ?_;first
     |refine LA_backN ?_|refine LA_backV rfl ?_|refine LA_backP (fun _ _ _ h => h) ?_|refine LA_pass rfl ?_
     |(refine oLd ?_; refine LA_loadK rfl h8S.hb hcn rfl (fun _ => rfl) (fun _ => rfl) ?_)|(refine wOpB ?_;try dsimp only [Int.reduceToNat, Int.reducePow])|refine wOp ?_|(refine wOpD ?_;try dsimp only [Int.reduceToNat, Int.toNat_natCast])|(refine LA_cmp rfl rfl rfl rfl (fun hc => ?_) (fun hc => ?_)<;>dsimp only [cmpP] at hc)|(refine oCv ?_;first
     |(refine oC 13 ?_; refine LA_call1 (f := 13) rfl rfl rfl  (.val (.int .u8 1)) (by intro u1 w e hu1; (try obtain rfl : u1 = _ := hu1); exact hkd _ e) ?_))|(refine LA_nil (hK [] _ (LX_nil ?_));clear hK K)|(refine LA_nil (hK _ ?_);clear hK K))
     |(refine oCX ?_;first
     |refine CX_phases [9] (by kernel_rfl) (by kernel_rfl) (by kernel_rfl) (Phase_cons ?_)
     |refine wCX ?_|(refine wCR ?_;intro K hK))
     |(refine oPX ?_;first
     |refine wPX ?_)
     |(refine oLX ?_;first
     |refine LX_nil ?_)
     |(refine oLP ?_;first
     |refine wLP ?_|refine LP_now (by decide +kernel) ?_|refine LP_float (by decide +kernel) rfl ?_|refine LP_nil ?_))
    refine MX_put (n := 4) rfl rfl rfl h4S hcn rfl (fun _ => rfl) (fun u hu => (lays_cn.shape _ _ h8S.hc).elim (fun c h => by obtain ⟨h1, -, h2⟩ := h; cases h1; exact h2 u hu)) (fun w10 e10 => ⟨_, fun t u hu => vals_keep t u hu, ?_⟩)
    have hb10 := e10.block h4S
    have hc10 := VarC.set hb10 hcn (h8S.hc.ext e10)
    have h7T := (h7S.ext e10).setRow hb10 (by decide) cs
    have eT := (eS.trans e10).setRow hb4 cs
    refine Phase_nil ?_
    repeat' (first
     |(refine oLA ?_;first
     |refine LA_backN ?_|refine LA_backV rfl ?_|refine LA_backP (fun _ _ _ h => h) ?_|refine LA_pass rfl ?_|(refine wOpB ?_;try dsimp only [Int.reduceToNat, Int.reducePow])|refine wOp ?_|(refine wOpD ?_;try dsimp only [Int.reduceToNat, Int.toNat_natCast])|(refine LA_cmp rfl rfl rfl rfl (fun hc => ?_) (fun hc => ?_)<;>dsimp only [cmpP] at hc)|(refine LA_nil (hK [] _ (LX_nil ?_));clear hK K)|(refine LA_nil (hK _ ?_);clear hK K))
     |(refine oCX ?_;first
     |refine wCX ?_|(refine wCR ?_;intro K hK))
     |(refine oPX ?_;first
     |refine wPX ?_)
     |(refine oLX ?_;first
     |refine LX_nil ?_)
     |(refine oLP ?_;first
     |refine wLP ?_|refine LP_now (by decide +kernel) ?_|refine LP_float (by decide +kernel) rfl ?_|refine LP_nil ?_))
    exact PX_retV3 (n := 4) rfl rfl hc10.hb hcn rfl rfl rfl eT (fun w' e' u2 u3 g2 g3 => ⟨hc10.hc.ext e', by obtain rfl : u2 = v7 := g2; exact (h7T.ext e').base e4.size, g3⟩)

  · skip
    repeat' (first
     |(refine oLA ?_;first
     |refine LA_pass rfl ?_
     |(refine oSt ?_; refine LA_stop (hK _ _ (LX_storeK (q := 37) (φ := cnP TT p 2) (n := 4) rfl rfl rfl h8 rfl lays_cn (fun _ => rfl) (fun cs w9 e9 hcn hcs hb9 => ?_))); clear hK K)|(refine wOpB ?_;try dsimp only [Int.reduceToNat, Int.reducePow])|refine wOp ?_|(refine wOpD ?_;try dsimp only [Int.reduceToNat, Int.toNat_natCast])|(refine LA_cmp rfl rfl rfl rfl (fun hc => ?_) (fun hc => ?_)<;>dsimp only [cmpP] at hc)|(refine oCv ?_;first
     |(refine oC 11 ?_; refine LA_call1 (f := 11) rfl rfl rfl  (.pred (ownI _ 29 .u16 (listS p 65536))) (by intro u1 w e hu1; (try obtain rfl : u1 = _ := hu1); exact (hml _ e).mono (ret_base e.size)) ?_)
     |(refine oC 18 ?_; refine LA_call1 (f := 18) rfl rfl rfl  (.pred (ownI _ 66 .u64 (wordsOf p))) (by intro u1 w e hu1; (try obtain rfl : u1 = _ := hu1); exact (hmw _ e).mono (ret_base e.size)) ?_)
     |(refine oC 57 ?_; refine LA_call1 (f := 57) rfl rfl rfl  (.pred (ownR _ 70 (runsL p))) (by intro u1 w e hu1; (try obtain rfl : u1 = _ := hu1); exact (hmr _ e).mono (ret_baseR e.size rfl)) ?_)
     |(refine oC 9 ?_; refine LA_call1 (f := 9) rfl rfl rfl  (.tup2 (.pred (cnP TT p 1)) (.val (.bool true))) (by intro u1 w e hu1; (try obtain rfl : u1 = _ := hu1); exact (ofarr_c (OwnI.slI hu1) (listS_inc p _) (listS_low p) tt).mono (ret_t2 (fun _ _ h => cn_memb hp h))) ?_)
     |(refine oC 17 ?_; refine LA_call1 (f := 17) rfl rfl rfl  (.tup2 (.pred (cnP TT p 2)) (.val (.bool true))) (by intro u1 w e hu1; (try obtain rfl : u1 = _ := hu1); exact ofwrd_c (OwnI.slI hu1) hp tt) ?_)
     |(refine oC 56 ?_; refine LA_call1 (f := 56) rfl rfl rfl  (.tup2 (.pred (cnP TT p 3)) (.val (.bool true))) (by intro u1 w e hu1; (try obtain rfl : u1 = _ := hu1); exact ofrun_c (OwnR.slR hu1) hp tt) ?_))|(refine LA_nil (hK [] _ (LX_nil ?_));clear hK K)|(refine LA_nil (hK _ ?_);clear hK K))
     |(refine oCX ?_;first
     |refine wCX ?_|(refine wCR ?_;intro K hK))
     |(refine oPX ?_;first
     |refine wPX ?_)
     |(refine oLX ?_;first
     |refine LX_nil ?_))
    have h4S := setRow_keep cs (e9.block h4') h48
    have h7S := (h7'.ext e9).setRow hb9 (by decide) cs
    have h8S := VarC.set hb9 hcn hcs
    have eS : Ext w (w9.setRow b8 cs) := (e08.trans e9).setRow (by have := e4.size; omega) cs
    have hkd : ∀ w', Ext (w9.setRow b8 cs) w' → _ := fun w' e => kind_c (h8S.hc.ext e)
    refine LX_la (by kernel_rfl) (fun K hK => ?_)
    repeat' (first
     |(refine oLA ?_;first
     |refine LA_backN ?_|refine LA_backV rfl ?_|refine LA_backP (fun _ _ _ h => h) ?_|refine LA_pass rfl ?_
     |(refine oLd ?_; refine LA_loadK rfl h8S.hb hcn rfl (fun _ => rfl) (fun _ => rfl) ?_)|(refine wOpB ?_;try dsimp only [Int.reduceToNat, Int.reducePow])|refine wOp ?_|(refine wOpD ?_;try dsimp only [Int.reduceToNat, Int.toNat_natCast])|(refine LA_cmp rfl rfl rfl rfl (fun hc => ?_) (fun hc => ?_)<;>dsimp only [cmpP] at hc)|(refine oCv ?_;first
     |(refine oC 13 ?_; refine LA_call1 (f := 13) rfl rfl rfl  (.val (.int .u8 2)) (by intro u1 w e hu1; (try obtain rfl : u1 = _ := hu1); exact hkd _ e) ?_))|(refine LA_nil (hK [] _ (LX_nil ?_));clear hK K)|(refine LA_nil (hK _ ?_);clear hK K))
     |(refine oCX ?_;first
     |refine CX_phases [9] (by kernel_rfl) (by kernel_rfl) (by kernel_rfl) (Phase_cons ?_)
     |refine wCX ?_|(refine wCR ?_;intro K hK))
     |(refine oPX ?_;first
     |refine wPX ?_)
     |(refine oLX ?_;first
     |refine LX_nil ?_)
     |(refine oLP ?_;first
     |refine wLP ?_|refine LP_now (by decide +kernel) ?_|refine LP_float (by decide +kernel) rfl ?_|refine LP_nil ?_))
    refine MX_put (n := 4) rfl rfl rfl h4S hcn rfl (fun _ => rfl) (fun u hu => (lays_cn.shape _ _ h8S.hc).elim (fun c h => by obtain ⟨h1, -, h2⟩ := h; cases h1; exact h2 u hu)) (fun w10 e10 => ⟨_, fun t u hu => vals_keep t u hu, ?_⟩)
    have hb10 := e10.block h4S
    have hc10 := VarC.set hb10 hcn (h8S.hc.ext e10)
    have h7T := (h7S.ext e10).setRow hb10 (by decide) cs
    have eT := (eS.trans e10).setRow hb4 cs
    refine Phase_nil ?_
    repeat' (first
     |(refine oLA ?_;first
     |refine LA_backN ?_|refine LA_backV rfl ?_|refine LA_backP (fun _ _ _ h => h) ?_|refine LA_pass rfl ?_|(refine wOpB ?_;try dsimp only [Int.reduceToNat, Int.reducePow])|refine wOp ?_|(refine wOpD ?_;try dsimp only [Int.reduceToNat, Int.toNat_natCast])|(refine LA_cmp rfl rfl rfl rfl (fun hc => ?_) (fun hc => ?_)<;>dsimp only [cmpP] at hc)|(refine LA_nil (hK [] _ (LX_nil ?_));clear hK K)|(refine LA_nil (hK _ ?_);clear hK K))
     |(refine oCX ?_;first
     |refine wCX ?_|(refine wCR ?_;intro K hK))
     |(refine oPX ?_;first
     |refine wPX ?_)
     |(refine oLX ?_;first
     |refine LX_nil ?_)
     |(refine oLP ?_;first
     |refine wLP ?_|refine LP_now (by decide +kernel) ?_|refine LP_float (by decide +kernel) rfl ?_|refine LP_nil ?_))
    exact PX_retV3 (n := 4) rfl rfl hc10.hb hcn rfl rfl rfl eT (fun w' e' u2 u3 g2 g3 => ⟨hc10.hc.ext e', by obtain rfl : u2 = v7 := g2; exact (h7T.ext e').base e4.size, g3⟩)

  · skip
    repeat' (first
     |(refine oLA ?_;first
     |refine LA_pass rfl ?_
     |(refine oSt ?_; refine LA_stop (hK _ _ (LX_storeK (q := 45) (φ := cnP TT p 3) (n := 4) rfl rfl rfl h8 rfl lays_cn (fun _ => rfl) (fun cs w9 e9 hcn hcs hb9 => ?_))); clear hK K)|(refine wOpB ?_;try dsimp only [Int.reduceToNat, Int.reducePow])|refine wOp ?_|(refine wOpD ?_;try dsimp only [Int.reduceToNat, Int.toNat_natCast])|(refine LA_cmp rfl rfl rfl rfl (fun hc => ?_) (fun hc => ?_)<;>dsimp only [cmpP] at hc)|(refine oCv ?_;first
     |(refine oC 11 ?_; refine LA_call1 (f := 11) rfl rfl rfl  (.pred (ownI _ 29 .u16 (listS p 65536))) (by intro u1 w e hu1; (try obtain rfl : u1 = _ := hu1); exact (hml _ e).mono (ret_base e.size)) ?_)
     |(refine oC 18 ?_; refine LA_call1 (f := 18) rfl rfl rfl  (.pred (ownI _ 66 .u64 (wordsOf p))) (by intro u1 w e hu1; (try obtain rfl : u1 = _ := hu1); exact (hmw _ e).mono (ret_base e.size)) ?_)
     |(refine oC 57 ?_; refine LA_call1 (f := 57) rfl rfl rfl  (.pred (ownR _ 70 (runsL p))) (by intro u1 w e hu1; (try obtain rfl : u1 = _ := hu1); exact (hmr _ e).mono (ret_baseR e.size rfl)) ?_)
     |(refine oC 9 ?_; refine LA_call1 (f := 9) rfl rfl rfl  (.tup2 (.pred (cnP TT p 1)) (.val (.bool true))) (by intro u1 w e hu1; (try obtain rfl : u1 = _ := hu1); exact (ofarr_c (OwnI.slI hu1) (listS_inc p _) (listS_low p) tt).mono (ret_t2 (fun _ _ h => cn_memb hp h))) ?_)
     |(refine oC 17 ?_; refine LA_call1 (f := 17) rfl rfl rfl  (.tup2 (.pred (cnP TT p 2)) (.val (.bool true))) (by intro u1 w e hu1; (try obtain rfl : u1 = _ := hu1); exact ofwrd_c (OwnI.slI hu1) hp tt) ?_)
     |(refine oC 56 ?_; refine LA_call1 (f := 56) rfl rfl rfl  (.tup2 (.pred (cnP TT p 3)) (.val (.bool true))) (by intro u1 w e hu1; (try obtain rfl : u1 = _ := hu1); exact ofrun_c (OwnR.slR hu1) hp tt) ?_))|(refine LA_nil (hK [] _ (LX_nil ?_));clear hK K)|(refine LA_nil (hK _ ?_);clear hK K))
     |(refine oCX ?_;first
     |refine wCX ?_|(refine wCR ?_;intro K hK))
     |(refine oPX ?_;first
     |refine wPX ?_)
     |(refine oLX ?_;first
     |refine LX_nil ?_))
    have h4S := setRow_keep cs (e9.block h4') h48
    have h7S := (h7'.ext e9).setRow hb9 (by decide) cs
    have h8S := VarC.set hb9 hcn hcs
    have eS : Ext w (w9.setRow b8 cs) := (e08.trans e9).setRow (by have := e4.size; omega) cs
    have hkd : ∀ w', Ext (w9.setRow b8 cs) w' → _ := fun w' e => kind_c (h8S.hc.ext e)
    refine LX_la (by kernel_rfl) (fun K hK => ?_)
    repeat' (first
     |(refine oLA ?_;first
     |refine LA_backN ?_|refine LA_backV rfl ?_|refine LA_backP (fun _ _ _ h => h) ?_|refine LA_pass rfl ?_
     |(refine oLd ?_; refine LA_loadK rfl h8S.hb hcn rfl (fun _ => rfl) (fun _ => rfl) ?_)|(refine wOpB ?_;try dsimp only [Int.reduceToNat, Int.reducePow])|refine wOp ?_|(refine wOpD ?_;try dsimp only [Int.reduceToNat, Int.toNat_natCast])|(refine LA_cmp rfl rfl rfl rfl (fun hc => ?_) (fun hc => ?_)<;>dsimp only [cmpP] at hc)|(refine oCv ?_;first
     |(refine oC 13 ?_; refine LA_call1 (f := 13) rfl rfl rfl  (.val (.int .u8 3)) (by intro u1 w e hu1; (try obtain rfl : u1 = _ := hu1); exact hkd _ e) ?_))|(refine LA_nil (hK [] _ (LX_nil ?_));clear hK K)|(refine LA_nil (hK _ ?_);clear hK K))
     |(refine oCX ?_;first
     |refine CX_phases [9] (by kernel_rfl) (by kernel_rfl) (by kernel_rfl) (Phase_cons ?_)
     |refine wCX ?_|(refine wCR ?_;intro K hK))
     |(refine oPX ?_;first
     |refine wPX ?_)
     |(refine oLX ?_;first
     |refine LX_nil ?_)
     |(refine oLP ?_;first
     |refine wLP ?_|refine LP_now (by decide +kernel) ?_|refine LP_float (by decide +kernel) rfl ?_|refine LP_nil ?_))
    refine MX_put (n := 4) rfl rfl rfl h4S hcn rfl (fun _ => rfl) (fun u hu => (lays_cn.shape _ _ h8S.hc).elim (fun c h => by obtain ⟨h1, -, h2⟩ := h; cases h1; exact h2 u hu)) (fun w10 e10 => ⟨_, fun t u hu => vals_keep t u hu, ?_⟩)
    have hb10 := e10.block h4S
    have hc10 := VarC.set hb10 hcn (h8S.hc.ext e10)
    have h7T := (h7S.ext e10).setRow hb10 (by decide) cs
    have eT := (eS.trans e10).setRow hb4 cs
    refine Phase_nil ?_
    repeat' (first
     |(refine oLA ?_;first
     |refine LA_backN ?_|refine LA_backV rfl ?_|refine LA_backP (fun _ _ _ h => h) ?_|refine LA_pass rfl ?_|(refine wOpB ?_;try dsimp only [Int.reduceToNat, Int.reducePow])|refine wOp ?_|(refine wOpD ?_;try dsimp only [Int.reduceToNat, Int.toNat_natCast])|(refine LA_cmp rfl rfl rfl rfl (fun hc => ?_) (fun hc => ?_)<;>dsimp only [cmpP] at hc)|(refine LA_nil (hK [] _ (LX_nil ?_));clear hK K)|(refine LA_nil (hK _ ?_);clear hK K))
     |(refine oCX ?_;first
     |refine wCX ?_|(refine wCR ?_;intro K hK))
     |(refine oPX ?_;first
     |refine wPX ?_)
     |(refine oLX ?_;first
     |refine LX_nil ?_)
     |(refine oLP ?_;first
     |refine wLP ?_|refine LP_now (by decide +kernel) ?_|refine LP_float (by decide +kernel) rfl ?_|refine LP_nil ?_))
    exact PX_retV3 (n := 4) rfl rfl hc10.hb hcn rfl rfl rfl eT (fun w' e' u2 u3 g2 g3 => ⟨hc10.hc.ext e', by obtain rfl : u2 = v7 := g2; exact (h7T.ext e').base e4.size, g3⟩)

theorem ret_mk3 {w : World} {a b : AD} {base base' e : Nat} {p : Nat → Bool} (hb : base' ≤ base) (en : Ending) (w' : World) (h : Ret w (.tup3 a (.pred (mkI base e p)) b) en w') : Ret w (.tup3 a (.pred (mkI base' e p)) b) en w' := by
  obtain ⟨v, h1, h2, x, y, z, h3, h4, h5, h6⟩ := h
  exact ⟨v, h1, h2, x, y, z, h3, h4, MkI.base h5 hb, h6⟩
end Go.Proofs.YtjiacignpmabcaaDoor
