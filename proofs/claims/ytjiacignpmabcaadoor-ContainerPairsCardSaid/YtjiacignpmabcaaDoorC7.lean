import Derived.Test.YtjiacignpmabcaaDoorC6

set_option linter.unusedSimpArgs false
set_option linter.unusedVariables false
set_option maxRecDepth 3000
namespace Go.Proofs.YtjiacignpmabcaaDoor
open Go.LA Go.ArrP Go.RowKit
variable {A : Nat → Prop}
set_option maxHeartbeats 2000000 in
theorem cwords_c {w : World} {v : Value} {p : Nat → Bool} {kk : Int} (h : Cn A w v p kk) : Fc Tryd.prog 32 #[v] w (Ret w (.pred (ownI w.heap.size 66 .u64 (wordsOf p)))) := by
  have hm' := runsL_len p
  have hwl := wordsOf_len p
  obtain ⟨hp, ⟨rfl, kd, va, hkd, rfl, ho⟩ | ⟨rfl, vw, rfl, ho⟩ | ⟨rfl, vr, rfl, ho⟩⟩ := h
  · have hww : wordsOf (memb (listS p 65536)) = wordsOf p := wordsOf_congr fun i hi => memb_listS p hi
    refine Fc.of (args := [_]) Tryd.func32 rfl rfl Tryd.ntmps32 (Nat.le_of_ble_eq_true rfl) ?_
    repeat' (first
     |(refine oLA ?_;first
     |refine LA_pass rfl ?_
     |refine wRcv ?_|(refine wOpB ?_;try dsimp only [Int.reduceToNat, Int.reducePow])|refine wOp ?_|(refine wOpD ?_;try dsimp only [Int.reduceToNat, Int.toNat_natCast])|(refine LA_cmp rfl rfl rfl rfl (fun hc => ?_) (fun hc => ?_)<;>dsimp only [cmpP] at hc)|(refine oCv ?_;first
     |(refine oC 66 ?_; refine LA_call1 (f := 66) rfl rfl rfl  (.pred (ownI _ 66 .u64 (wordsOf p))) (by intro u1 w e hu1; (try obtain rfl : u1 = _ := hu1); exact (wof_c _ _ _ (ho.ext e).slI (listS_low p)).mono (ret_w e.size hww)) ?_))|(refine LA_nil (hK [] _ (LX_nil ?_));clear hK K)|(refine LA_nil (hK _ ?_);clear hK K))
     |(refine oCX ?_;first
     |refine wCX ?_|(refine wCR ?_;intro K hK))
     |(refine oPX ?_;first
     |refine wPX ?_)
     |(refine oLX ?_;first
     |refine LX_nil ?_))
    all_goals skip
    all_goals exact PX_retP rfl rfl (Ext.refl _) (fun _ _ _ hv => hv)
  · refine Fc.of (args := [_]) Tryd.func32 rfl rfl Tryd.ntmps32 (Nat.le_of_ble_eq_true rfl) ?_
    repeat' (first
     |(refine oLA ?_;first
     |refine LA_pass rfl ?_
     |refine wRcv ?_|(refine wOpB ?_;try dsimp only [Int.reduceToNat, Int.reducePow])|refine wOp ?_|(refine wOpD ?_;try dsimp only [Int.reduceToNat, Int.toNat_natCast])|(refine LA_cmp rfl rfl rfl rfl (fun hc => ?_) (fun hc => ?_)<;>dsimp only [cmpP] at hc)|(refine oCv ?_;first
     |(refine oC 42 ?_; refine LA_call1 (f := 42) rfl rfl rfl  (.pred (ownI _ 66 .u64 (wordsOf p))) (by intro u1 w e hu1; (try obtain rfl : u1 = _ := hu1); exact (clone64_c _ _ _ (ho.ext e).slI (by omega)).mono (ret_base e.size)) ?_))|(refine LA_nil (hK [] _ (LX_nil ?_));clear hK K)|(refine LA_nil (hK _ ?_);clear hK K))
     |(refine oCX ?_;first
     |refine wCX ?_|(refine wCR ?_;intro K hK))
     |(refine oPX ?_;first
     |refine wPX ?_)
     |(refine oLX ?_;first
     |refine LX_nil ?_))
    all_goals skip
    all_goals exact PX_retP rfl rfl (Ext.refl _) (fun _ _ _ hv => hv)
  · have hww : wordsOf (inR (runsL p)) = wordsOf p := wordsOf_congr fun i hi => inR_runs p hi
    rw [← hww]
    have h := ho.slR
    have hu := runs_u16 p
    have hr := runs_right p
    obtain ⟨rs, hrs⟩ : ∃ rs, rs = runsL p := ⟨_, rfl⟩
    rw [← hrs] at h hu hr hm' ⊢
    have hlen := h.len
    refine Fc.of (args := [_]) Tryd.func32 rfl rfl Tryd.ntmps32 (Nat.le_of_ble_eq_true rfl) ?_
    repeat' (first
     |(refine oLA ?_;first
     |refine LA_pass rfl ?_
     |refine wRcv ?_
     |(refine oI ?_; refine LA_indexR rfl _ rfl (fun _ => rfl) rfl (by first | exact HasR.val (by assumption) | exact HasR.own | exact HasR.ownV (by assumption)) rfl (by omega) ?_)
     |(refine oLt 70 ?_; refine LA_loadC rfl (fun _ => rfl) (fun _ => rfl) rfl ?_)
     |(show LA _ _ _ _ (⟨some 99, .alloc _, _, _, _, _⟩ :: _) _; refine LA_stop (hK _ _ (LX_var rfl rfl (by decide) (fun _ => rfl) (fun _ => rfl) (fun _ => rfl) rfl (by intro u hu; simp [Value.cells] at hu; rcases hu with rfl | rfl <;> rfl) (fun bx wx ex hbx hbc => ?_))); clear hK K; refine LX_la (by kernel_rfl) (fun K hK => ?_))
     |(refine oF 0 ?_; refine LA_fieldAddr (a := ⟨bx, 0, none⟩) (a' := ⟨bx, 0, none⟩) rfl rfl (fun _ => rfl) ?_)
     |(refine oF 1 ?_; refine LA_fieldAddr (a := ⟨bx, 0, none⟩) (a' := ⟨bx, 1, none⟩) rfl rfl (fun _ => rfl) ?_)
     |(refine oLt 70 ?_; refine LA_loadBN rfl (fun _ => rfl) (fun _ => rfl) rfl hbc ?_)
     |(refine oLt 29 ?_; refine LA_loadB rfl (fun _ => rfl) rfl hbc rfl ?_)
     |(refine oLen ?_; refine LA_lenR rfl _ rfl rfl (by first | exact HasR.val (by assumption) | exact HasR.own | exact HasR.ownV (by assumption)) ?_)|(refine wOpB ?_;try dsimp only [Int.reduceToNat, Int.reducePow])|refine wOp ?_|(refine wOpD ?_;try dsimp only [Int.reduceToNat, Int.toNat_natCast])|(refine LA_cmp rfl rfl rfl rfl (fun hc => ?_) (fun hc => ?_)<;>dsimp only [cmpP] at hc)|(refine oCv ?_;first
     |(refine oC 66 ?_; refine LA_call1 (f := 66) rfl rfl rfl  (.pred (ownI w.heap.size 66 .u64 (wordsOf (inR [])))) (by intro u1 w e hu1; (try obtain rfl : u1 = _ := hu1); exact (wof_c _ _ [] SlI.nil16 (fun x hx => by cases hx)).mono (ret_w e.size (wordsOf_congr fun i _ => by simp [memb, inR]))) ?_))|(refine LA_nil (hK [] _ (LX_nil ?_));clear hK K)|(refine LA_nil (hK _ ?_);clear hK K))
     |(refine oCX ?_;first
     |refine wCX ?_|(refine wCR ?_;intro K hK))
     |(refine oPX ?_;first
     |refine wPX ?_)
     |(refine oLX ?_;first
     |refine LX_nil ?_))
    refine CX_pick 3 rfl (fun v3 w3 e3 h3 => ?_)
    have h3 : OwnI w.heap.size 66 .u64 w3 v3 (wordsOf (inR [])) := h3
    refine CX_loopV (ι := Nat × Value) (fun i => [(3, .val i.2), (17, .val vr), (18, .val (.int .i64 rs.length)), (19, .val (.int .i64 i.1))]) (fun i w' => Ext w w' ∧ i.1 ≤ rs.length ∧ OwnI w.heap.size 66 .u64 w' i.2 (wordsOf (inR (rs.take i.1)))) (fun i => rs.length - i.1)
      (fun w2 e2 => ⟨(0, v3), ⟨e3.trans e2, Nat.zero_le _, by dsimp only; rw [List.take_zero]; exact h3.ext e2⟩, (by repeat' (first | exact Sub.nil | refine Sub.val rfl (by first | with_reducible rfl | (congr 1; omega)) ?_ | refine Sub.same rfl ?_))⟩) ?_
    rintro ⟨k, so⟩ w1 ⟨he, hk, ho⟩
    dsimp only at hk ho ⊢
    have h1 := h.ext he
    by_cases hkl : k < rs.length
    · obtain ⟨u1, u2, u3, u4⟩ := hu.at k
      obtain ⟨-, hr2⟩ := hr k hkl
      have hfr := flip_run hr hu hkl
      repeat' (first
       |(refine oLA ?_;first
       |refine LA_pass rfl ?_
       |(refine oI ?_; refine LA_indexR rfl _ rfl (fun _ => rfl) rfl (by first | exact HasR.val (by assumption) | exact HasR.own | exact HasR.ownV (by assumption)) rfl (by omega) ?_)
       |(refine oLt 70 ?_; refine LA_loadC rfl (fun _ => rfl) (fun _ => rfl) rfl ?_)
       |(show LA _ _ _ _ (⟨some 5, .alloc _, _, _, _, _⟩ :: _) _; refine LA_stop (hK _ _ (LX_var rfl rfl (by decide) (fun _ => rfl) (fun _ => rfl) (fun _ => rfl) rfl (by intro u hu; simp [Value.cells] at hu; rcases hu with rfl | rfl <;> rfl) (fun bx wx ex hbx hbc => ?_))); clear hK K; refine LX_la (by kernel_rfl) (fun K hK => ?_))
       |(refine oF 0 ?_; refine LA_fieldAddr (a := ⟨bx, 0, none⟩) (a' := ⟨bx, 0, none⟩) rfl rfl (fun _ => rfl) ?_)
       |(refine oF 1 ?_; refine LA_fieldAddr (a := ⟨bx, 0, none⟩) (a' := ⟨bx, 1, none⟩) rfl rfl (fun _ => rfl) ?_)
       |(refine oLt 70 ?_; refine LA_loadBN rfl (fun _ => rfl) (fun _ => rfl) rfl hbc ?_)
       |(refine oLt 29 ?_; refine LA_loadB rfl (fun _ => rfl) rfl hbc rfl ?_)
       |(refine oLen ?_; refine LA_lenR rfl _ rfl rfl (by first | exact HasR.val (by assumption) | exact HasR.own | exact HasR.ownV (by assumption)) ?_)|(refine wOpB ?_;try dsimp only [Int.reduceToNat, Int.reducePow])|refine wOp ?_|(refine wOpD ?_;try dsimp only [Int.reduceToNat, Int.toNat_natCast])|(refine LA_cmp rfl rfl rfl rfl (fun hc => ?_) (fun hc => ?_)<;>dsimp only [cmpP] at hc)|(refine oCv ?_;first
       |(refine oC 40 ?_; refine LA_call3 (f := 40) rfl rfl rfl rfl rfl  (.pred (ownI w.heap.size 66 .u64 (wordsOf (inR (rs.take (k + 1)))))) (by intro u1 u2 u3 w e hu1 hu2 hu3; (try obtain rfl : u1 = _ := hu1); (try obtain rfl : u2 = _ := hu2); (try obtain rfl : u3 = _ := hu3); exact (wflipP _ _ (inR (rs.take k)) (OwnI.slI (ho.ext (ex.trans e))) _ _ (by omega) (by omega)).mono (ret_w (Nat.le_trans he.size (Nat.le_trans ex.size e.size)) hfr)) ?_))|(refine LA_nil (hK [] _ (LX_nil ?_));clear hK K)|(refine LA_nil (hK _ ?_);clear hK K))
       |(refine oCX ?_;first
       |refine wCX ?_|(refine wCR ?_;intro K hK))
       |(refine oPX ?_;first
       |refine wPX ?_)
       |(refine oLX ?_;first
       |refine LX_nil ?_))
      refine PX_pick 3 rfl (fun v4 w4 e4 h4 => ?_)
      have h4 : OwnI w.heap.size 66 .u64 w4 v4 (wordsOf (inR (rs.take (k + 1)))) := h4
      exact PX_rndV (k + 1, v4) (fun w5 e5 => ⟨he.trans (ex.trans (e4.trans e5)), hkl, h4.ext e5⟩) (by dsimp only; omega) (by repeat' (first | exact Sub.nil | refine Sub.val rfl (by first | with_reducible rfl | (congr 1; omega)) ?_ | refine Sub.same rfl ?_))
    · obtain rfl : k = rs.length := by omega
      rw [List.take_length] at ho
      repeat' (first
       |(refine oLA ?_;first
       |refine LA_pass rfl ?_|(refine wOpB ?_;try dsimp only [Int.reduceToNat, Int.reducePow])|refine wOp ?_|(refine wOpD ?_;try dsimp only [Int.reduceToNat, Int.toNat_natCast])|(refine LA_cmp rfl rfl rfl rfl (fun hc => ?_) (fun hc => ?_)<;>dsimp only [cmpP] at hc)|(refine LA_nil (hK [] _ (LX_nil ?_));clear hK K)|(refine LA_nil (hK _ ?_);clear hK K))
       |(refine oCX ?_;first
       |refine wCX ?_|(refine wCR ?_;intro K hK))
       |(refine oPX ?_;first
       |refine wPX ?_)
       |(refine oLX ?_;first
       |refine LX_nil ?_))
      exact PX_retP rfl rfl he (fun u w5 e5 hu' => by obtain rfl : u = _ := hu'; exact ho.ext e5)
theorem lays_cn {p : Nat → Bool} {kk : Int} : Lays (cnP A p kk) 4 27 :=
  ⟨fun v w h => by
    obtain ⟨kd, va, vw, vr, rfl, -, -, -, -, -, -, h1⟩ := Cn.parts h
    exact ⟨_, rfl, rfl, h1⟩, fun v w b cur j cs h hb => Cn.setRow h hb ⟨by decide, by decide, by decide⟩ cs⟩
theorem kind_cases (p : Nat → Bool) : ∃ n r : Nat, ∃ kq : Int, cnt p 65536 = n ∧ cnt (startsS p) 65536 = r ∧ kindP p = kq ∧ n ≤ 65536 ∧ r ≤ 65536 ∧
    ((n ≤ 4096 ∧ 2 + 4 * (r : Int) < 2 * n ∧ kq = 3) ∨ (n ≤ 4096 ∧ ¬ 2 + 4 * (r : Int) < 2 * n ∧ kq = 1) ∨ (¬ n ≤ 4096 ∧ 2 + 4 * (r : Int) < 8192 ∧ kq = 3) ∨ (¬ n ≤ 4096 ∧ ¬ 2 + 4 * (r : Int) < 8192 ∧ kq = 2)) := by
  refine ⟨_, _, _, rfl, rfl, rfl, cnt_le _ _, cnt_le _ _, ?_⟩
  unfold kindP leastP
  generalize cnt p 65536 = n
  generalize cnt (startsS p) 65536 = r
  by_cases h1 : n ≤ 4096
  · by_cases h2 : 2 + 4 * (r : Int) < 2 * n
    · exact .inl ⟨h1, h2, by simp [h1, h2]⟩
    · exact .inr (.inl ⟨h1, h2, by simp [h1, h2]⟩)
  · by_cases h2 : 2 + 4 * (r : Int) < 8192
    · exact .inr (.inr (.inl ⟨h1, h2, by simp [h1, h2]⟩))
    · exact .inr (.inr (.inr ⟨h1, h2, by simp [h1, h2]⟩))
set_option maxHeartbeats 4000000 in
theorem canon_c {w : World} {v : Value} {p : Nat → Bool} {kk : Int} (h : Cn A w v p kk) (hT : Tab w) (hA : Fsh A w) : Fc Tryd.prog 12 #[v] w (Ret w (.pred (cnP A p (kindP p)))) := by
  obtain ⟨n, r, kq, en, er, eq, h1, h2, hK⟩ := kind_cases p
  have hp := h.1
  have hk : ∀ w', Ext w w' → _ := fun w' e => kind_c (h.ext e)
  have hl : ∀ w', Ext w w' → _ := fun w' e => len_c (h.ext e)
  have hm : ∀ w', Ext w w' → _ := fun w' e => many_c (h.ext e)
  have hru : ∀ w', Ext w w' → _ := fun w' e => cruns_c (h.ext e) (hT.ext e)
  have ha : ∀ w', Ext w w' → _ := fun w' e => array_c (h.ext e) (hT.ext e)
  have hw : ∀ w', Ext w w' → _ := fun w' e => cwords_c (h.ext e)
  have hs : ∀ w', Ext w w' → Cn A w' v p kk := fun w' e => h.ext e
  obtain ⟨kd, va, vw, vr, rfl, -, -, -, -, k1, k2, -⟩ := h.parts
  rw [en] at hl; rw [er] at hm; rw [eq]
  clear h en er eq
  rcases hK with ⟨a1, a2, rfl⟩ | ⟨a1, a2, rfl⟩ | ⟨a1, a2, rfl⟩ | ⟨a1, a2, rfl⟩
  · skip
    by_cases hkk : kk = 3
    all_goals
      refine Fc.of (args := [_]) Tryd.func12 rfl rfl Tryd.ntmps12 (Nat.le_of_ble_eq_true rfl) ?_
      repeat' (first
       |(refine oLA ?_;first
       |refine LA_pass rfl ?_
       |refine wRcv ?_
       |refine LA_alloc rfl (fun _ => rfl) ?_
       |(refine LA_build2P (j1 := 3) (c := fun u => .agg #[.int .u8 3, .slice none 0 0, .slice none 0 0, u]) rfl rfl rfl (fun v1 w1 hv1 => by obtain ⟨a', c', rfl⟩ := (OwnR.slR hv1).isSlice; kernel_rfl) ?_)
       |(refine LA_build2P (j1 := 1) (c := fun u => .agg #[.int .u8 1, u, .slice none 0 0, .slice none 0 0]) rfl rfl rfl (fun v1 w1 hv1 => by obtain ⟨a', c', rfl⟩ := (OwnI.slI hv1).isSlice; kernel_rfl) ?_)
       |(refine LA_build2P (j1 := 2) (c := fun u => .agg #[.int .u8 2, .slice none 0 0, u, .slice none 0 0]) rfl rfl rfl (fun v1 w1 hv1 => by obtain ⟨a', c', rfl⟩ := (OwnI.slI hv1).isSlice; kernel_rfl) ?_)
       |(refine LA_stop (hK _ _ (LX_put (φ := cnP A p 3) (w0 := w) rfl rfl rfl lays_cn (fun v' w' e hv => ?_) rfl (fun _ => rfl) (Ext.refl _) (fun w' e' => ?_))); clear hK K)|(refine wOpB ?_;try dsimp only [Int.reduceToNat, Int.reducePow])|refine wOp ?_|(refine wOpD ?_;try dsimp only [Int.reduceToNat, Int.toNat_natCast])|(refine LA_cmp rfl rfl rfl rfl (fun hc => ?_) (fun hc => ?_)<;>dsimp only [cmpP] at hc)|(refine oCv ?_;first
       |(refine oC 20 ?_; refine LA_call1 (f := 20) rfl rfl rfl  (.val (.int .i64 n)) (by intro u1 w e hu1; (try obtain rfl : u1 = _ := hu1); exact hl _ e) ?_)
       |(refine oC 37 ?_; refine LA_call1 (f := 37) rfl rfl rfl  (.val (.int .i64 r)) (by intro u1 w e hu1; (try obtain rfl : u1 = _ := hu1); exact hm _ e) ?_)
       |(refine oC 13 ?_; refine LA_call1 (f := 13) rfl rfl rfl  (.val (.int .u8 kk)) (by intro u1 w e hu1; (try obtain rfl : u1 = _ := hu1); exact hk _ e) ?_)
       |(refine oC 19 ?_; refine LA_call1 (f := 19) rfl rfl rfl  (.pred (ownR _ 70 (runsL p))) (by intro u1 w e hu1; (try obtain rfl : u1 = _ := hu1); exact (hru _ e).mono (ret_baseR e.size rfl)) ?_)
       |(refine oC 15 ?_; refine LA_call1 (f := 15) rfl rfl rfl  (.pred (ownI _ 29 .u16 (listS p 65536))) (by intro u1 w e hu1; (try obtain rfl : u1 = _ := hu1); exact (ha _ e).mono (ret_base e.size)) ?_)
       |(refine oC 32 ?_; refine LA_call1 (f := 32) rfl rfl rfl  (.pred (ownI _ 66 .u64 (wordsOf p))) (by intro u1 w e hu1; (try obtain rfl : u1 = _ := hu1); exact (hw _ e).mono (ret_base e.size)) ?_))|(refine LA_nil (hK [] _ (LX_nil ?_));clear hK K)|(refine LA_nil (hK _ ?_);clear hK K))
       |(refine oCX ?_;first
       |refine wCX ?_|(refine wCR ?_;intro K hK))
       |(refine oPX ?_;first
       |refine wPX ?_
       |exact PX_retC rfl rfl rfl rfl rfl (by assumption))
       |(refine oLX ?_;first
       |refine LX_nil ?_))
      all_goals skip
      all_goals first
        | (obtain rfl : v' = _ := hv; exact hkk ▸ hs _ e)
        | (obtain ⟨u, rfl, hu⟩ := hv; exact Cn.rns hp rfl hu hA)

  · skip
    by_cases hkk : kk = 1
    all_goals
      refine Fc.of (args := [_]) Tryd.func12 rfl rfl Tryd.ntmps12 (Nat.le_of_ble_eq_true rfl) ?_
      repeat' (first
       |(refine oLA ?_;first
       |refine LA_pass rfl ?_
       |refine wRcv ?_
       |refine LA_alloc rfl (fun _ => rfl) ?_
       |(refine LA_build2P (j1 := 3) (c := fun u => .agg #[.int .u8 3, .slice none 0 0, .slice none 0 0, u]) rfl rfl rfl (fun v1 w1 hv1 => by obtain ⟨a', c', rfl⟩ := (OwnR.slR hv1).isSlice; kernel_rfl) ?_)
       |(refine LA_build2P (j1 := 1) (c := fun u => .agg #[.int .u8 1, u, .slice none 0 0, .slice none 0 0]) rfl rfl rfl (fun v1 w1 hv1 => by obtain ⟨a', c', rfl⟩ := (OwnI.slI hv1).isSlice; kernel_rfl) ?_)
       |(refine LA_build2P (j1 := 2) (c := fun u => .agg #[.int .u8 2, .slice none 0 0, u, .slice none 0 0]) rfl rfl rfl (fun v1 w1 hv1 => by obtain ⟨a', c', rfl⟩ := (OwnI.slI hv1).isSlice; kernel_rfl) ?_)
       |(refine LA_stop (hK _ _ (LX_put (φ := cnP A p 1) (w0 := w) rfl rfl rfl lays_cn (fun v' w' e hv => ?_) rfl (fun _ => rfl) (Ext.refl _) (fun w' e' => ?_))); clear hK K)|(refine wOpB ?_;try dsimp only [Int.reduceToNat, Int.reducePow])|refine wOp ?_|(refine wOpD ?_;try dsimp only [Int.reduceToNat, Int.toNat_natCast])|(refine LA_cmp rfl rfl rfl rfl (fun hc => ?_) (fun hc => ?_)<;>dsimp only [cmpP] at hc)|(refine oCv ?_;first
       |(refine oC 20 ?_; refine LA_call1 (f := 20) rfl rfl rfl  (.val (.int .i64 n)) (by intro u1 w e hu1; (try obtain rfl : u1 = _ := hu1); exact hl _ e) ?_)
       |(refine oC 37 ?_; refine LA_call1 (f := 37) rfl rfl rfl  (.val (.int .i64 r)) (by intro u1 w e hu1; (try obtain rfl : u1 = _ := hu1); exact hm _ e) ?_)
       |(refine oC 13 ?_; refine LA_call1 (f := 13) rfl rfl rfl  (.val (.int .u8 kk)) (by intro u1 w e hu1; (try obtain rfl : u1 = _ := hu1); exact hk _ e) ?_)
       |(refine oC 19 ?_; refine LA_call1 (f := 19) rfl rfl rfl  (.pred (ownR _ 70 (runsL p))) (by intro u1 w e hu1; (try obtain rfl : u1 = _ := hu1); exact (hru _ e).mono (ret_baseR e.size rfl)) ?_)
       |(refine oC 15 ?_; refine LA_call1 (f := 15) rfl rfl rfl  (.pred (ownI _ 29 .u16 (listS p 65536))) (by intro u1 w e hu1; (try obtain rfl : u1 = _ := hu1); exact (ha _ e).mono (ret_base e.size)) ?_)
       |(refine oC 32 ?_; refine LA_call1 (f := 32) rfl rfl rfl  (.pred (ownI _ 66 .u64 (wordsOf p))) (by intro u1 w e hu1; (try obtain rfl : u1 = _ := hu1); exact (hw _ e).mono (ret_base e.size)) ?_))|(refine LA_nil (hK [] _ (LX_nil ?_));clear hK K)|(refine LA_nil (hK _ ?_);clear hK K))
       |(refine oCX ?_;first
       |refine wCX ?_|(refine wCR ?_;intro K hK))
       |(refine oPX ?_;first
       |refine wPX ?_
       |exact PX_retC rfl rfl rfl rfl rfl (by assumption))
       |(refine oLX ?_;first
       |refine LX_nil ?_))
      all_goals skip
      all_goals first
        | (obtain rfl : v' = _ := hv; exact hkk ▸ hs _ e)
        | (obtain ⟨u, rfl, hu⟩ := hv; exact Cn.arr hp rfl hu hA)

  · skip
    by_cases hkk : kk = 3
    all_goals
      refine Fc.of (args := [_]) Tryd.func12 rfl rfl Tryd.ntmps12 (Nat.le_of_ble_eq_true rfl) ?_
      repeat' (first
       |(refine oLA ?_;first
       |refine LA_pass rfl ?_
       |refine wRcv ?_
       |refine LA_alloc rfl (fun _ => rfl) ?_
       |(refine LA_build2P (j1 := 3) (c := fun u => .agg #[.int .u8 3, .slice none 0 0, .slice none 0 0, u]) rfl rfl rfl (fun v1 w1 hv1 => by obtain ⟨a', c', rfl⟩ := (OwnR.slR hv1).isSlice; kernel_rfl) ?_)
       |(refine LA_build2P (j1 := 1) (c := fun u => .agg #[.int .u8 1, u, .slice none 0 0, .slice none 0 0]) rfl rfl rfl (fun v1 w1 hv1 => by obtain ⟨a', c', rfl⟩ := (OwnI.slI hv1).isSlice; kernel_rfl) ?_)
       |(refine LA_build2P (j1 := 2) (c := fun u => .agg #[.int .u8 2, .slice none 0 0, u, .slice none 0 0]) rfl rfl rfl (fun v1 w1 hv1 => by obtain ⟨a', c', rfl⟩ := (OwnI.slI hv1).isSlice; kernel_rfl) ?_)
       |(refine LA_stop (hK _ _ (LX_put (φ := cnP A p 3) (w0 := w) rfl rfl rfl lays_cn (fun v' w' e hv => ?_) rfl (fun _ => rfl) (Ext.refl _) (fun w' e' => ?_))); clear hK K)|(refine wOpB ?_;try dsimp only [Int.reduceToNat, Int.reducePow])|refine wOp ?_|(refine wOpD ?_;try dsimp only [Int.reduceToNat, Int.toNat_natCast])|(refine LA_cmp rfl rfl rfl rfl (fun hc => ?_) (fun hc => ?_)<;>dsimp only [cmpP] at hc)|(refine oCv ?_;first
       |(refine oC 20 ?_; refine LA_call1 (f := 20) rfl rfl rfl  (.val (.int .i64 n)) (by intro u1 w e hu1; (try obtain rfl : u1 = _ := hu1); exact hl _ e) ?_)
       |(refine oC 37 ?_; refine LA_call1 (f := 37) rfl rfl rfl  (.val (.int .i64 r)) (by intro u1 w e hu1; (try obtain rfl : u1 = _ := hu1); exact hm _ e) ?_)
       |(refine oC 13 ?_; refine LA_call1 (f := 13) rfl rfl rfl  (.val (.int .u8 kk)) (by intro u1 w e hu1; (try obtain rfl : u1 = _ := hu1); exact hk _ e) ?_)
       |(refine oC 19 ?_; refine LA_call1 (f := 19) rfl rfl rfl  (.pred (ownR _ 70 (runsL p))) (by intro u1 w e hu1; (try obtain rfl : u1 = _ := hu1); exact (hru _ e).mono (ret_baseR e.size rfl)) ?_)
       |(refine oC 15 ?_; refine LA_call1 (f := 15) rfl rfl rfl  (.pred (ownI _ 29 .u16 (listS p 65536))) (by intro u1 w e hu1; (try obtain rfl : u1 = _ := hu1); exact (ha _ e).mono (ret_base e.size)) ?_)
       |(refine oC 32 ?_; refine LA_call1 (f := 32) rfl rfl rfl  (.pred (ownI _ 66 .u64 (wordsOf p))) (by intro u1 w e hu1; (try obtain rfl : u1 = _ := hu1); exact (hw _ e).mono (ret_base e.size)) ?_))|(refine LA_nil (hK [] _ (LX_nil ?_));clear hK K)|(refine LA_nil (hK _ ?_);clear hK K))
       |(refine oCX ?_;first
       |refine wCX ?_|(refine wCR ?_;intro K hK))
       |(refine oPX ?_;first
       |refine wPX ?_
       |exact PX_retC rfl rfl rfl rfl rfl (by assumption))
       |(refine oLX ?_;first
       |refine LX_nil ?_))
      all_goals skip
      all_goals first
        | (obtain rfl : v' = _ := hv; exact hkk ▸ hs _ e)
        | (obtain ⟨u, rfl, hu⟩ := hv; exact Cn.rns hp rfl hu hA)

  · skip
    by_cases hkk : kk = 2
    all_goals
      refine Fc.of (args := [_]) Tryd.func12 rfl rfl Tryd.ntmps12 (Nat.le_of_ble_eq_true rfl) ?_
      repeat' (first
       |(refine oLA ?_;first
       |refine LA_pass rfl ?_
       |refine wRcv ?_
       |refine LA_alloc rfl (fun _ => rfl) ?_
       |(refine LA_build2P (j1 := 3) (c := fun u => .agg #[.int .u8 3, .slice none 0 0, .slice none 0 0, u]) rfl rfl rfl (fun v1 w1 hv1 => by obtain ⟨a', c', rfl⟩ := (OwnR.slR hv1).isSlice; kernel_rfl) ?_)
       |(refine LA_build2P (j1 := 1) (c := fun u => .agg #[.int .u8 1, u, .slice none 0 0, .slice none 0 0]) rfl rfl rfl (fun v1 w1 hv1 => by obtain ⟨a', c', rfl⟩ := (OwnI.slI hv1).isSlice; kernel_rfl) ?_)
       |(refine LA_build2P (j1 := 2) (c := fun u => .agg #[.int .u8 2, .slice none 0 0, u, .slice none 0 0]) rfl rfl rfl (fun v1 w1 hv1 => by obtain ⟨a', c', rfl⟩ := (OwnI.slI hv1).isSlice; kernel_rfl) ?_)
       |(refine LA_stop (hK _ _ (LX_put (φ := cnP A p 2) (w0 := w) rfl rfl rfl lays_cn (fun v' w' e hv => ?_) rfl (fun _ => rfl) (Ext.refl _) (fun w' e' => ?_))); clear hK K)|(refine wOpB ?_;try dsimp only [Int.reduceToNat, Int.reducePow])|refine wOp ?_|(refine wOpD ?_;try dsimp only [Int.reduceToNat, Int.toNat_natCast])|(refine LA_cmp rfl rfl rfl rfl (fun hc => ?_) (fun hc => ?_)<;>dsimp only [cmpP] at hc)|(refine oCv ?_;first
       |(refine oC 20 ?_; refine LA_call1 (f := 20) rfl rfl rfl  (.val (.int .i64 n)) (by intro u1 w e hu1; (try obtain rfl : u1 = _ := hu1); exact hl _ e) ?_)
       |(refine oC 37 ?_; refine LA_call1 (f := 37) rfl rfl rfl  (.val (.int .i64 r)) (by intro u1 w e hu1; (try obtain rfl : u1 = _ := hu1); exact hm _ e) ?_)
       |(refine oC 13 ?_; refine LA_call1 (f := 13) rfl rfl rfl  (.val (.int .u8 kk)) (by intro u1 w e hu1; (try obtain rfl : u1 = _ := hu1); exact hk _ e) ?_)
       |(refine oC 19 ?_; refine LA_call1 (f := 19) rfl rfl rfl  (.pred (ownR _ 70 (runsL p))) (by intro u1 w e hu1; (try obtain rfl : u1 = _ := hu1); exact (hru _ e).mono (ret_baseR e.size rfl)) ?_)
       |(refine oC 15 ?_; refine LA_call1 (f := 15) rfl rfl rfl  (.pred (ownI _ 29 .u16 (listS p 65536))) (by intro u1 w e hu1; (try obtain rfl : u1 = _ := hu1); exact (ha _ e).mono (ret_base e.size)) ?_)
       |(refine oC 32 ?_; refine LA_call1 (f := 32) rfl rfl rfl  (.pred (ownI _ 66 .u64 (wordsOf p))) (by intro u1 w e hu1; (try obtain rfl : u1 = _ := hu1); exact (hw _ e).mono (ret_base e.size)) ?_))|(refine LA_nil (hK [] _ (LX_nil ?_));clear hK K)|(refine LA_nil (hK _ ?_);clear hK K))
       |(refine oCX ?_;first
       |refine wCX ?_|(refine wCR ?_;intro K hK))
       |(refine oPX ?_;first
       |refine wPX ?_
       |exact PX_retC rfl rfl rfl rfl rfl (by assumption))
       |(refine oLX ?_;first
       |refine LX_nil ?_))
      all_goals skip
      all_goals first
        | (obtain rfl : v' = _ := hv; exact hkk ▸ hs _ e)
        | (obtain ⟨u, rfl, hu⟩ := hv; exact Cn.wrd hp rfl hu hA)

end Go.Proofs.YtjiacignpmabcaaDoor
