import Derived.Test.YtjiacignpmabcaaDoorC5

set_option linter.unusedSimpArgs false
set_option linter.unusedVariables false
set_option maxRecDepth 3000
namespace Go.Proofs.YtjiacignpmabcaaDoor
open Go.LA Go.ArrP Go.RowKit
variable {A : Nat → Prop}
theorem SlI.nil16 {w : World} : SlI .u16 w (.slice none 0 0) [] := ⟨rfl, none, 0, rfl, Nat.le_refl _, Nat.zero_le _, fun _ => rfl, .inl rfl⟩
theorem flip_run {rs : List Rn} (hr : Right rs) (hu : U16 rs) {k : Nat} (hk : k < rs.length) : wordsOf (flipM (inR (rs.take k)) (fst rs k) (fst rs k + mor rs k + 1)) = wordsOf (inR (rs.take (k + 1))) := wordsOf_congr fun i _ => by
  have h0 := (right_pre hr hu k (by omega)).1 i
  have h1 := (hr k hk).1
  rw [take_run hk, inR_app, inR_one]
  unfold flipM
  by_cases h2 : fst rs k ≤ (i : Int)
  · rw [h0 (by omega), decide_eq_true h2]
    by_cases h3 : (i : Int) ≤ fst rs k + mor rs k
    · rw [decide_eq_true (by omega : (i : Int) < fst rs k + mor rs k + 1), decide_eq_true h3]; rfl
    · rw [decide_eq_false (by omega : ¬ (i : Int) < fst rs k + mor rs k + 1), decide_eq_false h3]; rfl
  · rw [decide_eq_false h2]
    cases inR (rs.take k) i <;> rfl

theorem clone16_c (w : World) (v : Value) (xs : List Int) (h : SlI .u16 w v xs) (hb : xs.length ≤ 65536) : Fc Tryd.prog 36 #[v] w (Ret w (.pred (ownI w.heap.size 29 .u16 xs))) :=
  clone_c16 w v xs.length (xs.map (Value.int .u16)) h ints_one (by omega)
theorem clone64_c (w : World) (v : Value) (xs : List Int) (h : SlI .u64 w v xs) (hb : xs.length ≤ 65536) : Fc Tryd.prog 42 #[v] w (Ret w (.pred (ownI w.heap.size 66 .u64 xs))) :=
  clone_c64 w v xs.length (xs.map (Value.int .u64)) h ints_one (by omega)
theorem cloneR_c (w : World) (v : Value) (rs : List Rn) (h : SlR w v rs) (hb : rs.length ≤ 65536) : Fc Tryd.prog 43 #[v] w (Ret w (.pred (ownR w.heap.size 70 rs))) :=
  clone_run w v rs.length (cellsR rs) h (cellsR_one rs) (by omega)
theorem len16 (p : Nat → Bool) : (listS p 65536).length ≤ 65536 := by rw [listS_len]; exact cnt_le p 65536
theorem array_c {w : World} {v : Value} {p : Nat → Bool} {kk : Int} (h : Cn A w v p kk) (hT : Tab w) : Fc Tryd.prog 15 #[v] w (Ret w (.pred (ownI w.heap.size 29 .u16 (listS p 65536)))) := by
  have hl : listR (runsL p) = listS p 65536 := list_opn p 65536
  have hn : (runsL p).length ≤ 70000 := by have := runsL_len p; omega
  obtain ⟨hp, ⟨rfl, kd, va, hkd, rfl, ho⟩ | ⟨rfl, vw, rfl, ho⟩ | ⟨rfl, vr, rfl, ho⟩⟩ := h
  · refine Fc.of (args := [_]) Tryd.func15 rfl rfl Tryd.ntmps15 (Nat.le_of_ble_eq_true rfl) ?_
    repeat' (first
     |(refine oLA ?_;first
     |refine LA_pass rfl ?_
     |refine wRcv ?_|(refine wOpB ?_;try dsimp only [Int.reduceToNat, Int.reducePow])|refine wOp ?_|(refine wOpD ?_;try dsimp only [Int.reduceToNat, Int.toNat_natCast])|(refine LA_cmp rfl rfl rfl rfl (fun hc => ?_) (fun hc => ?_)<;>dsimp only [cmpP] at hc)|(refine oCv ?_;first
     |(refine oC 36 ?_; refine LA_call1 (f := 36) rfl rfl rfl  (.pred (ownI _ 29 .u16 (listS p 65536))) (by intro u1 w e hu1; (try obtain rfl : u1 = _ := hu1); exact (clone16_c _ _ _ (ho.ext e).slI (len16 p)).mono (ret_base e.size)) ?_))|(refine LA_nil (hK [] _ (LX_nil ?_));clear hK K)|(refine LA_nil (hK _ ?_);clear hK K))
     |(refine oCX ?_;first
     |refine wCX ?_|(refine wCR ?_;intro K hK))
     |(refine oPX ?_;first
     |refine wPX ?_)
     |(refine oLX ?_;first
     |refine LX_nil ?_))
    all_goals skip
    all_goals exact PX_retP rfl rfl (Ext.refl _) (fun _ _ _ hv => hv)
  · refine Fc.of (args := [_]) Tryd.func15 rfl rfl Tryd.ntmps15 (Nat.le_of_ble_eq_true rfl) ?_
    repeat' (first
     |(refine oLA ?_;first
     |refine LA_pass rfl ?_
     |refine wRcv ?_|(refine wOpB ?_;try dsimp only [Int.reduceToNat, Int.reducePow])|refine wOp ?_|(refine wOpD ?_;try dsimp only [Int.reduceToNat, Int.toNat_natCast])|(refine LA_cmp rfl rfl rfl rfl (fun hc => ?_) (fun hc => ?_)<;>dsimp only [cmpP] at hc)|(refine oCv ?_;first
     |(refine oC 38 ?_; refine LA_call1 (f := 38) rfl rfl rfl  (.pred (ownI _ 29 .u16 (listS p 65536))) (by intro u1 w e hu1; (try obtain rfl : u1 = _ := hu1); exact (wlistP _ _ p (ho.ext e).slI (hT.ext e)).mono (ret_base e.size)) ?_))|(refine LA_nil (hK [] _ (LX_nil ?_));clear hK K)|(refine LA_nil (hK _ ?_);clear hK K))
     |(refine oCX ?_;first
     |refine wCX ?_|(refine wCR ?_;intro K hK))
     |(refine oPX ?_;first
     |refine wPX ?_)
     |(refine oLX ?_;first
     |refine LX_nil ?_))
    all_goals skip
    all_goals exact PX_retP rfl rfl (Ext.refl _) (fun _ _ _ hv => hv)
  · refine Fc.of (args := [_]) Tryd.func15 rfl rfl Tryd.ntmps15 (Nat.le_of_ble_eq_true rfl) ?_
    repeat' (first
     |(refine oLA ?_;first
     |refine LA_pass rfl ?_
     |refine wRcv ?_|(refine wOpB ?_;try dsimp only [Int.reduceToNat, Int.reducePow])|refine wOp ?_|(refine wOpD ?_;try dsimp only [Int.reduceToNat, Int.toNat_natCast])|(refine LA_cmp rfl rfl rfl rfl (fun hc => ?_) (fun hc => ?_)<;>dsimp only [cmpP] at hc)|(refine oCv ?_;first
     |(refine oC 39 ?_; refine LA_call1 (f := 39) rfl rfl rfl  (.pred (ownI _ 29 .u16 (listS p 65536))) (by intro u1 w e hu1; (try obtain rfl : u1 = _ := hu1); exact by rw [← hl]; exact (rlistR_c _ _ _ (ho.ext e).slR (runs_u16 p) (runs_right p) hn).mono (ret_base e.size)) ?_))|(refine LA_nil (hK [] _ (LX_nil ?_));clear hK K)|(refine LA_nil (hK _ ?_);clear hK K))
     |(refine oCX ?_;first
     |refine wCX ?_|(refine wCR ?_;intro K hK))
     |(refine oPX ?_;first
     |refine wPX ?_)
     |(refine oLX ?_;first
     |refine LX_nil ?_))
    all_goals skip
    all_goals exact PX_retP rfl rfl (Ext.refl _) (fun _ _ _ hv => hv)
theorem many_c {w : World} {v : Value} {p : Nat → Bool} {kk : Int} (h : Cn A w v p kk) : Fc Tryd.prog 37 #[v] w (Ret w (.val (.int .i64 (cnt (startsS p) 65536)))) := by
  have hm : (runsL p).length = cnt (startsS p) 65536 := many_opn p 65536
  have hr := runsS_listS p
  obtain ⟨hp, ⟨rfl, kd, va, hkd, rfl, ho⟩ | ⟨rfl, vw, rfl, ho⟩ | ⟨rfl, vr, rfl, ho⟩⟩ := h
  · refine Fc.of (args := [_]) Tryd.func37 rfl rfl Tryd.ntmps37 (Nat.le_of_ble_eq_true rfl) ?_
    repeat' (first
     |(refine oLA ?_;first
     |refine LA_pass rfl ?_
     |refine wRcv ?_|(refine wOpB ?_;try dsimp only [Int.reduceToNat, Int.reducePow])|refine wOp ?_|(refine wOpD ?_;try dsimp only [Int.reduceToNat, Int.toNat_natCast])|(refine LA_cmp rfl rfl rfl rfl (fun hc => ?_) (fun hc => ?_)<;>dsimp only [cmpP] at hc)|(refine oCv ?_;first
     |(refine oC 71 ?_; refine LA_call1 (f := 71) rfl rfl rfl  (.val (.int .i64 (cnt (startsS p) 65536))) (by intro u1 w e hu1; (try obtain rfl : u1 = _ := hu1); exact ret_eq (by rw [hr]) (runs_c _ _ _ (ho.ext e).slI)) ?_))|(refine LA_nil (hK [] _ (LX_nil ?_));clear hK K)|(refine LA_nil (hK _ ?_);clear hK K))
     |(refine oCX ?_;first
     |refine wCX ?_|(refine wCR ?_;intro K hK))
     |(refine oPX ?_;first
     |refine wPX ?_)
     |(refine oLX ?_;first
     |refine LX_nil ?_))
    all_goals skip
    all_goals exact PX_retE rfl rfl (Ext.refl _) rfl
  · refine Fc.of (args := [_]) Tryd.func37 rfl rfl Tryd.ntmps37 (Nat.le_of_ble_eq_true rfl) ?_
    repeat' (first
     |(refine oLA ?_;first
     |refine LA_pass rfl ?_
     |refine wRcv ?_|(refine wOpB ?_;try dsimp only [Int.reduceToNat, Int.reducePow])|refine wOp ?_|(refine wOpD ?_;try dsimp only [Int.reduceToNat, Int.toNat_natCast])|(refine LA_cmp rfl rfl rfl rfl (fun hc => ?_) (fun hc => ?_)<;>dsimp only [cmpP] at hc)|(refine oCv ?_;first
     |(refine oC 70 ?_; refine LA_call1 (f := 70) rfl rfl rfl  (.val (.int .i64 (cnt (startsS p) 65536))) (by intro u1 w e hu1; (try obtain rfl : u1 = _ := hu1); exact wrunsP _ _ p (ho.ext e).slI) ?_))|(refine LA_nil (hK [] _ (LX_nil ?_));clear hK K)|(refine LA_nil (hK _ ?_);clear hK K))
     |(refine oCX ?_;first
     |refine wCX ?_|(refine wCR ?_;intro K hK))
     |(refine oPX ?_;first
     |refine wPX ?_)
     |(refine oLX ?_;first
     |refine LX_nil ?_))
    all_goals skip
    all_goals exact PX_retE rfl rfl (Ext.refl _) rfl
  · have hs := ho.slR
    rw [← hm]
    refine Fc.of (args := [_]) Tryd.func37 rfl rfl Tryd.ntmps37 (Nat.le_of_ble_eq_true rfl) ?_
    repeat' (first
     |(refine oLA ?_;first
     |refine LA_pass rfl ?_
     |refine wRcv ?_
     |(refine oLen ?_; refine LA_lenR rfl _ rfl rfl (HasR.val hs) ?_)|(refine wOpB ?_;try dsimp only [Int.reduceToNat, Int.reducePow])|refine wOp ?_|(refine wOpD ?_;try dsimp only [Int.reduceToNat, Int.toNat_natCast])|(refine LA_cmp rfl rfl rfl rfl (fun hc => ?_) (fun hc => ?_)<;>dsimp only [cmpP] at hc)|(refine LA_nil (hK [] _ (LX_nil ?_));clear hK K)|(refine LA_nil (hK _ ?_);clear hK K))
     |(refine oCX ?_;first
     |refine wCX ?_|(refine wCR ?_;intro K hK))
     |(refine oPX ?_;first
     |refine wPX ?_)
     |(refine oLX ?_;first
     |refine LX_nil ?_))
    all_goals skip
    all_goals exact PX_retE rfl rfl (Ext.refl _) rfl
def sizeP (p : Nat → Bool) (kk : Int) : Int := if kk = 2 then 8192 else if kk = 3 then 2 + 4 * (cnt (startsS p) 65536 : Int) else 2 * (cnt p 65536 : Int)
theorem size_c {w : World} {v : Value} {p : Nat → Bool} {kk : Int} (h : Cn A w v p kk) : Fc Tryd.prog 21 #[v] w (Ret w (.val (.int .i64 (sizeP p kk)))) := by
  have hm : (runsL p).length = cnt (startsS p) 65536 := many_opn p 65536
  have hm' := runsL_len p
  have hl := listS_len p 65536
  have hl' := len16 p
  obtain ⟨hp, ⟨rfl, kd, va, hkd, rfl, ho⟩ | ⟨rfl, vw, rfl, ho⟩ | ⟨rfl, vr, rfl, ho⟩⟩ := h
  · have hs := ho.slI
    have hz : sizeP p 1 = 2 * ((listS p 65536).length : Int) := by rw [hl]; rfl
    rw [hz]
    obtain ⟨n, hn⟩ : ∃ n, n = (listS p 65536).length := ⟨_, rfl⟩
    rw [← hn] at hl' ⊢
    refine Fc.of (args := [_]) Tryd.func21 rfl rfl Tryd.ntmps21 (Nat.le_of_ble_eq_true rfl) ?_
    repeat' (first
     |(refine oLA ?_;first
     |refine LA_pass rfl ?_
     |refine wRcv ?_
     |(refine oLen ?_; refine LA_len rfl _ rfl rfl (HasI.val hs).c ?_; rw [← hn])|(refine wOpB ?_;try dsimp only [Int.reduceToNat, Int.reducePow])|refine wOp ?_|(refine wOpD ?_;try dsimp only [Int.reduceToNat, Int.toNat_natCast])|(refine LA_cmp rfl rfl rfl rfl (fun hc => ?_) (fun hc => ?_)<;>dsimp only [cmpP] at hc)|(refine LA_nil (hK [] _ (LX_nil ?_));clear hK K)|(refine LA_nil (hK _ ?_);clear hK K))
     |(refine oCX ?_;first
     |refine wCX ?_|(refine wCR ?_;intro K hK))
     |(refine oPX ?_;first
     |refine wPX ?_)
     |(refine oLX ?_;first
     |refine LX_nil ?_))
    all_goals skip
    all_goals exact PX_retE rfl rfl (Ext.refl _) rfl
  · refine Fc.of (args := [_]) Tryd.func21 rfl rfl Tryd.ntmps21 (Nat.le_of_ble_eq_true rfl) ?_
    repeat' (first
     |(refine oLA ?_;first
     |refine LA_pass rfl ?_
     |refine wRcv ?_|(refine wOpB ?_;try dsimp only [Int.reduceToNat, Int.reducePow])|refine wOp ?_|(refine wOpD ?_;try dsimp only [Int.reduceToNat, Int.toNat_natCast])|(refine LA_cmp rfl rfl rfl rfl (fun hc => ?_) (fun hc => ?_)<;>dsimp only [cmpP] at hc)|(refine LA_nil (hK [] _ (LX_nil ?_));clear hK K)|(refine LA_nil (hK _ ?_);clear hK K))
     |(refine oCX ?_;first
     |refine wCX ?_|(refine wCR ?_;intro K hK))
     |(refine oPX ?_;first
     |refine wPX ?_)
     |(refine oLX ?_;first
     |refine LX_nil ?_))
    all_goals skip
    all_goals exact PX_retE rfl rfl (Ext.refl _) rfl
  · have hs := ho.slR
    have hz : sizeP p 3 = 2 + 4 * ((runsL p).length : Int) := by rw [hm]; rfl
    rw [hz]
    obtain ⟨n, hn⟩ : ∃ n, n = (runsL p).length := ⟨_, rfl⟩
    rw [← hn] at hm' ⊢
    refine Fc.of (args := [_]) Tryd.func21 rfl rfl Tryd.ntmps21 (Nat.le_of_ble_eq_true rfl) ?_
    repeat' (first
     |(refine oLA ?_;first
     |refine LA_pass rfl ?_
     |refine wRcv ?_
     |(refine oLen ?_; refine LA_lenR rfl _ rfl rfl (HasR.val hs) ?_; rw [← hn])|(refine wOpB ?_;try dsimp only [Int.reduceToNat, Int.reducePow])|refine wOp ?_|(refine wOpD ?_;try dsimp only [Int.reduceToNat, Int.toNat_natCast])|(refine LA_cmp rfl rfl rfl rfl (fun hc => ?_) (fun hc => ?_)<;>dsimp only [cmpP] at hc)|(refine LA_nil (hK [] _ (LX_nil ?_));clear hK K)|(refine LA_nil (hK _ ?_);clear hK K))
     |(refine oCX ?_;first
     |refine wCX ?_|(refine wCR ?_;intro K hK))
     |(refine oPX ?_;first
     |refine wPX ?_)
     |(refine oLX ?_;first
     |refine LX_nil ?_))
    all_goals skip
    all_goals exact PX_retE rfl rfl (Ext.refl _) rfl
theorem cruns_c {w : World} {v : Value} {p : Nat → Bool} {kk : Int} (h : Cn A w v p kk) (hT : Tab w) : Fc Tryd.prog 19 #[v] w (Ret w (.pred (ownR w.heap.size 70 (runsL p)))) := by
  have hm' := runsL_len p
  have hmm : runsL (memb (listS p 65536)) = runsL p := runsL_congr fun i hi => memb_listS p hi
  have ha : ∀ w', Ext w w' → _ := fun w' e => array_c (h.ext e) (hT.ext e)
  obtain ⟨hp, ⟨rfl, kd, va, hkd, rfl, ho⟩ | ⟨rfl, vw, rfl, ho⟩ | ⟨rfl, vr, rfl, ho⟩⟩ := h
  · refine Fc.of (args := [_]) Tryd.func19 rfl rfl Tryd.ntmps19 (Nat.le_of_ble_eq_true rfl) ?_
    repeat' (first
     |(refine oLA ?_;first
     |refine LA_pass rfl ?_
     |refine wRcv ?_|(refine wOpB ?_;try dsimp only [Int.reduceToNat, Int.reducePow])|refine wOp ?_|(refine wOpD ?_;try dsimp only [Int.reduceToNat, Int.toNat_natCast])|(refine LA_cmp rfl rfl rfl rfl (fun hc => ?_) (fun hc => ?_)<;>dsimp only [cmpP] at hc)|(refine oCv ?_;first
     |(refine oC 15 ?_; refine LA_call1 (f := 15) rfl rfl rfl  (.pred (ownI _ 29 .u16 (listS p 65536))) (by intro u1 w e hu1; (try obtain rfl : u1 = _ := hu1); exact (ha _ e).mono (ret_base e.size)) ?_)
     |(refine oC 44 ?_; refine LA_call1 (f := 44) rfl rfl rfl  (.pred (ownR _ 70 (runsL p))) (by intro u1 w e hu1; (try obtain rfl : u1 = _ := hu1); exact (rofR_c _ _ _ (OwnI.slI hu1) (listS_inc p _) (listS_low p)).mono (ret_baseR e.size hmm)) ?_))|(refine LA_nil (hK [] _ (LX_nil ?_));clear hK K)|(refine LA_nil (hK _ ?_);clear hK K))
     |(refine oCX ?_;first
     |refine wCX ?_|(refine wCR ?_;intro K hK))
     |(refine oPX ?_;first
     |refine wPX ?_)
     |(refine oLX ?_;first
     |refine LX_nil ?_))
    all_goals skip
    all_goals exact PX_retP rfl rfl (Ext.refl _) (fun _ _ _ hv => hv)
  · refine Fc.of (args := [_]) Tryd.func19 rfl rfl Tryd.ntmps19 (Nat.le_of_ble_eq_true rfl) ?_
    repeat' (first
     |(refine oLA ?_;first
     |refine LA_pass rfl ?_
     |refine wRcv ?_|(refine wOpB ?_;try dsimp only [Int.reduceToNat, Int.reducePow])|refine wOp ?_|(refine wOpD ?_;try dsimp only [Int.reduceToNat, Int.toNat_natCast])|(refine LA_cmp rfl rfl rfl rfl (fun hc => ?_) (fun hc => ?_)<;>dsimp only [cmpP] at hc)|(refine oCv ?_;first
     |(refine oC 15 ?_; refine LA_call1 (f := 15) rfl rfl rfl  (.pred (ownI _ 29 .u16 (listS p 65536))) (by intro u1 w e hu1; (try obtain rfl : u1 = _ := hu1); exact (ha _ e).mono (ret_base e.size)) ?_)
     |(refine oC 44 ?_; refine LA_call1 (f := 44) rfl rfl rfl  (.pred (ownR _ 70 (runsL p))) (by intro u1 w e hu1; (try obtain rfl : u1 = _ := hu1); exact (rofR_c _ _ _ (OwnI.slI hu1) (listS_inc p _) (listS_low p)).mono (ret_baseR e.size hmm)) ?_))|(refine LA_nil (hK [] _ (LX_nil ?_));clear hK K)|(refine LA_nil (hK _ ?_);clear hK K))
     |(refine oCX ?_;first
     |refine wCX ?_|(refine wCR ?_;intro K hK))
     |(refine oPX ?_;first
     |refine wPX ?_)
     |(refine oLX ?_;first
     |refine LX_nil ?_))
    all_goals skip
    all_goals exact PX_retP rfl rfl (Ext.refl _) (fun _ _ _ hv => hv)
  · refine Fc.of (args := [_]) Tryd.func19 rfl rfl Tryd.ntmps19 (Nat.le_of_ble_eq_true rfl) ?_
    repeat' (first
     |(refine oLA ?_;first
     |refine LA_pass rfl ?_
     |refine wRcv ?_|(refine wOpB ?_;try dsimp only [Int.reduceToNat, Int.reducePow])|refine wOp ?_|(refine wOpD ?_;try dsimp only [Int.reduceToNat, Int.toNat_natCast])|(refine LA_cmp rfl rfl rfl rfl (fun hc => ?_) (fun hc => ?_)<;>dsimp only [cmpP] at hc)|(refine oCv ?_;first
     |(refine oC 43 ?_; refine LA_call1 (f := 43) rfl rfl rfl  (.pred (ownR _ 70 (runsL p))) (by intro u1 w e hu1; (try obtain rfl : u1 = _ := hu1); exact (cloneR_c _ _ _ (ho.ext e).slR hm').mono (ret_baseR e.size rfl)) ?_))|(refine LA_nil (hK [] _ (LX_nil ?_));clear hK K)|(refine LA_nil (hK _ ?_);clear hK K))
     |(refine oCX ?_;first
     |refine wCX ?_|(refine wCR ?_;intro K hK))
     |(refine oPX ?_;first
     |refine wPX ?_)
     |(refine oLX ?_;first
     |refine LX_nil ?_))
    all_goals skip
    all_goals exact PX_retP rfl rfl (Ext.refl _) (fun _ _ _ hv => hv)
end Go.Proofs.YtjiacignpmabcaaDoor
