import Derived.Test.YtjiacignpmabcaaDoorC4

set_option linter.unusedSimpArgs false
set_option linter.unusedVariables false
set_option maxRecDepth 3000
namespace Go.Proofs.YtjiacignpmabcaaDoor
open Go.LA Go.ArrP Go.RowKit
variable {A : Nat → Prop}
theorem el_c16 : El Tryd.prog 22 29 (.int .u16 0) 1 2 := ⟨rfl, rfl, rfl, by decide⟩
theorem clone_c16 (w : World) (v : Value) (n : Nat) (cs : List Value) (h : SlC w v n 1 cs) (h1 : ∀ u ∈ cs, u.oneCell' = true) (hb : n * 2 ≤ 140737488355328) : Fc Tryd.prog 36 #[v] w (Ret w (.pred (ownC w.heap.size 29 1 n cs))) := by
  obtain ⟨h0, a, cap, rfl, hc, hm, hn, hcs⟩ := id h
  have hlen := h.len
  cases a with
  | none =>
    obtain rfl := hn rfl
    obtain rfl : n = 0 := by omega
    obtain rfl : cs = [] := List.eq_nil_of_length_eq_zero (by omega)
    refine Fc.of (args := [_]) Tryd.func36 rfl rfl Tryd.ntmps36 (Nat.le_of_ble_eq_true rfl) ?_
    repeat' (first
     |(refine oLA ?_;first
     |refine LA_pass rfl ?_
     |refine LA_binV (c := .bool true) rfl rfl rfl (fun _ => rfl) ?_|(refine wOpB ?_;try dsimp only [Int.reduceToNat, Int.reducePow])|refine wOp ?_|(refine wOpD ?_;try dsimp only [Int.reduceToNat, Int.toNat_natCast])|(refine LA_cmp rfl rfl rfl rfl (fun hc => ?_) (fun hc => ?_)<;>dsimp only [cmpP] at hc)|(refine LA_nil (hK [] _ (LX_nil ?_));clear hK K)|(refine LA_nil (hK _ ?_);clear hK K))
     |(refine oCX ?_;first
     |refine wCX ?_|(refine wCR ?_;intro K hK))
     |(refine oPX ?_;first
     |refine wPX ?_
     |exact PX_retP rfl rfl (Ext.refl _) (fun u w2 e2 hu => by obtain rfl : u = _ := hu; exact Own.nil))
     |(refine oLX ?_;first
     |refine LX_nil ?_))
  | some a =>
    refine Fc.of (args := [_]) Tryd.func36 rfl rfl Tryd.ntmps36 (Nat.le_of_ble_eq_true rfl) ?_
    repeat' (first
     |(refine oLA ?_;first
     |refine LA_pass rfl ?_
     |refine LA_binV (c := .bool false) rfl rfl rfl (fun _ => rfl) ?_
     |refine LA_lit0 29 (s := 1) rfl (fun _ => by kernel_rfl) ?_
     |(refine LA_stop (hK _ _ (LX_pick 5 rfl (fun v5 w5 e5 h5 => ?_))); clear hK K; have h6 := h.ext e5; have ho : Own w.heap.size _ _ w5 v5 0 [] := h5; refine LX_la (by kernel_rfl) (fun K hK => ?_))
     |(refine LA_stop (hK _ _ (LX_append rfl (by decide) el_c16 rfl ho rfl (HasC.val h6) h1 (by rw [Nat.zero_add]; unfold maxLen; omega) (by rw [Nat.zero_add]; exact hb) e5.size (fun v' w2 w3 he2 ho3 hg3 => ?_))); clear hK K; dsimp only [vals]; refine LX_la (by kernel_rfl) (fun K hK => ?_))|(refine wOpB ?_;try dsimp only [Int.reduceToNat, Int.reducePow])|refine wOp ?_|(refine wOpD ?_;try dsimp only [Int.reduceToNat, Int.toNat_natCast])|(refine LA_cmp rfl rfl rfl rfl (fun hc => ?_) (fun hc => ?_)<;>dsimp only [cmpP] at hc)|(refine LA_nil (hK [] _ (LX_nil ?_));clear hK K)|(refine LA_nil (hK _ ?_);clear hK K))
     |(refine oCX ?_;first
     |refine wCX ?_|(refine wCR ?_;intro K hK))
     |(refine oPX ?_;first
     |refine wPX ?_)
     |(refine oLX ?_;first
     |refine LX_nil ?_))
    exact PX_retP rfl rfl ((e5.trans he2).grown hg3 (fun q hq => (Own.lt ho q hq).1)) (fun u w4 e4 hu => by
      obtain rfl : u = _ := hu
      have h9 : Own w.heap.size 29 1 w3 u n cs := by simpa using ho3
      exact h9.ext e4)

theorem el_c64 : El Tryd.prog 24 66 (.int .u64 0) 1 8 := ⟨rfl, rfl, rfl, by decide⟩
theorem clone_c64 (w : World) (v : Value) (n : Nat) (cs : List Value) (h : SlC w v n 1 cs) (h1 : ∀ u ∈ cs, u.oneCell' = true) (hb : n * 8 ≤ 140737488355328) : Fc Tryd.prog 42 #[v] w (Ret w (.pred (ownC w.heap.size 66 1 n cs))) := by
  obtain ⟨h0, a, cap, rfl, hc, hm, hn, hcs⟩ := id h
  have hlen := h.len
  cases a with
  | none =>
    obtain rfl := hn rfl
    obtain rfl : n = 0 := by omega
    obtain rfl : cs = [] := List.eq_nil_of_length_eq_zero (by omega)
    refine Fc.of (args := [_]) Tryd.func42 rfl rfl Tryd.ntmps42 (Nat.le_of_ble_eq_true rfl) ?_
    repeat' (first
     |(refine oLA ?_;first
     |refine LA_pass rfl ?_
     |refine LA_binV (c := .bool true) rfl rfl rfl (fun _ => rfl) ?_|(refine wOpB ?_;try dsimp only [Int.reduceToNat, Int.reducePow])|refine wOp ?_|(refine wOpD ?_;try dsimp only [Int.reduceToNat, Int.toNat_natCast])|(refine LA_cmp rfl rfl rfl rfl (fun hc => ?_) (fun hc => ?_)<;>dsimp only [cmpP] at hc)|(refine LA_nil (hK [] _ (LX_nil ?_));clear hK K)|(refine LA_nil (hK _ ?_);clear hK K))
     |(refine oCX ?_;first
     |refine wCX ?_|(refine wCR ?_;intro K hK))
     |(refine oPX ?_;first
     |refine wPX ?_
     |exact PX_retP rfl rfl (Ext.refl _) (fun u w2 e2 hu => by obtain rfl : u = _ := hu; exact Own.nil))
     |(refine oLX ?_;first
     |refine LX_nil ?_))
  | some a =>
    refine Fc.of (args := [_]) Tryd.func42 rfl rfl Tryd.ntmps42 (Nat.le_of_ble_eq_true rfl) ?_
    repeat' (first
     |(refine oLA ?_;first
     |refine LA_pass rfl ?_
     |refine LA_binV (c := .bool false) rfl rfl rfl (fun _ => rfl) ?_
     |refine LA_lit0 66 (s := 1) rfl (fun _ => by kernel_rfl) ?_
     |(refine LA_stop (hK _ _ (LX_pick 5 rfl (fun v5 w5 e5 h5 => ?_))); clear hK K; have h6 := h.ext e5; have ho : Own w.heap.size _ _ w5 v5 0 [] := h5; refine LX_la (by kernel_rfl) (fun K hK => ?_))
     |(refine LA_stop (hK _ _ (LX_append rfl (by decide) el_c64 rfl ho rfl (HasC.val h6) h1 (by rw [Nat.zero_add]; unfold maxLen; omega) (by rw [Nat.zero_add]; exact hb) e5.size (fun v' w2 w3 he2 ho3 hg3 => ?_))); clear hK K; dsimp only [vals]; refine LX_la (by kernel_rfl) (fun K hK => ?_))|(refine wOpB ?_;try dsimp only [Int.reduceToNat, Int.reducePow])|refine wOp ?_|(refine wOpD ?_;try dsimp only [Int.reduceToNat, Int.toNat_natCast])|(refine LA_cmp rfl rfl rfl rfl (fun hc => ?_) (fun hc => ?_)<;>dsimp only [cmpP] at hc)|(refine LA_nil (hK [] _ (LX_nil ?_));clear hK K)|(refine LA_nil (hK _ ?_);clear hK K))
     |(refine oCX ?_;first
     |refine wCX ?_|(refine wCR ?_;intro K hK))
     |(refine oPX ?_;first
     |refine wPX ?_)
     |(refine oLX ?_;first
     |refine LX_nil ?_))
    exact PX_retP rfl rfl ((e5.trans he2).grown hg3 (fun q hq => (Own.lt ho q hq).1)) (fun u w4 e4 hu => by
      obtain rfl : u = _ := hu
      have h9 : Own w.heap.size 66 1 w3 u n cs := by simpa using ho3
      exact h9.ext e4)

theorem kind_c {w : World} {v : Value} {p : Nat → Bool} {kk : Int} (h : Cn A w v p kk) : Fc Tryd.prog 13 #[v] w (Ret w (.val (.int .u8 kk))) := by
  obtain ⟨kd, va, vw, vr, rfl, -, h1, h2, rfl, -⟩ := h.parts
  refine Fc.of (args := [_]) Tryd.func13 rfl rfl Tryd.ntmps13 (Nat.le_of_ble_eq_true rfl) ?_
  repeat' (first
   |(refine oLA ?_;first
   |refine LA_pass rfl ?_
   |refine wRcv ?_
   |(refine LA_max2 rfl rfl rfl ?_)|(refine wOpB ?_;try dsimp only [Int.reduceToNat, Int.reducePow])|refine wOp ?_|(refine wOpD ?_;try dsimp only [Int.reduceToNat, Int.toNat_natCast])|(refine LA_cmp rfl rfl rfl rfl (fun hc => ?_) (fun hc => ?_)<;>dsimp only [cmpP] at hc)|(refine LA_nil (hK [] _ (LX_nil ?_));clear hK K)|(refine LA_nil (hK _ ?_);clear hK K))
   |(refine oCX ?_;first
   |refine wCX ?_|(refine wCR ?_;intro K hK))
   |(refine oPX ?_;first
   |refine wPX ?_)
   |(refine oLX ?_;first
   |refine LX_nil ?_))
  all_goals skip
  all_goals exact PX_retE rfl rfl (Ext.refl _) rfl
theorem arrlen_c {w : World} {va vw vr : Value} {kd : Int} {xs : List Int} (h : SlI .u16 w va xs) : Fc Tryd.prog 45 #[.agg #[.int .u8 kd, va, vw, vr]] w (Ret w (.val (.int .i64 xs.length))) := by
  have hl := h.len
  refine Fc.of (args := [_]) Tryd.func45 rfl rfl Tryd.ntmps45 (Nat.le_of_ble_eq_true rfl) ?_
  repeat' (first
   |(refine oLA ?_;first
   |refine LA_pass rfl ?_
   |refine wRcv ?_|(refine wOpB ?_;try dsimp only [Int.reduceToNat, Int.reducePow])|refine wOp ?_|(refine wOpD ?_;try dsimp only [Int.reduceToNat, Int.toNat_natCast])|(refine LA_cmp rfl rfl rfl rfl (fun hc => ?_) (fun hc => ?_)<;>dsimp only [cmpP] at hc)|(refine LA_nil (hK [] _ (LX_nil ?_));clear hK K)|(refine LA_nil (hK _ ?_);clear hK K))
   |(refine oCX ?_;first
   |refine wCX ?_|(refine wCR ?_;intro K hK))
   |(refine oPX ?_;first
   |refine wPX ?_)
   |(refine oLX ?_;first
   |refine LX_nil ?_))
  all_goals skip
  all_goals exact PX_retE rfl rfl (Ext.refl _) rfl
theorem wrdlen_c {w : World} {va vw vr : Value} {kd : Int} {p : Nat → Bool} (h : SlI .u64 w vw (wordsOf p)) : Fc Tryd.prog 46 #[.agg #[.int .u8 kd, va, vw, vr]] w (Ret w (.val (.int .i64 (cnt p 65536)))) := by
  refine Fc.of (args := [_]) Tryd.func46 rfl rfl Tryd.ntmps46 (Nat.le_of_ble_eq_true rfl) ?_
  repeat' (first
   |(refine oLA ?_;first
   |refine LA_pass rfl ?_
   |refine wRcv ?_|(refine wOpB ?_;try dsimp only [Int.reduceToNat, Int.reducePow])|refine wOp ?_|(refine wOpD ?_;try dsimp only [Int.reduceToNat, Int.toNat_natCast])|(refine LA_cmp rfl rfl rfl rfl (fun hc => ?_) (fun hc => ?_)<;>dsimp only [cmpP] at hc)|(refine oCv ?_;first
   |(refine oC 77 ?_; refine LA_call1 (f := 77) rfl rfl rfl  (.val (.int .i64 (cnt p 65536))) (by intro u1 w e hu1; (try obtain rfl : u1 = _ := hu1); exact wlenP _ _ p (h.ext e)) ?_))|(refine LA_nil (hK [] _ (LX_nil ?_));clear hK K)|(refine LA_nil (hK _ ?_);clear hK K))
   |(refine oCX ?_;first
   |refine wCX ?_|(refine wCR ?_;intro K hK))
   |(refine oPX ?_;first
   |refine wPX ?_)
   |(refine oLX ?_;first
   |refine LX_nil ?_))
  all_goals skip
  all_goals exact PX_retE rfl rfl (Ext.refl _) rfl
theorem runlen_c {w : World} {va vw vr : Value} {kd : Int} {p : Nat → Bool} (h : SlR w vr (runsL p)) : Fc Tryd.prog 47 #[.agg #[.int .u8 kd, va, vw, vr]] w (Ret w (.val (.int .i64 (cnt p 65536)))) := by
  have hl : lenR (runsL p) = cnt p 65536 := len_opn p 65536
  rw [← hl]
  have hn : (runsL p).length ≤ 70000 := by have := runsL_len p; omega
  refine Fc.of (args := [_]) Tryd.func47 rfl rfl Tryd.ntmps47 (Nat.le_of_ble_eq_true rfl) ?_
  repeat' (first
   |(refine oLA ?_;first
   |refine LA_pass rfl ?_
   |refine wRcv ?_|(refine wOpB ?_;try dsimp only [Int.reduceToNat, Int.reducePow])|refine wOp ?_|(refine wOpD ?_;try dsimp only [Int.reduceToNat, Int.toNat_natCast])|(refine LA_cmp rfl rfl rfl rfl (fun hc => ?_) (fun hc => ?_)<;>dsimp only [cmpP] at hc)|(refine oCv ?_;first
   |(refine oC 78 ?_; refine LA_call1 (f := 78) rfl rfl rfl  (.val (.int .i64 (lenR (runsL p)))) (by intro u1 w e hu1; (try obtain rfl : u1 = _ := hu1); exact rlenR_c _ _ (runsL p) (h.ext e) (runs_u16 p) hn) ?_))|(refine LA_nil (hK [] _ (LX_nil ?_));clear hK K)|(refine LA_nil (hK _ ?_);clear hK K))
   |(refine oCX ?_;first
   |refine wCX ?_|(refine wCR ?_;intro K hK))
   |(refine oPX ?_;first
   |refine wPX ?_)
   |(refine oLX ?_;first
   |refine LX_nil ?_))
  all_goals skip
  all_goals exact PX_retE rfl rfl (Ext.refl _) rfl
theorem len_c {w : World} {v : Value} {p : Nat → Bool} {kk : Int} (h : Cn A w v p kk) : Fc Tryd.prog 20 #[v] w (Ret w (.val (.int .i64 (cnt p 65536)))) := by
  have hk : ∀ w', Ext w w' → _ := fun w' e => kind_c (h.ext e)
  have hll := listS_len p 65536
  obtain ⟨hp, ⟨rfl, kd, va, hkd, rfl, ho⟩ | ⟨rfl, vw, rfl, ho⟩ | ⟨rfl, vr, rfl, ho⟩⟩ := h
  · skip
    refine Fc.of (args := [_]) Tryd.func20 rfl rfl Tryd.ntmps20 (Nat.le_of_ble_eq_true rfl) ?_
    repeat' (first
     |(refine oLA ?_;first
     |refine LA_pass rfl ?_
     |refine wRcv ?_
     |refine LA_build3 (c := .agg #[.nilFunc, .func (.func 45) #[] #[], .func (.func 46) #[] #[], .func (.func 47) #[] #[]]) rfl rfl rfl rfl (fun _ => by kernel_rfl) ?_
     |(refine LA_indexA 1 (c := .func (.func 45) #[] #[]) rfl rfl (fun _ => rfl) rfl rfl rfl (by decide) (fun _ => by kernel_rfl) ?_)|(refine wOpB ?_;try dsimp only [Int.reduceToNat, Int.reducePow])|refine wOp ?_|(refine wOpD ?_;try dsimp only [Int.reduceToNat, Int.toNat_natCast])|(refine LA_cmp rfl rfl rfl rfl (fun hc => ?_) (fun hc => ?_)<;>dsimp only [cmpP] at hc)|(refine oCv ?_;first
     |(refine oC 13 ?_; refine LA_call1 (f := 13) rfl rfl rfl _ (by intro u1 w' e hu1; obtain rfl : u1 = _ := hu1; exact hk w' e) ?_)
     |(refine LA_call1 (f := 45) rfl rfl rfl (.val (.int .i64 (cnt p 65536))) (by intro u1 w' e hu1; obtain rfl : u1 = _ := hu1;exact by rw [← hll]; exact arrlen_c (ho.ext e).slI) ?_))|(refine LA_nil (hK [] _ (LX_nil ?_));clear hK K)|(refine LA_nil (hK _ ?_);clear hK K))
     |(refine oCX ?_;first
     |refine wCX ?_|(refine wCR ?_;intro K hK))
     |(refine oPX ?_;first
     |refine wPX ?_)
     |(refine oLX ?_;first
     |refine LX_nil ?_))
    all_goals skip
    all_goals exact PX_retE rfl rfl (Ext.refl _) rfl

  · skip
    refine Fc.of (args := [_]) Tryd.func20 rfl rfl Tryd.ntmps20 (Nat.le_of_ble_eq_true rfl) ?_
    repeat' (first
     |(refine oLA ?_;first
     |refine LA_pass rfl ?_
     |refine wRcv ?_
     |refine LA_build3 (c := .agg #[.nilFunc, .func (.func 45) #[] #[], .func (.func 46) #[] #[], .func (.func 47) #[] #[]]) rfl rfl rfl rfl (fun _ => by kernel_rfl) ?_
     |(refine LA_indexA 2 (c := .func (.func 46) #[] #[]) rfl rfl (fun _ => rfl) rfl rfl rfl (by decide) (fun _ => by kernel_rfl) ?_)|(refine wOpB ?_;try dsimp only [Int.reduceToNat, Int.reducePow])|refine wOp ?_|(refine wOpD ?_;try dsimp only [Int.reduceToNat, Int.toNat_natCast])|(refine LA_cmp rfl rfl rfl rfl (fun hc => ?_) (fun hc => ?_)<;>dsimp only [cmpP] at hc)|(refine oCv ?_;first
     |(refine oC 13 ?_; refine LA_call1 (f := 13) rfl rfl rfl _ (by intro u1 w' e hu1; obtain rfl : u1 = _ := hu1; exact hk w' e) ?_)
     |(refine LA_call1 (f := 46) rfl rfl rfl (.val (.int .i64 (cnt p 65536))) (by intro u1 w' e hu1; obtain rfl : u1 = _ := hu1;exact wrdlen_c (ho.ext e).slI) ?_))|(refine LA_nil (hK [] _ (LX_nil ?_));clear hK K)|(refine LA_nil (hK _ ?_);clear hK K))
     |(refine oCX ?_;first
     |refine wCX ?_|(refine wCR ?_;intro K hK))
     |(refine oPX ?_;first
     |refine wPX ?_)
     |(refine oLX ?_;first
     |refine LX_nil ?_))
    all_goals skip
    all_goals exact PX_retE rfl rfl (Ext.refl _) rfl

  · skip
    refine Fc.of (args := [_]) Tryd.func20 rfl rfl Tryd.ntmps20 (Nat.le_of_ble_eq_true rfl) ?_
    repeat' (first
     |(refine oLA ?_;first
     |refine LA_pass rfl ?_
     |refine wRcv ?_
     |refine LA_build3 (c := .agg #[.nilFunc, .func (.func 45) #[] #[], .func (.func 46) #[] #[], .func (.func 47) #[] #[]]) rfl rfl rfl rfl (fun _ => by kernel_rfl) ?_
     |(refine LA_indexA 3 (c := .func (.func 47) #[] #[]) rfl rfl (fun _ => rfl) rfl rfl rfl (by decide) (fun _ => by kernel_rfl) ?_)|(refine wOpB ?_;try dsimp only [Int.reduceToNat, Int.reducePow])|refine wOp ?_|(refine wOpD ?_;try dsimp only [Int.reduceToNat, Int.toNat_natCast])|(refine LA_cmp rfl rfl rfl rfl (fun hc => ?_) (fun hc => ?_)<;>dsimp only [cmpP] at hc)|(refine oCv ?_;first
     |(refine oC 13 ?_; refine LA_call1 (f := 13) rfl rfl rfl _ (by intro u1 w' e hu1; obtain rfl : u1 = _ := hu1; exact hk w' e) ?_)
     |(refine LA_call1 (f := 47) rfl rfl rfl (.val (.int .i64 (cnt p 65536))) (by intro u1 w' e hu1; obtain rfl : u1 = _ := hu1;exact runlen_c (ho.ext e).slR) ?_))|(refine LA_nil (hK [] _ (LX_nil ?_));clear hK K)|(refine LA_nil (hK _ ?_);clear hK K))
     |(refine oCX ?_;first
     |refine wCX ?_|(refine wCR ?_;intro K hK))
     |(refine oPX ?_;first
     |refine wPX ?_)
     |(refine oLX ?_;first
     |refine LX_nil ?_))
    all_goals skip
    all_goals exact PX_retE rfl rfl (Ext.refl _) rfl

/-! ### Is a number there? -/
theorem found_P (p : Nat → Bool) (x : Nat) (hx : x < 65536) : foundS (listS p 65536) (x : Int) = p x := by
  rw [found_iff _ (listS_inc p _)]; exact memb_listS p hx
theorem arrhas_c {w : World} {va vw vr : Value} {kd : Int} {p : Nat → Bool} {x : Nat} (h : SlI .u16 w va (listS p 65536)) (hx : x < 65536) : Fc Tryd.prog 67 #[.agg #[.int .u8 kd, va, vw, vr], .int .u16 x] w (Ret w (.val (.bool (p x)))) := by
  have hf := found_P p x hx
  have hn : (listS p 65536).length ≤ 4611686018427387903 := by rw [listS_len]; have := cnt_le p 65536; omega
  refine Fc.of (args := [_, _]) Tryd.func67 rfl rfl Tryd.ntmps67 (Nat.le_of_ble_eq_true rfl) ?_
  repeat' (first
   |(refine oLA ?_;first
   |refine LA_pass rfl ?_
   |refine wRcv ?_|(refine wOpB ?_;try dsimp only [Int.reduceToNat, Int.reducePow])|refine wOp ?_|(refine wOpD ?_;try dsimp only [Int.reduceToNat, Int.toNat_natCast])|(refine LA_cmp rfl rfl rfl rfl (fun hc => ?_) (fun hc => ?_)<;>dsimp only [cmpP] at hc)|(refine oCv ?_;first
   |(refine oC 96 ?_; refine LA_call2 (f := 96) rfl rfl rfl rfl  (.tup2 (.val (.int .i64 (bsS (listS p 65536) x))) (.val (.bool (p x)))) (by intro u1 u2 w e hu1 hu2; (try obtain rfl : u1 = _ := hu1); (try obtain rfl : u2 = _ := hu2); exact ret_tup2 rfl (by rw [hf]) (find_c _ _ (listS p 65536) x (h.ext e) hn)) ?_))|(refine LA_nil (hK [] _ (LX_nil ?_));clear hK K)|(refine LA_nil (hK _ ?_);clear hK K))
   |(refine oCX ?_;first
   |refine wCX ?_|(refine wCR ?_;intro K hK))
   |(refine oPX ?_;first
   |refine wPX ?_)
   |(refine oLX ?_;first
   |refine LX_nil ?_))
  all_goals skip
  all_goals exact PX_retE rfl rfl (Ext.refl _) rfl
theorem wrdhas_c {w : World} {va vw vr : Value} {kd : Int} {p : Nat → Bool} {x : Nat} (h : SlI .u64 w vw (wordsOf p)) (hx : x < 65536) : Fc Tryd.prog 68 #[.agg #[.int .u8 kd, va, vw, vr], .int .u16 x] w (Ret w (.val (.bool (p x)))) := by
  refine Fc.of (args := [_, _]) Tryd.func68 rfl rfl Tryd.ntmps68 (Nat.le_of_ble_eq_true rfl) ?_
  repeat' (first
   |(refine oLA ?_;first
   |refine LA_pass rfl ?_
   |refine wRcv ?_|(refine wOpB ?_;try dsimp only [Int.reduceToNat, Int.reducePow])|refine wOp ?_|(refine wOpD ?_;try dsimp only [Int.reduceToNat, Int.toNat_natCast])|(refine LA_cmp rfl rfl rfl rfl (fun hc => ?_) (fun hc => ?_)<;>dsimp only [cmpP] at hc)|(refine oCv ?_;first
   |(refine oC 97 ?_; refine LA_call2 (f := 97) rfl rfl rfl rfl  (.val (.bool (p x))) (by intro u1 u2 w e hu1 hu2; (try obtain rfl : u1 = _ := hu1); (try obtain rfl : u2 = _ := hu2); exact whasP _ _ p (h.ext e) x hx) ?_))|(refine LA_nil (hK [] _ (LX_nil ?_));clear hK K)|(refine LA_nil (hK _ ?_);clear hK K))
   |(refine oCX ?_;first
   |refine wCX ?_|(refine wCR ?_;intro K hK))
   |(refine oPX ?_;first
   |refine wPX ?_)
   |(refine oLX ?_;first
   |refine LX_nil ?_))
  all_goals skip
  all_goals exact PX_retE rfl rfl (Ext.refl _) rfl
theorem runhas_c {w : World} {va vw vr : Value} {kd : Int} {p : Nat → Bool} {x : Nat} (h : SlR w vr (runsL p)) (hx : x < 65536) : Fc Tryd.prog 69 #[.agg #[.int .u8 kd, va, vw, vr], .int .u16 x] w (Ret w (.val (.bool (p x)))) := by
  rw [← inR_runs p hx]
  have hn : (runsL p).length ≤ 70000 := by have := runsL_len p; omega
  refine Fc.of (args := [_, _]) Tryd.func69 rfl rfl Tryd.ntmps69 (Nat.le_of_ble_eq_true rfl) ?_
  repeat' (first
   |(refine oLA ?_;first
   |refine LA_pass rfl ?_
   |refine wRcv ?_|(refine wOpB ?_;try dsimp only [Int.reduceToNat, Int.reducePow])|refine wOp ?_|(refine wOpD ?_;try dsimp only [Int.reduceToNat, Int.toNat_natCast])|(refine LA_cmp rfl rfl rfl rfl (fun hc => ?_) (fun hc => ?_)<;>dsimp only [cmpP] at hc)|(refine oCv ?_;first
   |(refine oC 98 ?_; refine LA_call2 (f := 98) rfl rfl rfl rfl  (.val (.bool (inR (runsL p) x))) (by intro u1 u2 w e hu1 hu2; (try obtain rfl : u1 = _ := hu1); (try obtain rfl : u2 = _ := hu2); exact rhasR_c _ _ (runsL p) x (h.ext e) (runs_u16 p) (runs_right p) hx hn) ?_))|(refine LA_nil (hK [] _ (LX_nil ?_));clear hK K)|(refine LA_nil (hK _ ?_);clear hK K))
   |(refine oCX ?_;first
   |refine wCX ?_|(refine wCR ?_;intro K hK))
   |(refine oPX ?_;first
   |refine wPX ?_)
   |(refine oLX ?_;first
   |refine LX_nil ?_))
  all_goals skip
  all_goals exact PX_retE rfl rfl (Ext.refl _) rfl
theorem has_c {w : World} {v : Value} {p : Nat → Bool} {kk : Int} {x : Nat} (h : Cn A w v p kk) (hx : x < 65536) : Fc Tryd.prog 34 #[v, .int .u16 x] w (Ret w (.val (.bool (p x)))) := by
  have hk : ∀ w', Ext w w' → _ := fun w' e => kind_c (h.ext e)
  obtain ⟨hp, ⟨rfl, kd, va, hkd, rfl, ho⟩ | ⟨rfl, vw, rfl, ho⟩ | ⟨rfl, vr, rfl, ho⟩⟩ := h
  · skip
    refine Fc.of (args := [_, _]) Tryd.func34 rfl rfl Tryd.ntmps34 (Nat.le_of_ble_eq_true rfl) ?_
    repeat' (first
     |(refine oLA ?_;first
     |refine LA_pass rfl ?_
     |refine wRcv ?_
     |refine LA_build3 (c := .agg #[.nilFunc, .func (.func 67) #[] #[], .func (.func 68) #[] #[], .func (.func 69) #[] #[]]) rfl rfl rfl rfl (fun _ => by kernel_rfl) ?_
     |(refine LA_indexA 1 (c := .func (.func 67) #[] #[]) rfl rfl (fun _ => rfl) rfl rfl rfl (by decide) (fun _ => by kernel_rfl) ?_)|(refine wOpB ?_;try dsimp only [Int.reduceToNat, Int.reducePow])|refine wOp ?_|(refine wOpD ?_;try dsimp only [Int.reduceToNat, Int.toNat_natCast])|(refine LA_cmp rfl rfl rfl rfl (fun hc => ?_) (fun hc => ?_)<;>dsimp only [cmpP] at hc)|(refine oCv ?_;first
     |(refine oC 13 ?_; refine LA_call1 (f := 13) rfl rfl rfl _ (by intro u1 w' e hu1; obtain rfl : u1 = _ := hu1; exact hk w' e) ?_)
     |(refine LA_call2 (f := 67) rfl rfl rfl rfl (.val (.bool (p x))) (by intro u1 u2 w' e hu1 hu2; obtain rfl : u1 = _ := hu1; obtain rfl : u2 = _ := hu2;exact arrhas_c (ho.ext e).slI hx) ?_))|(refine LA_nil (hK [] _ (LX_nil ?_));clear hK K)|(refine LA_nil (hK _ ?_);clear hK K))
     |(refine oCX ?_;first
     |refine wCX ?_|(refine wCR ?_;intro K hK))
     |(refine oPX ?_;first
     |refine wPX ?_)
     |(refine oLX ?_;first
     |refine LX_nil ?_))
    all_goals skip
    all_goals exact PX_retE rfl rfl (Ext.refl _) rfl

  · skip
    refine Fc.of (args := [_, _]) Tryd.func34 rfl rfl Tryd.ntmps34 (Nat.le_of_ble_eq_true rfl) ?_
    repeat' (first
     |(refine oLA ?_;first
     |refine LA_pass rfl ?_
     |refine wRcv ?_
     |refine LA_build3 (c := .agg #[.nilFunc, .func (.func 67) #[] #[], .func (.func 68) #[] #[], .func (.func 69) #[] #[]]) rfl rfl rfl rfl (fun _ => by kernel_rfl) ?_
     |(refine LA_indexA 2 (c := .func (.func 68) #[] #[]) rfl rfl (fun _ => rfl) rfl rfl rfl (by decide) (fun _ => by kernel_rfl) ?_)|(refine wOpB ?_;try dsimp only [Int.reduceToNat, Int.reducePow])|refine wOp ?_|(refine wOpD ?_;try dsimp only [Int.reduceToNat, Int.toNat_natCast])|(refine LA_cmp rfl rfl rfl rfl (fun hc => ?_) (fun hc => ?_)<;>dsimp only [cmpP] at hc)|(refine oCv ?_;first
     |(refine oC 13 ?_; refine LA_call1 (f := 13) rfl rfl rfl _ (by intro u1 w' e hu1; obtain rfl : u1 = _ := hu1; exact hk w' e) ?_)
     |(refine LA_call2 (f := 68) rfl rfl rfl rfl (.val (.bool (p x))) (by intro u1 u2 w' e hu1 hu2; obtain rfl : u1 = _ := hu1; obtain rfl : u2 = _ := hu2;exact wrdhas_c (ho.ext e).slI hx) ?_))|(refine LA_nil (hK [] _ (LX_nil ?_));clear hK K)|(refine LA_nil (hK _ ?_);clear hK K))
     |(refine oCX ?_;first
     |refine wCX ?_|(refine wCR ?_;intro K hK))
     |(refine oPX ?_;first
     |refine wPX ?_)
     |(refine oLX ?_;first
     |refine LX_nil ?_))
    all_goals skip
    all_goals exact PX_retE rfl rfl (Ext.refl _) rfl

  · skip
    refine Fc.of (args := [_, _]) Tryd.func34 rfl rfl Tryd.ntmps34 (Nat.le_of_ble_eq_true rfl) ?_
    repeat' (first
     |(refine oLA ?_;first
     |refine LA_pass rfl ?_
     |refine wRcv ?_
     |refine LA_build3 (c := .agg #[.nilFunc, .func (.func 67) #[] #[], .func (.func 68) #[] #[], .func (.func 69) #[] #[]]) rfl rfl rfl rfl (fun _ => by kernel_rfl) ?_
     |(refine LA_indexA 3 (c := .func (.func 69) #[] #[]) rfl rfl (fun _ => rfl) rfl rfl rfl (by decide) (fun _ => by kernel_rfl) ?_)|(refine wOpB ?_;try dsimp only [Int.reduceToNat, Int.reducePow])|refine wOp ?_|(refine wOpD ?_;try dsimp only [Int.reduceToNat, Int.toNat_natCast])|(refine LA_cmp rfl rfl rfl rfl (fun hc => ?_) (fun hc => ?_)<;>dsimp only [cmpP] at hc)|(refine oCv ?_;first
     |(refine oC 13 ?_; refine LA_call1 (f := 13) rfl rfl rfl _ (by intro u1 w' e hu1; obtain rfl : u1 = _ := hu1; exact hk w' e) ?_)
     |(refine LA_call2 (f := 69) rfl rfl rfl rfl (.val (.bool (p x))) (by intro u1 u2 w' e hu1 hu2; obtain rfl : u1 = _ := hu1; obtain rfl : u2 = _ := hu2;exact runhas_c (ho.ext e).slR hx) ?_))|(refine LA_nil (hK [] _ (LX_nil ?_));clear hK K)|(refine LA_nil (hK _ ?_);clear hK K))
     |(refine oCX ?_;first
     |refine wCX ?_|(refine wCR ?_;intro K hK))
     |(refine oPX ?_;first
     |refine wPX ?_)
     |(refine oLX ?_;first
     |refine LX_nil ?_))
    all_goals skip
    all_goals exact PX_retE rfl rfl (Ext.refl _) rfl

end Go.Proofs.YtjiacignpmabcaaDoor
