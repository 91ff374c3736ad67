import Derived.Test.YtfcioiobhpcngaaGreatDoorM7
import Derived.Test.YtfcioiobhpcngaaGreatDoorM11
section
set_option linter.unusedSimpArgs false
set_option linter.unusedVariables false
set_option maxRecDepth 3000
namespace Go.Proofs.YtfcioiobhpcngaaGreatDoor
open Go.LA Go.ArrP Go.RowKit
variable {A : Nat → Prop}
theorem el_c16 : El Tryz.prog 52 72 (.int .u16 0) 1 2 := ⟨rfl, rfl, rfl, by decide⟩
theorem clone_c16 (w : World) (v : Value) (n : Nat) (cs : List Value) (h : SlC w v n 1 cs) (h1 : ∀ u ∈ cs, u.oneCell' = true) (hb : n * 2 ≤ 140737488355328) : Fc Tryz.prog 55 #[v] w (Ret w (.pred (ownC w.heap.size 72 1 n cs))) := by
  obtain ⟨h0, a, cap, rfl, hc, hm, hn, hcs⟩ := id h
  have hlen := h.len
  cases a with
  | none =>
    obtain rfl := hn rfl
    obtain rfl : n = 0 := by omega
    obtain rfl : cs = [] := List.eq_nil_of_length_eq_zero (by omega)
    refine Fc.of (args := [_]) Tryz.func55 rfl rfl Tryz.ntmps55 (Nat.le_of_ble_eq_true rfl) ?_
    repeat' (first|(refine oLA ?_;first|refine LA_pass rfl ?_|refine LA_binV (c := .bool true) rfl rfl rfl (fun _ => rfl) ?_|refine wOp ?_|(refine wCm ?_ ?_<;>intro hc)|(refine wNl hK ?_;clear hK K))|refine wG ?_|(refine wCR ?_;intro K hK)|(refine oPX ?_;first|exact PX_retP rfl rfl (Ext.refl _) (fun u w2 e2 hu => by obtain rfl : u = _ := hu; exact Own.nil))|fail)
  | some a =>
    refine Fc.of (args := [_]) Tryz.func55 rfl rfl Tryz.ntmps55 (Nat.le_of_ble_eq_true rfl) ?_
    repeat' (first|(refine oLA ?_;first|refine LA_pass rfl ?_|refine LA_binV (c := .bool false) rfl rfl rfl (fun _ => rfl) ?_|refine LA_lit0 72 (s := 1) rfl (fun _ => by kernel_rfl) ?_|(refine LA_stop (hK _ _ (LX_pick 5 rfl (fun v5 w5 e5 h5 => ?_))); clear hK K; have h6 := h.ext e5; have ho : Own w.heap.size _ _ w5 v5 0 [] := h5; refine LX_la (by kernel_rfl) (fun K hK => ?_))|(refine LA_stop (hK _ _ (LX_append rfl (by decide) el_c16 rfl ho rfl (HasC.val h6) h1 (by rw [Nat.zero_add]; unfold maxLen; omega) (by rw [Nat.zero_add]; exact hb) e5.size (fun v' w2 w3 he2 ho3 hg3 => ?_))); clear hK K; dsimp only [vals]; refine LX_la (by kernel_rfl) (fun K hK => ?_))|refine wOp ?_|(refine wCm ?_ ?_<;>intro hc)|(refine wNl hK ?_;clear hK K))|refine wG ?_|(refine wCR ?_;intro K hK)|fail)
    exact PX_retP rfl rfl ((e5.trans he2).grown hg3 (fun q hq => (Own.lt ho q hq).1)) (fun u w4 e4 hu => by
      obtain rfl : u = _ := hu
      have h9 : Own w.heap.size 72 1 w3 u n cs := by simpa using ho3
      exact h9.ext e4)
theorem el_c64 : El Tryz.prog 62 22 (.int .u64 0) 1 8 := ⟨rfl, rfl, rfl, by decide⟩
theorem clone_c64 (w : World) (v : Value) (n : Nat) (cs : List Value) (h : SlC w v n 1 cs) (h1 : ∀ u ∈ cs, u.oneCell' = true) (hb : n * 8 ≤ 140737488355328) : Fc Tryz.prog 69 #[v] w (Ret w (.pred (ownC w.heap.size 22 1 n cs))) := by
  obtain ⟨h0, a, cap, rfl, hc, hm, hn, hcs⟩ := id h
  have hlen := h.len
  cases a with
  | none =>
    obtain rfl := hn rfl
    obtain rfl : n = 0 := by omega
    obtain rfl : cs = [] := List.eq_nil_of_length_eq_zero (by omega)
    refine Fc.of (args := [_]) Tryz.func69 rfl rfl Tryz.ntmps69 (Nat.le_of_ble_eq_true rfl) ?_
    repeat' (first|(refine oLA ?_;first|refine LA_pass rfl ?_|refine LA_binV (c := .bool true) rfl rfl rfl (fun _ => rfl) ?_|refine wOp ?_|(refine wCm ?_ ?_<;>intro hc)|(refine wNl hK ?_;clear hK K))|refine wG ?_|(refine wCR ?_;intro K hK)|(refine oPX ?_;first|exact PX_retP rfl rfl (Ext.refl _) (fun u w2 e2 hu => by obtain rfl : u = _ := hu; exact Own.nil))|fail)
  | some a =>
    refine Fc.of (args := [_]) Tryz.func69 rfl rfl Tryz.ntmps69 (Nat.le_of_ble_eq_true rfl) ?_
    repeat' (first|(refine oLA ?_;first|refine LA_pass rfl ?_|refine LA_binV (c := .bool false) rfl rfl rfl (fun _ => rfl) ?_|refine LA_lit0 22 (s := 1) rfl (fun _ => by kernel_rfl) ?_|(refine LA_stop (hK _ _ (LX_pick 5 rfl (fun v5 w5 e5 h5 => ?_))); clear hK K; have h6 := h.ext e5; have ho : Own w.heap.size _ _ w5 v5 0 [] := h5; refine LX_la (by kernel_rfl) (fun K hK => ?_))|(refine LA_stop (hK _ _ (LX_append rfl (by decide) el_c64 rfl ho rfl (HasC.val h6) h1 (by rw [Nat.zero_add]; unfold maxLen; omega) (by rw [Nat.zero_add]; exact hb) e5.size (fun v' w2 w3 he2 ho3 hg3 => ?_))); clear hK K; dsimp only [vals]; refine LX_la (by kernel_rfl) (fun K hK => ?_))|refine wOp ?_|(refine wCm ?_ ?_<;>intro hc)|(refine wNl hK ?_;clear hK K))|refine wG ?_|(refine wCR ?_;intro K hK)|fail)
    exact PX_retP rfl rfl ((e5.trans he2).grown hg3 (fun q hq => (Own.lt ho q hq).1)) (fun u w4 e4 hu => by
      obtain rfl : u = _ := hu
      have h9 : Own w.heap.size 22 1 w3 u n cs := by simpa using ho3
      exact h9.ext e4)
theorem kind_c {w : World} {v : Value} {p : Nat → Bool} {kk : Int} (h : Cn A w v p kk) : Fc Tryz.prog 82 #[v] w (Ret w (.val (.int .u8 kk))) := by
  obtain ⟨kd, va, vw, vr, rfl, -, h1, h2, rfl, -⟩ := h.parts
  refine Fc.of (args := [_]) Tryz.func82 rfl rfl Tryz.ntmps82 (Nat.le_of_ble_eq_true rfl) ?_
  repeat' (first|(refine oLA ?_;first|refine LA_pass rfl ?_|refine wRcv ?_|(refine LA_max2 rfl rfl rfl ?_)|refine wOp ?_|(refine wCm ?_ ?_<;>intro hc)|(refine wNl hK ?_;clear hK K))|refine wG ?_|(refine wCR ?_;intro K hK)|fail)
  all_goals skip
  all_goals exact PX_retE rfl rfl (Ext.refl _) rfl
theorem arrlen_c {w : World} {va vw vr : Value} {kd : Int} {xs : List Int} (h : SlI .u16 w va xs) : Fc Tryz.prog 95 #[.agg #[.int .u8 kd, va, vw, vr]] w (Ret w (.val (.int .i64 xs.length))) := by
  have hl := h.len
  refine Fc.of (args := [_]) Tryz.func95 rfl rfl Tryz.ntmps95 (Nat.le_of_ble_eq_true rfl) ?_
  repeat' (first|(refine oLA ?_;first|refine LA_pass rfl ?_|refine wRcv ?_|refine wOp ?_|(refine wCm ?_ ?_<;>intro hc)|(refine wNl hK ?_;clear hK K))|refine wG ?_|(refine wCR ?_;intro K hK)|fail)
  all_goals skip
  all_goals exact PX_retE rfl rfl (Ext.refl _) rfl
theorem wrdlen_c {w : World} {va vw vr : Value} {kd : Int} {p : Nat → Bool} (h : SlI .u64 w vw (wordsOf p)) : Fc Tryz.prog 96 #[.agg #[.int .u8 kd, va, vw, vr]] w (Ret w (.val (.int .i64 (cnt p 65536)))) := by
  refine Fc.of (args := [_]) Tryz.func96 rfl rfl Tryz.ntmps96 (Nat.le_of_ble_eq_true rfl) ?_
  repeat' (first|(refine oLA ?_;first|refine LA_pass rfl ?_|refine wRcv ?_|refine wOp ?_|(refine wCm ?_ ?_<;>intro hc)|(refine oCv ?_;first|(refine oC 141 ?_; refine LA_call1 (f := 141) rfl rfl rfl  (.val (.int .i64 (cnt p 65536))) (by intro u1 w e hu1; (try obtain rfl : u1 = _ := hu1); exact wlenP _ _ p (h.ext e)) ?_))|(refine wNl hK ?_;clear hK K))|refine wG ?_|(refine wCR ?_;intro K hK)|fail)
  all_goals skip
  all_goals exact PX_retE rfl rfl (Ext.refl _) rfl
theorem runlen_c {w : World} {va vw vr : Value} {kd : Int} {p : Nat → Bool} (h : SlR w vr (runsL p)) : Fc Tryz.prog 97 #[.agg #[.int .u8 kd, va, vw, vr]] w (Ret w (.val (.int .i64 (cnt p 65536)))) := by
  have hl : lenR (runsL p) = cnt p 65536 := len_opn p 65536
  rw [← hl]
  have hn : (runsL p).length ≤ 70000 := by have := runsL_len p; omega
  refine Fc.of (args := [_]) Tryz.func97 rfl rfl Tryz.ntmps97 (Nat.le_of_ble_eq_true rfl) ?_
  repeat' (first|(refine oLA ?_;first|refine LA_pass rfl ?_|refine wRcv ?_|refine wOp ?_|(refine wCm ?_ ?_<;>intro hc)|(refine oCv ?_;first|(refine oC 142 ?_; refine LA_call1 (f := 142) rfl rfl rfl  (.val (.int .i64 (lenR (runsL p)))) (by intro u1 w e hu1; (try obtain rfl : u1 = _ := hu1); exact rlenR_c _ _ (runsL p) (h.ext e) (runs_u16 p) hn) ?_))|(refine wNl hK ?_;clear hK K))|refine wG ?_|(refine wCR ?_;intro K hK)|fail)
  all_goals skip
  all_goals exact PX_retE rfl rfl (Ext.refl _) rfl
theorem len_c {w : World} {v : Value} {p : Nat → Bool} {kk : Int} (h : Cn A w v p kk) : Fc Tryz.prog 51 #[v] w (Ret w (.val (.int .i64 (cnt p 65536)))) := by
  have hk : ∀ w', Ext w w' → _ := fun w' e => kind_c (h.ext e)
  have hll := listS_len p 65536
  obtain ⟨hp, ⟨rfl, kd, va, hkd, rfl, ho⟩ | ⟨rfl, vw, rfl, ho⟩ | ⟨rfl, vr, rfl, ho⟩⟩ := h
  · skip
    refine Fc.of (args := [_]) Tryz.func51 rfl rfl Tryz.ntmps51 (Nat.le_of_ble_eq_true rfl) ?_
    repeat' (first|(refine oLA ?_;first|refine LA_pass rfl ?_|refine wRcv ?_|refine LA_build3 (c := .agg #[.nilFunc, .func (.func 95) #[] #[], .func (.func 96) #[] #[], .func (.func 97) #[] #[]]) rfl rfl rfl rfl (fun _ => by kernel_rfl) ?_|(refine LA_indexA 1 (c := .func (.func 95) #[] #[]) rfl rfl (fun _ => rfl) rfl rfl rfl (by decide) (fun _ => by kernel_rfl) ?_)|refine wOp ?_|(refine wCm ?_ ?_<;>intro hc)|(refine oCv ?_;first|(refine oC 82 ?_; refine LA_call1 (f := 82) rfl rfl rfl _ (by intro u1 w' e hu1; obtain rfl : u1 = _ := hu1; exact hk w' e) ?_)|(refine LA_call1 (f := 95) rfl rfl rfl (.val (.int .i64 (cnt p 65536))) (by intro u1 w' e hu1; obtain rfl : u1 = _ := hu1;exact by rw [← hll]; exact arrlen_c (ho.ext e).slI) ?_))|(refine wNl hK ?_;clear hK K))|refine wG ?_|(refine wCR ?_;intro K hK)|fail)
    all_goals skip
    all_goals exact PX_retE rfl rfl (Ext.refl _) rfl
  · skip
    refine Fc.of (args := [_]) Tryz.func51 rfl rfl Tryz.ntmps51 (Nat.le_of_ble_eq_true rfl) ?_
    repeat' (first|(refine oLA ?_;first|refine LA_pass rfl ?_|refine wRcv ?_|refine LA_build3 (c := .agg #[.nilFunc, .func (.func 95) #[] #[], .func (.func 96) #[] #[], .func (.func 97) #[] #[]]) rfl rfl rfl rfl (fun _ => by kernel_rfl) ?_|(refine LA_indexA 2 (c := .func (.func 96) #[] #[]) rfl rfl (fun _ => rfl) rfl rfl rfl (by decide) (fun _ => by kernel_rfl) ?_)|refine wOp ?_|(refine wCm ?_ ?_<;>intro hc)|(refine oCv ?_;first|(refine oC 82 ?_; refine LA_call1 (f := 82) rfl rfl rfl _ (by intro u1 w' e hu1; obtain rfl : u1 = _ := hu1; exact hk w' e) ?_)|(refine LA_call1 (f := 96) rfl rfl rfl (.val (.int .i64 (cnt p 65536))) (by intro u1 w' e hu1; obtain rfl : u1 = _ := hu1;exact wrdlen_c (ho.ext e).slI) ?_))|(refine wNl hK ?_;clear hK K))|refine wG ?_|(refine wCR ?_;intro K hK)|fail)
    all_goals skip
    all_goals exact PX_retE rfl rfl (Ext.refl _) rfl
  · skip
    refine Fc.of (args := [_]) Tryz.func51 rfl rfl Tryz.ntmps51 (Nat.le_of_ble_eq_true rfl) ?_
    repeat' (first|(refine oLA ?_;first|refine LA_pass rfl ?_|refine wRcv ?_|refine LA_build3 (c := .agg #[.nilFunc, .func (.func 95) #[] #[], .func (.func 96) #[] #[], .func (.func 97) #[] #[]]) rfl rfl rfl rfl (fun _ => by kernel_rfl) ?_|(refine LA_indexA 3 (c := .func (.func 97) #[] #[]) rfl rfl (fun _ => rfl) rfl rfl rfl (by decide) (fun _ => by kernel_rfl) ?_)|refine wOp ?_|(refine wCm ?_ ?_<;>intro hc)|(refine oCv ?_;first|(refine oC 82 ?_; refine LA_call1 (f := 82) rfl rfl rfl _ (by intro u1 w' e hu1; obtain rfl : u1 = _ := hu1; exact hk w' e) ?_)|(refine LA_call1 (f := 97) rfl rfl rfl (.val (.int .i64 (cnt p 65536))) (by intro u1 w' e hu1; obtain rfl : u1 = _ := hu1;exact runlen_c (ho.ext e).slR) ?_))|(refine wNl hK ?_;clear hK K))|refine wG ?_|(refine wCR ?_;intro K hK)|fail)
    all_goals skip
    all_goals exact PX_retE rfl rfl (Ext.refl _) rfl
theorem found_P (p : Nat → Bool) (x : Nat) (hx : x < 65536) : foundS (listS p 65536) (x : Int) = p x := by
  rw [found_iff _ (listS_inc p _)]; exact memb_listS p hx
theorem arrhas_c {w : World} {va vw vr : Value} {kd : Int} {p : Nat → Bool} {x : Nat} (h : SlI .u16 w va (listS p 65536)) (hx : x < 65536) : Fc Tryz.prog 101 #[.agg #[.int .u8 kd, va, vw, vr], .int .u16 x] w (Ret w (.val (.bool (p x)))) := by
  have hf := found_P p x hx
  have hn : (listS p 65536).length ≤ 4611686018427387903 := by rw [listS_len]; have := cnt_le p 65536; omega
  refine Fc.of (args := [_, _]) Tryz.func101 rfl rfl Tryz.ntmps101 (Nat.le_of_ble_eq_true rfl) ?_
  repeat' (first|(refine oLA ?_;first|refine LA_pass rfl ?_|refine wRcv ?_|refine wOp ?_|(refine wCm ?_ ?_<;>intro hc)|(refine oCv ?_;first|(refine oC 143 ?_; refine LA_call2 (f := 143) rfl rfl rfl rfl  (.tup2 (.val (.int .i64 (bsS (listS p 65536) x))) (.val (.bool (p x)))) (by intro u1 u2 w e hu1 hu2; (try obtain rfl : u1 = _ := hu1); (try obtain rfl : u2 = _ := hu2); exact ret_tup2 rfl (by rw [hf]) (find_c _ _ (listS p 65536) x (h.ext e) hn)) ?_))|(refine wNl hK ?_;clear hK K))|refine wG ?_|(refine wCR ?_;intro K hK)|fail)
  all_goals skip
  all_goals exact PX_retE rfl rfl (Ext.refl _) rfl
theorem wrdhas_c {w : World} {va vw vr : Value} {kd : Int} {p : Nat → Bool} {x : Nat} (h : SlI .u64 w vw (wordsOf p)) (hx : x < 65536) : Fc Tryz.prog 102 #[.agg #[.int .u8 kd, va, vw, vr], .int .u16 x] w (Ret w (.val (.bool (p x)))) := by
  refine Fc.of (args := [_, _]) Tryz.func102 rfl rfl Tryz.ntmps102 (Nat.le_of_ble_eq_true rfl) ?_
  repeat' (first|(refine oLA ?_;first|refine LA_pass rfl ?_|refine wRcv ?_|refine wOp ?_|(refine wCm ?_ ?_<;>intro hc)|(refine oCv ?_;first|(refine oC 146 ?_; refine LA_call2 (f := 146) rfl rfl rfl rfl  (.val (.bool (p x))) (by intro u1 u2 w e hu1 hu2; (try obtain rfl : u1 = _ := hu1); (try obtain rfl : u2 = _ := hu2); exact whasP _ _ p (h.ext e) x hx) ?_))|(refine wNl hK ?_;clear hK K))|refine wG ?_|(refine wCR ?_;intro K hK)|fail)
  all_goals skip
  all_goals exact PX_retE rfl rfl (Ext.refl _) rfl
theorem runhas_c {w : World} {va vw vr : Value} {kd : Int} {p : Nat → Bool} {x : Nat} (h : SlR w vr (runsL p)) (hx : x < 65536) : Fc Tryz.prog 103 #[.agg #[.int .u8 kd, va, vw, vr], .int .u16 x] w (Ret w (.val (.bool (p x)))) := by
  rw [← inR_runs p hx]
  have hn : (runsL p).length ≤ 70000 := by have := runsL_len p; omega
  refine Fc.of (args := [_, _]) Tryz.func103 rfl rfl Tryz.ntmps103 (Nat.le_of_ble_eq_true rfl) ?_
  repeat' (first|(refine oLA ?_;first|refine LA_pass rfl ?_|refine wRcv ?_|refine wOp ?_|(refine wCm ?_ ?_<;>intro hc)|(refine oCv ?_;first|(refine oC 147 ?_; refine LA_call2 (f := 147) rfl rfl rfl rfl  (.val (.bool (inR (runsL p) x))) (by intro u1 u2 w e hu1 hu2; (try obtain rfl : u1 = _ := hu1); (try obtain rfl : u2 = _ := hu2); exact rhasR_c _ _ (runsL p) x (h.ext e) (runs_u16 p) (runs_right p) hx hn) ?_))|(refine wNl hK ?_;clear hK K))|refine wG ?_|(refine wCR ?_;intro K hK)|fail)
  all_goals skip
  all_goals exact PX_retE rfl rfl (Ext.refl _) rfl
theorem has_c {w : World} {v : Value} {p : Nat → Bool} {kk : Int} {x : Nat} (h : Cn A w v p kk) (hx : x < 65536) : Fc Tryz.prog 54 #[v, .int .u16 x] w (Ret w (.val (.bool (p x)))) := by
  have hk : ∀ w', Ext w w' → _ := fun w' e => kind_c (h.ext e)
  obtain ⟨hp, ⟨rfl, kd, va, hkd, rfl, ho⟩ | ⟨rfl, vw, rfl, ho⟩ | ⟨rfl, vr, rfl, ho⟩⟩ := h
  · skip
    refine Fc.of (args := [_, _]) Tryz.func54 rfl rfl Tryz.ntmps54 (Nat.le_of_ble_eq_true rfl) ?_
    repeat' (first|(refine oLA ?_;first|refine LA_pass rfl ?_|refine wRcv ?_|refine LA_build3 (c := .agg #[.nilFunc, .func (.func 101) #[] #[], .func (.func 102) #[] #[], .func (.func 103) #[] #[]]) rfl rfl rfl rfl (fun _ => by kernel_rfl) ?_|(refine LA_indexA 1 (c := .func (.func 101) #[] #[]) rfl rfl (fun _ => rfl) rfl rfl rfl (by decide) (fun _ => by kernel_rfl) ?_)|refine wOp ?_|(refine wCm ?_ ?_<;>intro hc)|(refine oCv ?_;first|(refine oC 82 ?_; refine LA_call1 (f := 82) rfl rfl rfl _ (by intro u1 w' e hu1; obtain rfl : u1 = _ := hu1; exact hk w' e) ?_)|(refine LA_call2 (f := 101) rfl rfl rfl rfl (.val (.bool (p x))) (by intro u1 u2 w' e hu1 hu2; obtain rfl : u1 = _ := hu1; obtain rfl : u2 = _ := hu2;exact arrhas_c (ho.ext e).slI hx) ?_))|(refine wNl hK ?_;clear hK K))|refine wG ?_|(refine wCR ?_;intro K hK)|fail)
    all_goals skip
    all_goals exact PX_retE rfl rfl (Ext.refl _) rfl
  · skip
    refine Fc.of (args := [_, _]) Tryz.func54 rfl rfl Tryz.ntmps54 (Nat.le_of_ble_eq_true rfl) ?_
    repeat' (first|(refine oLA ?_;first|refine LA_pass rfl ?_|refine wRcv ?_|refine LA_build3 (c := .agg #[.nilFunc, .func (.func 101) #[] #[], .func (.func 102) #[] #[], .func (.func 103) #[] #[]]) rfl rfl rfl rfl (fun _ => by kernel_rfl) ?_|(refine LA_indexA 2 (c := .func (.func 102) #[] #[]) rfl rfl (fun _ => rfl) rfl rfl rfl (by decide) (fun _ => by kernel_rfl) ?_)|refine wOp ?_|(refine wCm ?_ ?_<;>intro hc)|(refine oCv ?_;first|(refine oC 82 ?_; refine LA_call1 (f := 82) rfl rfl rfl _ (by intro u1 w' e hu1; obtain rfl : u1 = _ := hu1; exact hk w' e) ?_)|(refine LA_call2 (f := 102) rfl rfl rfl rfl (.val (.bool (p x))) (by intro u1 u2 w' e hu1 hu2; obtain rfl : u1 = _ := hu1; obtain rfl : u2 = _ := hu2;exact wrdhas_c (ho.ext e).slI hx) ?_))|(refine wNl hK ?_;clear hK K))|refine wG ?_|(refine wCR ?_;intro K hK)|fail)
    all_goals skip
    all_goals exact PX_retE rfl rfl (Ext.refl _) rfl
  · skip
    refine Fc.of (args := [_, _]) Tryz.func54 rfl rfl Tryz.ntmps54 (Nat.le_of_ble_eq_true rfl) ?_
    repeat' (first|(refine oLA ?_;first|refine LA_pass rfl ?_|refine wRcv ?_|refine LA_build3 (c := .agg #[.nilFunc, .func (.func 101) #[] #[], .func (.func 102) #[] #[], .func (.func 103) #[] #[]]) rfl rfl rfl rfl (fun _ => by kernel_rfl) ?_|(refine LA_indexA 3 (c := .func (.func 103) #[] #[]) rfl rfl (fun _ => rfl) rfl rfl rfl (by decide) (fun _ => by kernel_rfl) ?_)|refine wOp ?_|(refine wCm ?_ ?_<;>intro hc)|(refine oCv ?_;first|(refine oC 82 ?_; refine LA_call1 (f := 82) rfl rfl rfl _ (by intro u1 w' e hu1; obtain rfl : u1 = _ := hu1; exact hk w' e) ?_)|(refine LA_call2 (f := 103) rfl rfl rfl rfl (.val (.bool (p x))) (by intro u1 u2 w' e hu1 hu2; obtain rfl : u1 = _ := hu1; obtain rfl : u2 = _ := hu2;exact runhas_c (ho.ext e).slR hx) ?_))|(refine wNl hK ?_;clear hK K))|refine wG ?_|(refine wCR ?_;intro K hK)|fail)
    all_goals skip
    all_goals exact PX_retE rfl rfl (Ext.refl _) rfl
end Go.Proofs.YtfcioiobhpcngaaGreatDoor
end
section
set_option linter.unusedSimpArgs false
set_option linter.unusedVariables false
set_option maxRecDepth 3000
namespace Go.Proofs.YtfcioiobhpcngaaGreatDoor
open Go.LA Go.ArrP Go.RowKit
variable {A : Nat → Prop}
theorem SlI.nil16 {w : World} : SlI .u16 w (.slice none 0 0) [] := ⟨rfl, none, 0, rfl, Nat.le_refl _, Nat.zero_le _, fun _ => rfl, .inl rfl⟩
theorem flip_run {rs : List Rn} (hr : Right rs) (hu : U16 rs) {k : Nat} (hk : k < rs.length) : wordsOf (flipM (inR (rs.take k)) (fst rs k) (fst rs k + mor rs k + 1)) = wordsOf (inR (rs.take (k + 1))) := wordsOf_congr fun i _ => by
  have h0 := (right_pre hr hu k (by omega)).1 i
  have h1 := (hr k hk).1
  rw [take_run hk, inR_app, inR_one]
  unfold flipM
  by_cases h2 : fst rs k ≤ (i : Int)
  · rw [h0 (by omega), decide_eq_true h2]
    by_cases h3 : (i : Int) ≤ fst rs k + mor rs k
    · rw [decide_eq_true (by omega : (i : Int) < fst rs k + mor rs k + 1), decide_eq_true h3]; rfl
    · rw [decide_eq_false (by omega : ¬ (i : Int) < fst rs k + mor rs k + 1), decide_eq_false h3]; rfl
  · rw [decide_eq_false h2]
    cases inR (rs.take k) i <;> rfl
theorem clone16_c (w : World) (v : Value) (xs : List Int) (h : SlI .u16 w v xs) (hb : xs.length ≤ 65536) : Fc Tryz.prog 55 #[v] w (Ret w (.pred (ownI w.heap.size 72 .u16 xs))) :=
  clone_c16 w v xs.length (xs.map (Value.int .u16)) h ints_one (by omega)
theorem clone64_c (w : World) (v : Value) (xs : List Int) (h : SlI .u64 w v xs) (hb : xs.length ≤ 65536) : Fc Tryz.prog 69 #[v] w (Ret w (.pred (ownI w.heap.size 22 .u64 xs))) :=
  clone_c64 w v xs.length (xs.map (Value.int .u64)) h ints_one (by omega)
theorem cloneR_c (w : World) (v : Value) (rs : List Rn) (h : SlR w v rs) (hb : rs.length ≤ 65536) : Fc Tryz.prog 73 #[v] w (Ret w (.pred (ownR w.heap.size 96 rs))) :=
  clone_run w v rs.length (cellsR rs) h (cellsR_one rs) (by omega)
theorem len16 (p : Nat → Bool) : (listS p 65536).length ≤ 65536 := by rw [listS_len]; exact cnt_le p 65536
theorem array_c {w : World} {v : Value} {p : Nat → Bool} {kk : Int} (h : Cn A w v p kk) (hT : Tab w) : Fc Tryz.prog 64 #[v] w (Ret w (.pred (ownI w.heap.size 72 .u16 (listS p 65536)))) := by
  have hl : listR (runsL p) = listS p 65536 := list_opn p 65536
  have hn : (runsL p).length ≤ 70000 := by have := runsL_len p; omega
  obtain ⟨hp, ⟨rfl, kd, va, hkd, rfl, ho⟩ | ⟨rfl, vw, rfl, ho⟩ | ⟨rfl, vr, rfl, ho⟩⟩ := h
  · refine Fc.of (args := [_]) Tryz.func64 rfl rfl Tryz.ntmps64 (Nat.le_of_ble_eq_true rfl) ?_
    repeat' (first|(refine oLA ?_;first|refine LA_pass rfl ?_|refine wRcv ?_|refine wOp ?_|(refine wCm ?_ ?_<;>intro hc)|(refine oCv ?_;first|(refine oC 55 ?_; refine LA_call1 (f := 55) rfl rfl rfl  (.pred (ownI _ 72 .u16 (listS p 65536))) (by intro u1 w e hu1; (try obtain rfl : u1 = _ := hu1); exact (clone16_c _ _ _ (ho.ext e).slI (len16 p)).mono (ret_base e.size)) ?_))|(refine wNl hK ?_;clear hK K))|refine wG ?_|(refine wCR ?_;intro K hK)|fail)
    all_goals skip
    all_goals exact PX_retP rfl rfl (Ext.refl _) (fun _ _ _ hv => hv)
  · refine Fc.of (args := [_]) Tryz.func64 rfl rfl Tryz.ntmps64 (Nat.le_of_ble_eq_true rfl) ?_
    repeat' (first|(refine oLA ?_;first|refine LA_pass rfl ?_|refine wRcv ?_|refine wOp ?_|(refine wCm ?_ ?_<;>intro hc)|(refine oCv ?_;first|(refine oC 114 ?_; refine LA_call1 (f := 114) rfl rfl rfl  (.pred (ownI _ 72 .u16 (listS p 65536))) (by intro u1 w e hu1; (try obtain rfl : u1 = _ := hu1); exact (wlistP _ _ p (ho.ext e).slI (hT.ext e)).mono (ret_base e.size)) ?_))|(refine wNl hK ?_;clear hK K))|refine wG ?_|(refine wCR ?_;intro K hK)|fail)
    all_goals skip
    all_goals exact PX_retP rfl rfl (Ext.refl _) (fun _ _ _ hv => hv)
  · refine Fc.of (args := [_]) Tryz.func64 rfl rfl Tryz.ntmps64 (Nat.le_of_ble_eq_true rfl) ?_
    repeat' (first|(refine oLA ?_;first|refine LA_pass rfl ?_|refine wRcv ?_|refine wOp ?_|(refine wCm ?_ ?_<;>intro hc)|(refine oCv ?_;first|(refine oC 115 ?_; refine LA_call1 (f := 115) rfl rfl rfl  (.pred (ownI _ 72 .u16 (listS p 65536))) (by intro u1 w e hu1; (try obtain rfl : u1 = _ := hu1); exact by rw [← hl]; exact (rlistR_c _ _ _ (ho.ext e).slR (runs_u16 p) (runs_right p) hn).mono (ret_base e.size)) ?_))|(refine wNl hK ?_;clear hK K))|refine wG ?_|(refine wCR ?_;intro K hK)|fail)
    all_goals skip
    all_goals exact PX_retP rfl rfl (Ext.refl _) (fun _ _ _ hv => hv)
theorem many_c {w : World} {v : Value} {p : Nat → Bool} {kk : Int} (h : Cn A w v p kk) : Fc Tryz.prog 126 #[v] w (Ret w (.val (.int .i64 (cnt (startsS p) 65536)))) := by
  have hm : (runsL p).length = cnt (startsS p) 65536 := many_opn p 65536
  have hr := runsS_listS p
  obtain ⟨hp, ⟨rfl, kd, va, hkd, rfl, ho⟩ | ⟨rfl, vw, rfl, ho⟩ | ⟨rfl, vr, rfl, ho⟩⟩ := h
  · refine Fc.of (args := [_]) Tryz.func126 rfl rfl Tryz.ntmps126 (Nat.le_of_ble_eq_true rfl) ?_
    repeat' (first|(refine oLA ?_;first|refine LA_pass rfl ?_|refine wRcv ?_|refine wOp ?_|(refine wCm ?_ ?_<;>intro hc)|(refine oCv ?_;first|(refine oC 176 ?_; refine LA_call1 (f := 176) rfl rfl rfl  (.val (.int .i64 (cnt (startsS p) 65536))) (by intro u1 w e hu1; (try obtain rfl : u1 = _ := hu1); exact ret_eq (by rw [hr]) (runs_c _ _ _ (ho.ext e).slI)) ?_))|(refine wNl hK ?_;clear hK K))|refine wG ?_|(refine wCR ?_;intro K hK)|fail)
    all_goals skip
    all_goals exact PX_retE rfl rfl (Ext.refl _) rfl
  · refine Fc.of (args := [_]) Tryz.func126 rfl rfl Tryz.ntmps126 (Nat.le_of_ble_eq_true rfl) ?_
    repeat' (first|(refine oLA ?_;first|refine LA_pass rfl ?_|refine wRcv ?_|refine wOp ?_|(refine wCm ?_ ?_<;>intro hc)|(refine oCv ?_;first|(refine oC 175 ?_; refine LA_call1 (f := 175) rfl rfl rfl  (.val (.int .i64 (cnt (startsS p) 65536))) (by intro u1 w e hu1; (try obtain rfl : u1 = _ := hu1); exact wrunsP _ _ p (ho.ext e).slI) ?_))|(refine wNl hK ?_;clear hK K))|refine wG ?_|(refine wCR ?_;intro K hK)|fail)
    all_goals skip
    all_goals exact PX_retE rfl rfl (Ext.refl _) rfl
  · have hs := ho.slR
    rw [← hm]
    refine Fc.of (args := [_]) Tryz.func126 rfl rfl Tryz.ntmps126 (Nat.le_of_ble_eq_true rfl) ?_
    repeat' (first|(refine oLA ?_;first|refine LA_pass rfl ?_|refine wRcv ?_|(refine oLen ?_; refine LA_lenR rfl _ rfl rfl (HasR.val hs) ?_)|refine wOp ?_|(refine wCm ?_ ?_<;>intro hc)|(refine wNl hK ?_;clear hK K))|refine wG ?_|(refine wCR ?_;intro K hK)|fail)
    all_goals skip
    all_goals exact PX_retE rfl rfl (Ext.refl _) rfl
theorem cruns_c {w : World} {v : Value} {p : Nat → Bool} {kk : Int} (h : Cn A w v p kk) (hT : Tab w) : Fc Tryz.prog 36 #[v] w (Ret w (.pred (ownR w.heap.size 96 (runsL p)))) := by
  have hm' := runsL_len p
  have hmm : runsL (memb (listS p 65536)) = runsL p := runsL_congr fun i hi => memb_listS p hi
  have ha : ∀ w', Ext w w' → _ := fun w' e => array_c (h.ext e) (hT.ext e)
  obtain ⟨hp, ⟨rfl, kd, va, hkd, rfl, ho⟩ | ⟨rfl, vw, rfl, ho⟩ | ⟨rfl, vr, rfl, ho⟩⟩ := h
  · refine Fc.of (args := [_]) Tryz.func36 rfl rfl Tryz.ntmps36 (Nat.le_of_ble_eq_true rfl) ?_
    repeat' (first|(refine oLA ?_;first|refine LA_pass rfl ?_|refine wRcv ?_|refine wOp ?_|(refine wCm ?_ ?_<;>intro hc)|(refine oCv ?_;first|(refine oC 64 ?_; refine LA_call1 (f := 64) rfl rfl rfl  (.pred (ownI _ 72 .u16 (listS p 65536))) (by intro u1 w e hu1; (try obtain rfl : u1 = _ := hu1); exact (ha _ e).mono (ret_base e.size)) ?_)|(refine oC 74 ?_; refine LA_call1 (f := 74) rfl rfl rfl  (.pred (ownR _ 96 (runsL p))) (by intro u1 w e hu1; (try obtain rfl : u1 = _ := hu1); exact (rofR_c _ _ _ (OwnI.slI hu1) (listS_inc p _) (listS_low p)).mono (ret_baseR e.size hmm)) ?_))|(refine wNl hK ?_;clear hK K))|refine wG ?_|(refine wCR ?_;intro K hK)|fail)
    all_goals skip
    all_goals exact PX_retP rfl rfl (Ext.refl _) (fun _ _ _ hv => hv)
  · refine Fc.of (args := [_]) Tryz.func36 rfl rfl Tryz.ntmps36 (Nat.le_of_ble_eq_true rfl) ?_
    repeat' (first|(refine oLA ?_;first|refine LA_pass rfl ?_|refine wRcv ?_|refine wOp ?_|(refine wCm ?_ ?_<;>intro hc)|(refine oCv ?_;first|(refine oC 64 ?_; refine LA_call1 (f := 64) rfl rfl rfl  (.pred (ownI _ 72 .u16 (listS p 65536))) (by intro u1 w e hu1; (try obtain rfl : u1 = _ := hu1); exact (ha _ e).mono (ret_base e.size)) ?_)|(refine oC 74 ?_; refine LA_call1 (f := 74) rfl rfl rfl  (.pred (ownR _ 96 (runsL p))) (by intro u1 w e hu1; (try obtain rfl : u1 = _ := hu1); exact (rofR_c _ _ _ (OwnI.slI hu1) (listS_inc p _) (listS_low p)).mono (ret_baseR e.size hmm)) ?_))|(refine wNl hK ?_;clear hK K))|refine wG ?_|(refine wCR ?_;intro K hK)|fail)
    all_goals skip
    all_goals exact PX_retP rfl rfl (Ext.refl _) (fun _ _ _ hv => hv)
  · refine Fc.of (args := [_]) Tryz.func36 rfl rfl Tryz.ntmps36 (Nat.le_of_ble_eq_true rfl) ?_
    repeat' (first|(refine oLA ?_;first|refine LA_pass rfl ?_|refine wRcv ?_|refine wOp ?_|(refine wCm ?_ ?_<;>intro hc)|(refine oCv ?_;first|(refine oC 73 ?_; refine LA_call1 (f := 73) rfl rfl rfl  (.pred (ownR _ 96 (runsL p))) (by intro u1 w e hu1; (try obtain rfl : u1 = _ := hu1); exact (cloneR_c _ _ _ (ho.ext e).slR hm').mono (ret_baseR e.size rfl)) ?_))|(refine wNl hK ?_;clear hK K))|refine wG ?_|(refine wCR ?_;intro K hK)|fail)
    all_goals skip
    all_goals exact PX_retP rfl rfl (Ext.refl _) (fun _ _ _ hv => hv)
end Go.Proofs.YtfcioiobhpcngaaGreatDoor
end
section
set_option linter.unusedSimpArgs false
set_option linter.unusedVariables false
set_option maxRecDepth 3000
namespace Go.Proofs.YtfcioiobhpcngaaGreatDoor
open Go.LA Go.ArrP Go.RowKit
variable {A : Nat → Prop}
set_option maxHeartbeats 2000000 in
theorem cwords_c {w : World} {v : Value} {p : Nat → Bool} {kk : Int} (h : Cn A w v p kk) : Fc Tryz.prog 34 #[v] w (Ret w (.pred (ownI w.heap.size 22 .u64 (wordsOf p)))) := by
  have hm' := runsL_len p
  have hwl := wordsOf_len p
  obtain ⟨hp, ⟨rfl, kd, va, hkd, rfl, ho⟩ | ⟨rfl, vw, rfl, ho⟩ | ⟨rfl, vr, rfl, ho⟩⟩ := h
  · have hww : wordsOf (memb (listS p 65536)) = wordsOf p := wordsOf_congr fun i hi => memb_listS p hi
    refine Fc.of (args := [_]) Tryz.func34 rfl rfl Tryz.ntmps34 (Nat.le_of_ble_eq_true rfl) ?_
    repeat' (first|(refine oLA ?_;first|refine LA_pass rfl ?_|refine wRcv ?_|refine wOp ?_|(refine wCm ?_ ?_<;>intro hc)|(refine oCv ?_;first|(refine oC 70 ?_; refine LA_call1 (f := 70) rfl rfl rfl  (.pred (ownI _ 22 .u64 (wordsOf p))) (by intro u1 w e hu1; (try obtain rfl : u1 = _ := hu1); exact (wof_c _ _ _ (ho.ext e).slI (listS_low p)).mono (ret_w e.size hww)) ?_))|(refine wNl hK ?_;clear hK K))|refine wG ?_|(refine wCR ?_;intro K hK)|fail)
    all_goals skip
    all_goals exact PX_retP rfl rfl (Ext.refl _) (fun _ _ _ hv => hv)
  · refine Fc.of (args := [_]) Tryz.func34 rfl rfl Tryz.ntmps34 (Nat.le_of_ble_eq_true rfl) ?_
    repeat' (first|(refine oLA ?_;first|refine LA_pass rfl ?_|refine wRcv ?_|refine wOp ?_|(refine wCm ?_ ?_<;>intro hc)|(refine oCv ?_;first|(refine oC 69 ?_; refine LA_call1 (f := 69) rfl rfl rfl  (.pred (ownI _ 22 .u64 (wordsOf p))) (by intro u1 w e hu1; (try obtain rfl : u1 = _ := hu1); exact (clone64_c _ _ _ (ho.ext e).slI (by omega)).mono (ret_base e.size)) ?_))|(refine wNl hK ?_;clear hK K))|refine wG ?_|(refine wCR ?_;intro K hK)|fail)
    all_goals skip
    all_goals exact PX_retP rfl rfl (Ext.refl _) (fun _ _ _ hv => hv)
  · have hww : wordsOf (inR (runsL p)) = wordsOf p := wordsOf_congr fun i hi => inR_runs p hi
    rw [← hww]
    have h := ho.slR
    have hu := runs_u16 p
    have hr := runs_right p
    obtain ⟨rs, hrs⟩ : ∃ rs, rs = runsL p := ⟨_, rfl⟩
    rw [← hrs] at h hu hr hm' ⊢
    have hlen := h.len
    refine Fc.of (args := [_]) Tryz.func34 rfl rfl Tryz.ntmps34 (Nat.le_of_ble_eq_true rfl) ?_
    repeat' (first|(refine oLA ?_;first|refine LA_pass rfl ?_|refine wRcv ?_|(refine oI ?_; refine LA_indexR rfl _ rfl (fun _ => rfl) rfl (by first | exact HasR.val (by assumption) | exact HasR.own | exact HasR.ownV (by assumption)) rfl (by omega) ?_)|(refine oLt 96 ?_; refine LA_loadC rfl (fun _ => rfl) (fun _ => rfl) rfl ?_)|(show LA _ _ _ _ (⟨some 99, .alloc _, _, _, _, _⟩ :: _) _; refine LA_stop (hK _ _ (LX_var rfl rfl (by decide) (fun _ => rfl) (fun _ => rfl) (fun _ => rfl) rfl (by intro u hu; simp [Value.cells] at hu; rcases hu with rfl | rfl <;> rfl) (fun bx wx ex hbx hbc => ?_))); clear hK K; refine LX_la (by kernel_rfl) (fun K hK => ?_))|(refine oF 0 ?_; refine LA_fieldAddr (a := ⟨bx, 0, none⟩) (a' := ⟨bx, 0, none⟩) rfl rfl (fun _ => rfl) ?_)|(refine oF 1 ?_; refine LA_fieldAddr (a := ⟨bx, 0, none⟩) (a' := ⟨bx, 1, none⟩) rfl rfl (fun _ => rfl) ?_)|(refine oLt 96 ?_; refine LA_loadBN rfl (fun _ => rfl) (fun _ => rfl) rfl hbc ?_)|(refine oLt 72 ?_; refine LA_loadB rfl (fun _ => rfl) rfl hbc rfl ?_)|(refine oLen ?_; refine LA_lenR rfl _ rfl rfl (by first | exact HasR.val (by assumption) | exact HasR.own | exact HasR.ownV (by assumption)) ?_)|refine wOp ?_|(refine wCm ?_ ?_<;>intro hc)|(refine oCv ?_;first|(refine oC 70 ?_; refine LA_call1 (f := 70) rfl rfl rfl  (.pred (ownI w.heap.size 22 .u64 (wordsOf (inR [])))) (by intro u1 w e hu1; (try obtain rfl : u1 = _ := hu1); exact (wof_c _ _ [] SlI.nil16 (fun x hx => by cases hx)).mono (ret_w e.size (wordsOf_congr fun i _ => by simp [memb, inR]))) ?_))|(refine wNl hK ?_;clear hK K))|refine wG ?_|(refine wCR ?_;intro K hK)|fail)
    refine CX_pick 3 rfl (fun v3 w3 e3 h3 => ?_)
    have h3 : OwnI w.heap.size 22 .u64 w3 v3 (wordsOf (inR [])) := h3
    refine CX_loopV (ι := Nat × Value) (fun i => [(3, .val i.2), (17, .val vr), (18, .val (.int .i64 rs.length)), (19, .val (.int .i64 i.1))]) (fun i w' => Ext w w' ∧ i.1 ≤ rs.length ∧ OwnI w.heap.size 22 .u64 w' i.2 (wordsOf (inR (rs.take i.1)))) (fun i => rs.length - i.1)
      (fun w2 e2 => ⟨(0, v3), ⟨e3.trans e2, Nat.zero_le _, by dsimp only; rw [List.take_zero]; exact h3.ext e2⟩, (by repeat' (first | exact Sub.nil | refine Sub.val rfl (by first | with_reducible rfl | (congr 1; omega)) ?_ | refine Sub.same rfl ?_))⟩) ?_
    rintro ⟨k, so⟩ w1 ⟨he, hk, ho⟩
    dsimp only at hk ho ⊢
    have h1 := h.ext he
    by_cases hkl : k < rs.length
    · obtain ⟨u1, u2, u3, u4⟩ := hu.at k
      obtain ⟨-, hr2⟩ := hr k hkl
      have hfr := flip_run hr hu hkl
      repeat' (first|(refine oLA ?_;first|refine LA_pass rfl ?_|(refine oI ?_; refine LA_indexR rfl _ rfl (fun _ => rfl) rfl (by first | exact HasR.val (by assumption) | exact HasR.own | exact HasR.ownV (by assumption)) rfl (by omega) ?_)|(refine oLt 96 ?_; refine LA_loadC rfl (fun _ => rfl) (fun _ => rfl) rfl ?_)|(show LA _ _ _ _ (⟨some 5, .alloc _, _, _, _, _⟩ :: _) _; refine LA_stop (hK _ _ (LX_var rfl rfl (by decide) (fun _ => rfl) (fun _ => rfl) (fun _ => rfl) rfl (by intro u hu; simp [Value.cells] at hu; rcases hu with rfl | rfl <;> rfl) (fun bx wx ex hbx hbc => ?_))); clear hK K; refine LX_la (by kernel_rfl) (fun K hK => ?_))|(refine oF 0 ?_; refine LA_fieldAddr (a := ⟨bx, 0, none⟩) (a' := ⟨bx, 0, none⟩) rfl rfl (fun _ => rfl) ?_)|(refine oF 1 ?_; refine LA_fieldAddr (a := ⟨bx, 0, none⟩) (a' := ⟨bx, 1, none⟩) rfl rfl (fun _ => rfl) ?_)|(refine oLt 96 ?_; refine LA_loadBN rfl (fun _ => rfl) (fun _ => rfl) rfl hbc ?_)|(refine oLt 72 ?_; refine LA_loadB rfl (fun _ => rfl) rfl hbc rfl ?_)|(refine oLen ?_; refine LA_lenR rfl _ rfl rfl (by first | exact HasR.val (by assumption) | exact HasR.own | exact HasR.ownV (by assumption)) ?_)|refine wOp ?_|(refine wCm ?_ ?_<;>intro hc)|(refine oCv ?_;first|(refine oC 71 ?_; refine LA_call3 (f := 71) rfl rfl rfl rfl rfl  (.pred (ownI w.heap.size 22 .u64 (wordsOf (inR (rs.take (k + 1)))))) (by intro u1 u2 u3 w e hu1 hu2 hu3; (try obtain rfl : u1 = _ := hu1); (try obtain rfl : u2 = _ := hu2); (try obtain rfl : u3 = _ := hu3); exact (wflipP _ _ (inR (rs.take k)) (OwnI.slI (ho.ext (ex.trans e))) _ _ (by omega) (by omega)).mono (ret_w (Nat.le_trans he.size (Nat.le_trans ex.size e.size)) hfr)) ?_))|(refine wNl hK ?_;clear hK K))|refine wG ?_|(refine wCR ?_;intro K hK)|fail)
      refine PX_pick 3 rfl (fun v4 w4 e4 h4 => ?_)
      have h4 : OwnI w.heap.size 22 .u64 w4 v4 (wordsOf (inR (rs.take (k + 1)))) := h4
      exact PX_rndV (k + 1, v4) (fun w5 e5 => ⟨he.trans (ex.trans (e4.trans e5)), hkl, h4.ext e5⟩) (by dsimp only; omega) (by repeat' (first | exact Sub.nil | refine Sub.val rfl (by first | with_reducible rfl | (congr 1; omega)) ?_ | refine Sub.same rfl ?_))
    · obtain rfl : k = rs.length := by omega
      rw [List.take_length] at ho
      repeat' (first|(refine oLA ?_;first|refine LA_pass rfl ?_|refine wOp ?_|(refine wCm ?_ ?_<;>intro hc)|(refine wNl hK ?_;clear hK K))|refine wG ?_|(refine wCR ?_;intro K hK)|fail)
      exact PX_retP rfl rfl he (fun u w5 e5 hu' => by obtain rfl : u = _ := hu'; exact ho.ext e5)
theorem lays_cn {p : Nat → Bool} {kk : Int} : Lays (cnP A p kk) 4 65 :=
  ⟨fun v w h => by
    obtain ⟨kd, va, vw, vr, rfl, -, -, -, -, -, -, h1⟩ := Cn.parts h
    exact ⟨_, rfl, rfl, h1⟩, fun v w b cur j cs h hb => Cn.setRow h hb ⟨by decide, by decide, by decide⟩ cs⟩
theorem kind_cases (p : Nat → Bool) : ∃ n r : Nat, ∃ kq : Int, cnt p 65536 = n ∧ cnt (startsS p) 65536 = r ∧ kindP p = kq ∧ n ≤ 65536 ∧ r ≤ 65536 ∧
    ((n ≤ 4096 ∧ 2 + 4 * (r : Int) < 2 * n ∧ kq = 3) ∨ (n ≤ 4096 ∧ ¬ 2 + 4 * (r : Int) < 2 * n ∧ kq = 1) ∨ (¬ n ≤ 4096 ∧ 2 + 4 * (r : Int) < 8192 ∧ kq = 3) ∨ (¬ n ≤ 4096 ∧ ¬ 2 + 4 * (r : Int) < 8192 ∧ kq = 2)) := by
  refine ⟨_, _, _, rfl, rfl, rfl, cnt_le _ _, cnt_le _ _, ?_⟩
  unfold kindP leastP
  generalize cnt p 65536 = n
  generalize cnt (startsS p) 65536 = r
  by_cases h1 : n ≤ 4096
  · by_cases h2 : 2 + 4 * (r : Int) < 2 * n
    · exact .inl ⟨h1, h2, by simp [h1, h2]⟩
    · exact .inr (.inl ⟨h1, h2, by simp [h1, h2]⟩)
  · by_cases h2 : 2 + 4 * (r : Int) < 8192
    · exact .inr (.inr (.inl ⟨h1, h2, by simp [h1, h2]⟩))
    · exact .inr (.inr (.inr ⟨h1, h2, by simp [h1, h2]⟩))
set_option maxHeartbeats 4000000 in
theorem canon_c {w : World} {v : Value} {p : Nat → Bool} {kk : Int} (h : Cn A w v p kk) (hT : Tab w) (hA : Fsh A w) : Fc Tryz.prog 75 #[v] w (Ret w (.pred (cnP A p (kindP p)))) := by
  obtain ⟨n, r, kq, en, er, eq, h1, h2, hK⟩ := kind_cases p
  have hp := h.1
  have hk : ∀ w', Ext w w' → _ := fun w' e => kind_c (h.ext e)
  have hl : ∀ w', Ext w w' → _ := fun w' e => len_c (h.ext e)
  have hm : ∀ w', Ext w w' → _ := fun w' e => many_c (h.ext e)
  have hru : ∀ w', Ext w w' → _ := fun w' e => cruns_c (h.ext e) (hT.ext e)
  have ha : ∀ w', Ext w w' → _ := fun w' e => array_c (h.ext e) (hT.ext e)
  have hw : ∀ w', Ext w w' → _ := fun w' e => cwords_c (h.ext e)
  have hs : ∀ w', Ext w w' → Cn A w' v p kk := fun w' e => h.ext e
  obtain ⟨kd, va, vw, vr, rfl, -, -, -, -, k1, k2, -⟩ := h.parts
  rw [en] at hl; rw [er] at hm; rw [eq]
  clear h en er eq
  rcases hK with ⟨a1, a2, rfl⟩ | ⟨a1, a2, rfl⟩ | ⟨a1, a2, rfl⟩ | ⟨a1, a2, rfl⟩
  · skip
    by_cases hkk : kk = 3
    all_goals
      refine Fc.of (args := [_]) Tryz.func75 rfl rfl Tryz.ntmps75 (Nat.le_of_ble_eq_true rfl) ?_
      repeat' (first|(refine oLA ?_;first|refine LA_pass rfl ?_|refine wRcv ?_|refine LA_alloc rfl (fun _ => rfl) ?_|(refine LA_build2P (j1 := 3) (c := fun u => .agg #[.int .u8 3, .slice none 0 0, .slice none 0 0, u]) rfl rfl rfl (fun v1 w1 hv1 => by obtain ⟨a', c', rfl⟩ := (OwnR.slR hv1).isSlice; kernel_rfl) ?_)|(refine LA_build2P (j1 := 1) (c := fun u => .agg #[.int .u8 1, u, .slice none 0 0, .slice none 0 0]) rfl rfl rfl (fun v1 w1 hv1 => by obtain ⟨a', c', rfl⟩ := (OwnI.slI hv1).isSlice; kernel_rfl) ?_)|(refine LA_build2P (j1 := 2) (c := fun u => .agg #[.int .u8 2, .slice none 0 0, u, .slice none 0 0]) rfl rfl rfl (fun v1 w1 hv1 => by obtain ⟨a', c', rfl⟩ := (OwnI.slI hv1).isSlice; kernel_rfl) ?_)|(refine LA_stop (hK _ _ (LX_put (φ := cnP A p 3) (w0 := w) rfl rfl rfl lays_cn (fun v' w' e hv => ?_) rfl (fun _ => rfl) (Ext.refl _) (fun w' e' => ?_))); clear hK K)|refine wOp ?_|(refine wCm ?_ ?_<;>intro hc)|(refine oCv ?_;first|(refine oC 51 ?_; refine LA_call1 (f := 51) rfl rfl rfl  (.val (.int .i64 n)) (by intro u1 w e hu1; (try obtain rfl : u1 = _ := hu1); exact hl _ e) ?_)|(refine oC 126 ?_; refine LA_call1 (f := 126) rfl rfl rfl  (.val (.int .i64 r)) (by intro u1 w e hu1; (try obtain rfl : u1 = _ := hu1); exact hm _ e) ?_)|(refine oC 82 ?_; refine LA_call1 (f := 82) rfl rfl rfl  (.val (.int .u8 kk)) (by intro u1 w e hu1; (try obtain rfl : u1 = _ := hu1); exact hk _ e) ?_)|(refine oC 36 ?_; refine LA_call1 (f := 36) rfl rfl rfl  (.pred (ownR _ 96 (runsL p))) (by intro u1 w e hu1; (try obtain rfl : u1 = _ := hu1); exact (hru _ e).mono (ret_baseR e.size rfl)) ?_)|(refine oC 64 ?_; refine LA_call1 (f := 64) rfl rfl rfl  (.pred (ownI _ 72 .u16 (listS p 65536))) (by intro u1 w e hu1; (try obtain rfl : u1 = _ := hu1); exact (ha _ e).mono (ret_base e.size)) ?_)|(refine oC 34 ?_; refine LA_call1 (f := 34) rfl rfl rfl  (.pred (ownI _ 22 .u64 (wordsOf p))) (by intro u1 w e hu1; (try obtain rfl : u1 = _ := hu1); exact (hw _ e).mono (ret_base e.size)) ?_))|(refine wNl hK ?_;clear hK K))|refine wG ?_|(refine wCR ?_;intro K hK)|(refine oPX ?_;first|exact PX_retC rfl rfl rfl rfl rfl (by assumption))|fail)
      all_goals skip
      all_goals first
        | (obtain rfl : v' = _ := hv; exact hkk ▸ hs _ e)
        | (obtain ⟨u, rfl, hu⟩ := hv; exact Cn.rns hp rfl hu hA)
  · skip
    by_cases hkk : kk = 1
    all_goals
      refine Fc.of (args := [_]) Tryz.func75 rfl rfl Tryz.ntmps75 (Nat.le_of_ble_eq_true rfl) ?_
      repeat' (first|(refine oLA ?_;first|refine LA_pass rfl ?_|refine wRcv ?_|refine LA_alloc rfl (fun _ => rfl) ?_|(refine LA_build2P (j1 := 3) (c := fun u => .agg #[.int .u8 3, .slice none 0 0, .slice none 0 0, u]) rfl rfl rfl (fun v1 w1 hv1 => by obtain ⟨a', c', rfl⟩ := (OwnR.slR hv1).isSlice; kernel_rfl) ?_)|(refine LA_build2P (j1 := 1) (c := fun u => .agg #[.int .u8 1, u, .slice none 0 0, .slice none 0 0]) rfl rfl rfl (fun v1 w1 hv1 => by obtain ⟨a', c', rfl⟩ := (OwnI.slI hv1).isSlice; kernel_rfl) ?_)|(refine LA_build2P (j1 := 2) (c := fun u => .agg #[.int .u8 2, .slice none 0 0, u, .slice none 0 0]) rfl rfl rfl (fun v1 w1 hv1 => by obtain ⟨a', c', rfl⟩ := (OwnI.slI hv1).isSlice; kernel_rfl) ?_)|(refine LA_stop (hK _ _ (LX_put (φ := cnP A p 1) (w0 := w) rfl rfl rfl lays_cn (fun v' w' e hv => ?_) rfl (fun _ => rfl) (Ext.refl _) (fun w' e' => ?_))); clear hK K)|refine wOp ?_|(refine wCm ?_ ?_<;>intro hc)|(refine oCv ?_;first|(refine oC 51 ?_; refine LA_call1 (f := 51) rfl rfl rfl  (.val (.int .i64 n)) (by intro u1 w e hu1; (try obtain rfl : u1 = _ := hu1); exact hl _ e) ?_)|(refine oC 126 ?_; refine LA_call1 (f := 126) rfl rfl rfl  (.val (.int .i64 r)) (by intro u1 w e hu1; (try obtain rfl : u1 = _ := hu1); exact hm _ e) ?_)|(refine oC 82 ?_; refine LA_call1 (f := 82) rfl rfl rfl  (.val (.int .u8 kk)) (by intro u1 w e hu1; (try obtain rfl : u1 = _ := hu1); exact hk _ e) ?_)|(refine oC 36 ?_; refine LA_call1 (f := 36) rfl rfl rfl  (.pred (ownR _ 96 (runsL p))) (by intro u1 w e hu1; (try obtain rfl : u1 = _ := hu1); exact (hru _ e).mono (ret_baseR e.size rfl)) ?_)|(refine oC 64 ?_; refine LA_call1 (f := 64) rfl rfl rfl  (.pred (ownI _ 72 .u16 (listS p 65536))) (by intro u1 w e hu1; (try obtain rfl : u1 = _ := hu1); exact (ha _ e).mono (ret_base e.size)) ?_)|(refine oC 34 ?_; refine LA_call1 (f := 34) rfl rfl rfl  (.pred (ownI _ 22 .u64 (wordsOf p))) (by intro u1 w e hu1; (try obtain rfl : u1 = _ := hu1); exact (hw _ e).mono (ret_base e.size)) ?_))|(refine wNl hK ?_;clear hK K))|refine wG ?_|(refine wCR ?_;intro K hK)|(refine oPX ?_;first|exact PX_retC rfl rfl rfl rfl rfl (by assumption))|fail)
      all_goals skip
      all_goals first
        | (obtain rfl : v' = _ := hv; exact hkk ▸ hs _ e)
        | (obtain ⟨u, rfl, hu⟩ := hv; exact Cn.arr hp rfl hu hA)
  · skip
    by_cases hkk : kk = 3
    all_goals
      refine Fc.of (args := [_]) Tryz.func75 rfl rfl Tryz.ntmps75 (Nat.le_of_ble_eq_true rfl) ?_
      repeat' (first|(refine oLA ?_;first|refine LA_pass rfl ?_|refine wRcv ?_|refine LA_alloc rfl (fun _ => rfl) ?_|(refine LA_build2P (j1 := 3) (c := fun u => .agg #[.int .u8 3, .slice none 0 0, .slice none 0 0, u]) rfl rfl rfl (fun v1 w1 hv1 => by obtain ⟨a', c', rfl⟩ := (OwnR.slR hv1).isSlice; kernel_rfl) ?_)|(refine LA_build2P (j1 := 1) (c := fun u => .agg #[.int .u8 1, u, .slice none 0 0, .slice none 0 0]) rfl rfl rfl (fun v1 w1 hv1 => by obtain ⟨a', c', rfl⟩ := (OwnI.slI hv1).isSlice; kernel_rfl) ?_)|(refine LA_build2P (j1 := 2) (c := fun u => .agg #[.int .u8 2, .slice none 0 0, u, .slice none 0 0]) rfl rfl rfl (fun v1 w1 hv1 => by obtain ⟨a', c', rfl⟩ := (OwnI.slI hv1).isSlice; kernel_rfl) ?_)|(refine LA_stop (hK _ _ (LX_put (φ := cnP A p 3) (w0 := w) rfl rfl rfl lays_cn (fun v' w' e hv => ?_) rfl (fun _ => rfl) (Ext.refl _) (fun w' e' => ?_))); clear hK K)|refine wOp ?_|(refine wCm ?_ ?_<;>intro hc)|(refine oCv ?_;first|(refine oC 51 ?_; refine LA_call1 (f := 51) rfl rfl rfl  (.val (.int .i64 n)) (by intro u1 w e hu1; (try obtain rfl : u1 = _ := hu1); exact hl _ e) ?_)|(refine oC 126 ?_; refine LA_call1 (f := 126) rfl rfl rfl  (.val (.int .i64 r)) (by intro u1 w e hu1; (try obtain rfl : u1 = _ := hu1); exact hm _ e) ?_)|(refine oC 82 ?_; refine LA_call1 (f := 82) rfl rfl rfl  (.val (.int .u8 kk)) (by intro u1 w e hu1; (try obtain rfl : u1 = _ := hu1); exact hk _ e) ?_)|(refine oC 36 ?_; refine LA_call1 (f := 36) rfl rfl rfl  (.pred (ownR _ 96 (runsL p))) (by intro u1 w e hu1; (try obtain rfl : u1 = _ := hu1); exact (hru _ e).mono (ret_baseR e.size rfl)) ?_)|(refine oC 64 ?_; refine LA_call1 (f := 64) rfl rfl rfl  (.pred (ownI _ 72 .u16 (listS p 65536))) (by intro u1 w e hu1; (try obtain rfl : u1 = _ := hu1); exact (ha _ e).mono (ret_base e.size)) ?_)|(refine oC 34 ?_; refine LA_call1 (f := 34) rfl rfl rfl  (.pred (ownI _ 22 .u64 (wordsOf p))) (by intro u1 w e hu1; (try obtain rfl : u1 = _ := hu1); exact (hw _ e).mono (ret_base e.size)) ?_))|(refine wNl hK ?_;clear hK K))|refine wG ?_|(refine wCR ?_;intro K hK)|(refine oPX ?_;first|exact PX_retC rfl rfl rfl rfl rfl (by assumption))|fail)
      all_goals skip
      all_goals first
        | (obtain rfl : v' = _ := hv; exact hkk ▸ hs _ e)
        | (obtain ⟨u, rfl, hu⟩ := hv; exact Cn.rns hp rfl hu hA)
  · skip
    by_cases hkk : kk = 2
    all_goals
      refine Fc.of (args := [_]) Tryz.func75 rfl rfl Tryz.ntmps75 (Nat.le_of_ble_eq_true rfl) ?_
      repeat' (first|(refine oLA ?_;first|refine LA_pass rfl ?_|refine wRcv ?_|refine LA_alloc rfl (fun _ => rfl) ?_|(refine LA_build2P (j1 := 3) (c := fun u => .agg #[.int .u8 3, .slice none 0 0, .slice none 0 0, u]) rfl rfl rfl (fun v1 w1 hv1 => by obtain ⟨a', c', rfl⟩ := (OwnR.slR hv1).isSlice; kernel_rfl) ?_)|(refine LA_build2P (j1 := 1) (c := fun u => .agg #[.int .u8 1, u, .slice none 0 0, .slice none 0 0]) rfl rfl rfl (fun v1 w1 hv1 => by obtain ⟨a', c', rfl⟩ := (OwnI.slI hv1).isSlice; kernel_rfl) ?_)|(refine LA_build2P (j1 := 2) (c := fun u => .agg #[.int .u8 2, .slice none 0 0, u, .slice none 0 0]) rfl rfl rfl (fun v1 w1 hv1 => by obtain ⟨a', c', rfl⟩ := (OwnI.slI hv1).isSlice; kernel_rfl) ?_)|(refine LA_stop (hK _ _ (LX_put (φ := cnP A p 2) (w0 := w) rfl rfl rfl lays_cn (fun v' w' e hv => ?_) rfl (fun _ => rfl) (Ext.refl _) (fun w' e' => ?_))); clear hK K)|refine wOp ?_|(refine wCm ?_ ?_<;>intro hc)|(refine oCv ?_;first|(refine oC 51 ?_; refine LA_call1 (f := 51) rfl rfl rfl  (.val (.int .i64 n)) (by intro u1 w e hu1; (try obtain rfl : u1 = _ := hu1); exact hl _ e) ?_)|(refine oC 126 ?_; refine LA_call1 (f := 126) rfl rfl rfl  (.val (.int .i64 r)) (by intro u1 w e hu1; (try obtain rfl : u1 = _ := hu1); exact hm _ e) ?_)|(refine oC 82 ?_; refine LA_call1 (f := 82) rfl rfl rfl  (.val (.int .u8 kk)) (by intro u1 w e hu1; (try obtain rfl : u1 = _ := hu1); exact hk _ e) ?_)|(refine oC 36 ?_; refine LA_call1 (f := 36) rfl rfl rfl  (.pred (ownR _ 96 (runsL p))) (by intro u1 w e hu1; (try obtain rfl : u1 = _ := hu1); exact (hru _ e).mono (ret_baseR e.size rfl)) ?_)|(refine oC 64 ?_; refine LA_call1 (f := 64) rfl rfl rfl  (.pred (ownI _ 72 .u16 (listS p 65536))) (by intro u1 w e hu1; (try obtain rfl : u1 = _ := hu1); exact (ha _ e).mono (ret_base e.size)) ?_)|(refine oC 34 ?_; refine LA_call1 (f := 34) rfl rfl rfl  (.pred (ownI _ 22 .u64 (wordsOf p))) (by intro u1 w e hu1; (try obtain rfl : u1 = _ := hu1); exact (hw _ e).mono (ret_base e.size)) ?_))|(refine wNl hK ?_;clear hK K))|refine wG ?_|(refine wCR ?_;intro K hK)|(refine oPX ?_;first|exact PX_retC rfl rfl rfl rfl rfl (by assumption))|fail)
      all_goals skip
      all_goals first
        | (obtain rfl : v' = _ := hv; exact hkk ▸ hs _ e)
        | (obtain ⟨u, rfl, hu⟩ := hv; exact Cn.wrd hp rfl hu hA)
end Go.Proofs.YtfcioiobhpcngaaGreatDoor
end
section
set_option linter.unusedSimpArgs false
set_option linter.unusedVariables false
namespace Go.Proofs.YtfcioiobhpcngaaGreatDoor
open Go.LA Go.ArrP Go.RowKit
variable {A : Nat → Prop}
abbrev tC : Nat := 65
structure VarC (A : Nat → Prop) (w : World) (b : Nat) (cs : Array Value) (p : Nat → Bool) (kk : Int) : Prop where
  hb : w.heap[b]? = some (.cells cs tC (0, 0))
  hn : cs.size = 4
  hc : Cn A w (.agg cs) p kk
theorem VarC.ext {w w' : World} {b : Nat} {cs : Array Value} {p : Nat → Bool} {kk : Int} (h : VarC A w b cs p kk) (e : Ext w w') : VarC A w' b cs p kk := ⟨e.block h.hb, h.hn, h.hc.ext e⟩
theorem VarC.set {w : World} {b : Nat} {cur cs : Array Value} {p : Nat → Bool} {kk : Int} (hb : w.heap[b]? = some (.cells cur tC (0, 0))) (hn : cs.size = 4) (hc : Cn A w (.agg cs) p kk) : VarC A (w.setRow b cs) b cs p kk :=
  ⟨setRow_heap w b _ _ _ (0, 0) hb, hn, hc.setRow hb ⟨by decide, by decide, by decide⟩ cs⟩
theorem blk_lt {w : World} {b : Nat} {o : Obj} (h : w.heap[b]? = some o) : b < w.heap.size := (Array.getElem?_eq_some_iff.1 h).1
theorem VarC.lt {w : World} {b : Nat} {cs : Array Value} {p : Nat → Bool} {kk : Int} (h : VarC A w b cs p kk) : b < w.heap.size := blk_lt h.hb
end Go.Proofs.YtfcioiobhpcngaaGreatDoor
end
section
set_option linter.unusedSimpArgs false
set_option linter.unusedVariables false
set_option maxRecDepth 3000
namespace Go.Proofs.YtfcioiobhpcngaaGreatDoor
open Go.LA Go.ArrP Go.RowKit
variable {A : Nat → Prop}
theorem memb_top {xs : List Int} (hl : Low xs) : memb xs 65536 = false := by
  unfold memb
  refine decide_eq_false fun h => ?_
  have := (hl _ h).2; omega
theorem ofarr_c {w : World} {v : Value} {xs : List Int} (h : SlI .u16 w v xs) (hi : Inc xs) (hl : Low xs) (hA : Fsh A w) : Fc Tryz.prog 32 #[v] w (Ret w (.tup2 (.pred (cnP A (memb xs) 1)) (.val (.bool true)))) := by
  have hx : listS (memb xs) 65536 = xs := listS_memb hi hl
  have hn : xs.length ≤ 65536 := by rw [← hx]; exact len16 _
  have hp := memb_top hl
  refine Fc.of (args := [_]) Tryz.func32 rfl rfl Tryz.ntmps32 (Nat.le_of_ble_eq_true rfl) ?_
  repeat' (first|(refine oLA ?_;first|refine LA_pass rfl ?_|refine LA_alloc rfl (fun _ => rfl) ?_|(refine LA_build2P (j1 := 1) (c := fun u => .agg #[.int .u8 1, u, .slice none 0 0, .slice none 0 0]) rfl rfl rfl (fun v1 w1 hv1 => by obtain ⟨a', c', rfl⟩ := (OwnI.slI hv1).isSlice; kernel_rfl) ?_)|(refine LA_stop (hK _ _ (LX_put (φ := cnP A (memb xs) 1) (w0 := w) rfl rfl rfl lays_cn (fun v' w' e hv => by obtain ⟨u, rfl, hu⟩ := hv; exact Cn.arr hp hx.symm hu hA) rfl (fun _ => rfl) (Ext.refl _) (fun w' e' => ?_))); clear hK K; refine LX_la (by kernel_rfl) (fun K hK => ?_))|refine wOp ?_|(refine wCm ?_ ?_<;>intro hc)|(refine oCv ?_;first|(refine oC 68 ?_; refine LA_call1 (f := 68) rfl rfl rfl  (.val (.bool true)) (by intro u1 w e hu1; (try obtain rfl : u1 = _ := hu1); exact ret_true (may_c _ _ xs (h.ext e)) (decide_eq_true hi)) ?_)|(refine oC 55 ?_; refine LA_call1 (f := 55) rfl rfl rfl  (.pred (ownI _ 72 .u16 xs)) (by intro u1 w e hu1; (try obtain rfl : u1 = _ := hu1); exact (clone16_c _ _ _ (h.ext e) hn).mono (ret_base e.size)) ?_))|(refine wNl hK ?_;clear hK K))|refine wG ?_|(refine wCR ?_;intro K hK)|(refine oPX ?_;first|exact PX_retC2 rfl rfl rfl rfl rfl rfl (by assumption))|fail)
  all_goals skip
def flp (p : Nat → Bool) (lo hi : Int) : Nat → Bool := two fXor' p (spanM lo hi)
theorem flp_top {p : Nat → Bool} (hp : p 65536 = false) (lo hi : Int) : flp p lo hi 65536 = false := by
  unfold flp two fXor'; rw [hp, span_cut]; rfl
theorem flp_flipM (p : Nat → Bool) (lo hi : Int) {i : Nat} (h : i < 65536) : flipM p lo hi i = flp p lo hi i := by
  unfold flp two fXor' flipM spanM; rw [decide_eq_true h, Bool.and_true]
set_option maxHeartbeats 2000000 in
theorem flip_c {w : World} {v : Value} {p : Nat → Bool} {kk : Int} (h : Cn A w v p kk) (hT : Tab w) (hA : Fsh A w) (lo hi : Int) (hlo : -9223372036854775808 ≤ lo ∧ lo < 9223372036854775808) (hhi : -9223372036854775808 ≤ hi ∧ hi < 9223372036854775808) :
    Fc Tryz.prog 49 #[v, .int .i64 lo, .int .i64 hi] w (Ret w (.pred (cnP A (flp p lo hi) (kindP (flp p lo hi))))) := by
  have hq := flp_top h.1 lo hi
  have hww : wordsOf (flipM p lo hi) = wordsOf (flp p lo hi) := wordsOf_congr fun i hi' => flp_flipM p lo hi hi'
  have hru : ∀ w', Ext w w' → _ := fun w' e => cruns_c (h.ext e) (hT.ext e)
  obtain ⟨hp, ⟨rfl, kd, va, hkd, rfl, ho⟩ | ⟨rfl, vw, rfl, ho⟩ | ⟨rfl, vr, rfl, ho⟩⟩ := h
  · skip
    refine Fc.of (args := [_, _, _]) Tryz.func49 rfl rfl Tryz.ntmps49 (Nat.le_of_ble_eq_true rfl) ?_
    repeat' (first|(refine oLA ?_;first|refine LA_pass rfl ?_|refine wRcv ?_|refine LA_alloc rfl (fun _ => rfl) ?_|(refine LA_build2P (j1 := 3) (c := fun u => .agg #[.int .u8 3, .slice none 0 0, .slice none 0 0, u]) rfl rfl rfl (fun v1 w1 hv1 => by obtain ⟨a', c', rfl⟩ := (OwnR.slR hv1).isSlice; kernel_rfl) ?_)|(refine LA_build2P (j1 := 2) (c := fun u => .agg #[.int .u8 2, .slice none 0 0, u, .slice none 0 0]) rfl rfl rfl (fun v1 w1 hv1 => by obtain ⟨a', c', rfl⟩ := (OwnI.slI hv1).isSlice; kernel_rfl) ?_)|(refine LA_stop (hK _ _ (LX_put (φ := cnP A (flp p lo hi) (kindP (flp p lo hi))) (w0 := w) rfl rfl rfl lays_cn (fun v' w' e hv => hv) rfl (fun _ => rfl) (Ext.refl _) (fun w' e' => ?_))); clear hK K)|refine wOp ?_|(refine wCm ?_ ?_<;>intro hc)|(refine oCv ?_;first|(refine oC 71 ?_; refine LA_call3 (f := 71) rfl rfl rfl rfl rfl  (.pred (ownI _ 22 .u64 (wordsOf (flp p lo hi)))) (by intro u1 u2 u3 w e hu1 hu2 hu3; (try obtain rfl : u1 = _ := hu1); (try obtain rfl : u2 = _ := hu2); (try obtain rfl : u3 = _ := hu3); exact (wflipP _ _ p (ho.ext e).slI lo hi hlo hhi).mono (ret_w e.size hww)) ?_)|(refine oC 36 ?_; refine LA_call1 (f := 36) rfl rfl rfl  (.pred (ownR _ 96 (runsL p))) (by intro u1 w e hu1; (try obtain rfl : u1 = _ := hu1); exact (hru _ e).mono (ret_baseR e.size rfl)) ?_)|(refine oC 94 ?_; refine LA_call3 (f := 94) rfl rfl rfl rfl rfl  (.pred (ownR _ 96 (runsL (flp p lo hi)))) (by intro u1 u2 u3 w e hu1 hu2 hu3; (try obtain rfl : u1 = _ := hu1); (try obtain rfl : u2 = _ := hu2); (try obtain rfl : u3 = _ := hu3); exact (rflipR_c _ _ p lo hi hp (OwnR.slR hu1) hlo hhi).mono (ret_baseR e.size rfl)) ?_)|(refine oC 75 ?_; refine LA_call1 (f := 75) rfl rfl rfl  (.pred (cnP A (flp p lo hi) (kindP (flp p lo hi)))) (by intro u1 w e hu1; (try obtain rfl : u1 = _ := hu1); exact by obtain ⟨u, rfl, hu⟩ := hu1; exact canon_c (Cn.rns hq rfl hu hA) (hT.ext e) (hA.ext e)) ?_))|(refine wNl hK ?_;clear hK K))|refine wG ?_|(refine wCR ?_;intro K hK)|(refine oPX ?_;first|exact PX_retC rfl rfl rfl rfl rfl (by assumption))|fail)
    all_goals skip
  · skip
    refine Fc.of (args := [_, _, _]) Tryz.func49 rfl rfl Tryz.ntmps49 (Nat.le_of_ble_eq_true rfl) ?_
    repeat' (first|(refine oLA ?_;first|refine LA_pass rfl ?_|refine wRcv ?_|refine LA_alloc rfl (fun _ => rfl) ?_|(refine LA_build2P (j1 := 3) (c := fun u => .agg #[.int .u8 3, .slice none 0 0, .slice none 0 0, u]) rfl rfl rfl (fun v1 w1 hv1 => by obtain ⟨a', c', rfl⟩ := (OwnR.slR hv1).isSlice; kernel_rfl) ?_)|(refine LA_build2P (j1 := 2) (c := fun u => .agg #[.int .u8 2, .slice none 0 0, u, .slice none 0 0]) rfl rfl rfl (fun v1 w1 hv1 => by obtain ⟨a', c', rfl⟩ := (OwnI.slI hv1).isSlice; kernel_rfl) ?_)|(refine LA_stop (hK _ _ (LX_put (φ := cnP A (flp p lo hi) (kindP (flp p lo hi))) (w0 := w) rfl rfl rfl lays_cn (fun v' w' e hv => hv) rfl (fun _ => rfl) (Ext.refl _) (fun w' e' => ?_))); clear hK K)|refine wOp ?_|(refine wCm ?_ ?_<;>intro hc)|(refine oCv ?_;first|(refine oC 71 ?_; refine LA_call3 (f := 71) rfl rfl rfl rfl rfl  (.pred (ownI _ 22 .u64 (wordsOf (flp p lo hi)))) (by intro u1 u2 u3 w e hu1 hu2 hu3; (try obtain rfl : u1 = _ := hu1); (try obtain rfl : u2 = _ := hu2); (try obtain rfl : u3 = _ := hu3); exact (wflipP _ _ p (ho.ext e).slI lo hi hlo hhi).mono (ret_w e.size hww)) ?_)|(refine oC 36 ?_; refine LA_call1 (f := 36) rfl rfl rfl  (.pred (ownR _ 96 (runsL p))) (by intro u1 w e hu1; (try obtain rfl : u1 = _ := hu1); exact (hru _ e).mono (ret_baseR e.size rfl)) ?_)|(refine oC 94 ?_; refine LA_call3 (f := 94) rfl rfl rfl rfl rfl  (.pred (ownR _ 96 (runsL (flp p lo hi)))) (by intro u1 u2 u3 w e hu1 hu2 hu3; (try obtain rfl : u1 = _ := hu1); (try obtain rfl : u2 = _ := hu2); (try obtain rfl : u3 = _ := hu3); exact (rflipR_c _ _ p lo hi hp (OwnR.slR hu1) hlo hhi).mono (ret_baseR e.size rfl)) ?_)|(refine oC 75 ?_; refine LA_call1 (f := 75) rfl rfl rfl  (.pred (cnP A (flp p lo hi) (kindP (flp p lo hi)))) (by intro u1 w e hu1; (try obtain rfl : u1 = _ := hu1); exact by obtain ⟨u, rfl, hu⟩ := hu1; exact canon_c (Cn.wrd hq rfl hu hA) (hT.ext e) (hA.ext e)) ?_))|(refine wNl hK ?_;clear hK K))|refine wG ?_|(refine wCR ?_;intro K hK)|(refine oPX ?_;first|exact PX_retC rfl rfl rfl rfl rfl (by assumption))|fail)
    all_goals skip
  · skip
    refine Fc.of (args := [_, _, _]) Tryz.func49 rfl rfl Tryz.ntmps49 (Nat.le_of_ble_eq_true rfl) ?_
    repeat' (first|(refine oLA ?_;first|refine LA_pass rfl ?_|refine wRcv ?_|refine LA_alloc rfl (fun _ => rfl) ?_|(refine LA_build2P (j1 := 3) (c := fun u => .agg #[.int .u8 3, .slice none 0 0, .slice none 0 0, u]) rfl rfl rfl (fun v1 w1 hv1 => by obtain ⟨a', c', rfl⟩ := (OwnR.slR hv1).isSlice; kernel_rfl) ?_)|(refine LA_build2P (j1 := 2) (c := fun u => .agg #[.int .u8 2, .slice none 0 0, u, .slice none 0 0]) rfl rfl rfl (fun v1 w1 hv1 => by obtain ⟨a', c', rfl⟩ := (OwnI.slI hv1).isSlice; kernel_rfl) ?_)|(refine LA_stop (hK _ _ (LX_put (φ := cnP A (flp p lo hi) (kindP (flp p lo hi))) (w0 := w) rfl rfl rfl lays_cn (fun v' w' e hv => hv) rfl (fun _ => rfl) (Ext.refl _) (fun w' e' => ?_))); clear hK K)|refine wOp ?_|(refine wCm ?_ ?_<;>intro hc)|(refine oCv ?_;first|(refine oC 71 ?_; refine LA_call3 (f := 71) rfl rfl rfl rfl rfl  (.pred (ownI _ 22 .u64 (wordsOf (flp p lo hi)))) (by intro u1 u2 u3 w e hu1 hu2 hu3; (try obtain rfl : u1 = _ := hu1); (try obtain rfl : u2 = _ := hu2); (try obtain rfl : u3 = _ := hu3); exact (wflipP _ _ p (ho.ext e).slI lo hi hlo hhi).mono (ret_w e.size hww)) ?_)|(refine oC 36 ?_; refine LA_call1 (f := 36) rfl rfl rfl  (.pred (ownR _ 96 (runsL p))) (by intro u1 w e hu1; (try obtain rfl : u1 = _ := hu1); exact (hru _ e).mono (ret_baseR e.size rfl)) ?_)|(refine oC 94 ?_; refine LA_call3 (f := 94) rfl rfl rfl rfl rfl  (.pred (ownR _ 96 (runsL (flp p lo hi)))) (by intro u1 u2 u3 w e hu1 hu2 hu3; (try obtain rfl : u1 = _ := hu1); (try obtain rfl : u2 = _ := hu2); (try obtain rfl : u3 = _ := hu3); exact (rflipR_c _ _ p lo hi hp (OwnR.slR hu1) hlo hhi).mono (ret_baseR e.size rfl)) ?_)|(refine oC 75 ?_; refine LA_call1 (f := 75) rfl rfl rfl  (.pred (cnP A (flp p lo hi) (kindP (flp p lo hi)))) (by intro u1 w e hu1; (try obtain rfl : u1 = _ := hu1); exact by obtain ⟨u, rfl, hu⟩ := hu1; exact canon_c (Cn.rns hq rfl hu hA) (hT.ext e) (hA.ext e)) ?_))|(refine wNl hK ?_;clear hK K))|refine wG ?_|(refine wCR ?_;intro K hK)|(refine oPX ?_;first|exact PX_retC rfl rfl rfl rfl rfl (by assumption))|fail)
    all_goals skip
def addP (p : Nat → Bool) (x : Nat) (i : Nat) : Bool := p i || decide (i = x)
theorem addP_top {p : Nat → Bool} (hp : p 65536 = false) {x : Nat} (hx : x < 65536) : addP p x 65536 = false := by
  unfold addP; rw [hp, decide_eq_false (by omega)]; rfl
theorem flp_one {p : Nat → Bool} {x : Nat} (hx : x < 65536) (hpx : p x = false) (i : Nat) (hi : i < 65536) : flp p x ((x : Int) + 1) i = addP p x i := by
  unfold flp two fXor' spanM addP
  rw [decide_eq_true hi, Bool.and_true]
  by_cases h : i = x
  · subst h; rw [hpx, decide_eq_true (by omega : (i : Int) ≤ i), decide_eq_true (by omega : (i : Int) < i + 1), decide_eq_true rfl]; rfl
  · rw [decide_eq_false h, Bool.or_false]
    by_cases h1 : (x : Int) ≤ i
    · rw [decide_eq_true h1, decide_eq_false (by omega : ¬ (i : Int) < x + 1)]; cases p i <;> rfl
    · rw [decide_eq_false h1]; cases p i <;> rfl
theorem add_same {p : Nat → Bool} {x : Nat} (hpx : p x = true) (i : Nat) (hi : i < 65536) : p i = addP p x i := by
  unfold addP
  by_cases h : i = x
  · subst h; rw [hpx]; rfl
  · rw [decide_eq_false h, Bool.or_false]
theorem acA {w : World} {v : Value} {p : Nat → Bool} {kk : Int} (h : Cn A w v p kk) (hT : Tab w) (hA : Fsh A w) {x : Nat} (hx : x < 65536) :
    Fc Tryz.prog 57 #[v, .int .u16 x] w (Ret w (.pred (cnP A (addP p x) (kindP (addP p x))))) := by
  have hq := addP_top h.1 hx
  have hh : ∀ w', Ext w w' → _ := fun w' e => has_c (h.ext e) hx
  have hc : ∀ w', Ext w w' → _ := fun w' e => canon_c (h.ext e) (hT.ext e) (hA.ext e)
  have hf : ∀ w', Ext w w' → _ := fun w' e => flip_c (h.ext e) (hT.ext e) (hA.ext e) x ((x : Int) + 1) (by omega) (by omega)
  obtain ⟨kd, va, vw, vr, rfl, -, -, -, -, k1, k2, -⟩ := h.parts
  cases hpx : p x
  · rw [hpx] at hh
    have hf' : ∀ w', Ext w w' → Fc _ _ _ _ _ := fun w' e => (hf w' e).mono (ret_can hq (flp_one hx hpx))
    refine Fc.of (args := [_, _]) Tryz.func57 rfl rfl Tryz.ntmps57 (Nat.le_of_ble_eq_true rfl) ?_
    repeat' (first|(refine oLA ?_;first|refine LA_pass rfl ?_|refine wRcv ?_|refine LA_alloc rfl (fun _ => rfl) ?_|(refine LA_stop (hK _ _ (LX_put (φ := cnP A (addP p x) (kindP (addP p x))) (w0 := w) rfl rfl rfl lays_cn (fun v' w' e hv => hv) rfl (fun _ => rfl) (Ext.refl _) (fun w' e' => ?_))); clear hK K)|refine wOp ?_|(refine wCm ?_ ?_<;>intro hc)|(refine oCv ?_;first|(refine oC 54 ?_; refine LA_call2 (f := 54) rfl rfl rfl rfl  (.val (.bool false)) (by intro u1 u2 w e hu1 hu2; (try obtain rfl : u1 = _ := hu1); (try obtain rfl : u2 = _ := hu2); exact hh _ e) ?_)|(refine oC 49 ?_; refine LA_call3 (f := 49) rfl rfl rfl rfl rfl  (.pred (cnP A (addP p x) (kindP (addP p x)))) (by intro u1 u2 u3 w e hu1 hu2 hu3; (try obtain rfl : u1 = _ := hu1); (try obtain rfl : u2 = _ := hu2); (try obtain rfl : u3 = _ := hu3); exact hf' _ e) ?_))|(refine wNl hK ?_;clear hK K))|refine wG ?_|(refine wCR ?_;intro K hK)|(refine oPX ?_;first|exact PX_retC rfl rfl rfl rfl rfl (by assumption))|fail)
    all_goals skip
  · rw [hpx] at hh
    have hc' : ∀ w', Ext w w' → Fc _ _ _ _ _ := fun w' e => (hc w' e).mono (ret_can hq (add_same hpx))
    refine Fc.of (args := [_, _]) Tryz.func57 rfl rfl Tryz.ntmps57 (Nat.le_of_ble_eq_true rfl) ?_
    repeat' (first|(refine oLA ?_;first|refine LA_pass rfl ?_|refine wRcv ?_|refine LA_alloc rfl (fun _ => rfl) ?_|(refine LA_stop (hK _ _ (LX_put (φ := cnP A (addP p x) (kindP (addP p x))) (w0 := w) rfl rfl rfl lays_cn (fun v' w' e hv => hv) rfl (fun _ => rfl) (Ext.refl _) (fun w' e' => ?_))); clear hK K)|refine wOp ?_|(refine wCm ?_ ?_<;>intro hc)|(refine oCv ?_;first|(refine oC 54 ?_; refine LA_call2 (f := 54) rfl rfl rfl rfl  (.val (.bool true)) (by intro u1 u2 w e hu1 hu2; (try obtain rfl : u1 = _ := hu1); (try obtain rfl : u2 = _ := hu2); exact hh _ e) ?_)|(refine oC 75 ?_; refine LA_call1 (f := 75) rfl rfl rfl  (.pred (cnP A (addP p x) (kindP (addP p x)))) (by intro u1 w e hu1; (try obtain rfl : u1 = _ := hu1); exact hc' _ e) ?_))|(refine wNl hK ?_;clear hK K))|refine wG ?_|(refine wCR ?_;intro K hK)|(refine oPX ?_;first|exact PX_retC rfl rfl rfl rfl rfl (by assumption))|fail)
    all_goals skip
end Go.Proofs.YtfcioiobhpcngaaGreatDoor
end
section
set_option linter.unusedSimpArgs false
set_option linter.unusedVariables false
set_option maxRecDepth 3000
namespace Go.Proofs.YtfcioiobhpcngaaGreatDoor
open Go.LA Go.ArrP Go.RowKit
def Tells (w : World) (fv : Value) (q : Nat → Bool) : Prop := ∀ w', Ext w w' → ∀ x : Nat, x < 65536 → Clb Tryz.prog fv [.int .u16 x] w' (Ret w' (.val (.bool (q x))))
theorem Tells.ext {w w' : World} {fv : Value} {q : Nat → Bool} (h : Tells w fv q) (e : Ext w w') : Tells w' fv q := fun w2 e2 => h w2 (e.trans e2)
set_option maxHeartbeats 2000000 in
theorem idxf_c (w : World) (v fv : Value) (xs : List Int) (q : Nat → Bool) (h : SlI .u16 w v xs) (hl : Low xs) (hF : Tells w fv q) :
    Fc Tryz.prog 192 #[v, fv] w (Ret w (.val (.int .i64 (if fstQ q xs < xs.length then (fstQ q xs : Int) else -1)))) := by
  have hlen := h.len
  have hle := fstQ_le q xs
  refine Fc.of (args := [_, _]) Tryz.func192 rfl rfl Tryz.ntmps192 (Nat.le_of_ble_eq_true rfl) ?_
  repeat' (first|(refine oLA ?_;first|refine LA_pass rfl ?_|refine wOp ?_|(refine wCm ?_ ?_<;>intro hc)|(refine wNl hK ?_;clear hK K))|refine wG ?_|(refine wCR ?_;intro K hK)|fail)
  refine CX_loop (ι := Nat) (fun j => [(0, .val v), (1, .val fv), (7, .val (.int .i64 xs.length)), (8, .val (.int .i64 j))]) (fun j => j ≤ fstQ q xs) (fun j => xs.length - j) 0 (by omega) (by repeat' (first | exact Sub.nil | refine Sub.val rfl (by first | with_reducible rfl | (congr 1; omega)) ?_ | refine Sub.same rfl ?_)) ?_
  intro j hj
  by_cases hjl : j < xs.length
  · have hx : 0 ≤ xs.getD j 0 ∧ xs.getD j 0 < 65536 := by rw [getD_eq hjl]; exact hl _ (List.getElem_mem hjl)
    obtain ⟨x, hxx⟩ := Int.eq_ofNat_of_zero_le hx.1
    have hx' : x < 65536 := by omega
    have hb := fstQ_before q xs j
    have ha := fstQ_at q xs
    rw [hxx, Int.toNat_natCast] at hb
    have hF0 : ∀ w', Ext w w' → Clb Tryz.prog fv [.int .u16 (xs.getD j 0)] w' (Ret w' (.val (.bool (q x)))) := fun w' e => by rw [hxx]; exact hF w' e x hx'
    cases hq : q x
    · rw [hq] at hF0
      have hne : j ≠ fstQ q xs := fun e => by
        subst e
        rw [hxx, Int.toNat_natCast, hq] at ha
        cases ha hjl
      repeat' (first|(refine oLA ?_;first|refine LA_pass rfl ?_|refine wOp ?_|(refine wCm ?_ ?_<;>intro hc)|(refine oCv ?_;first|(refine LA_callV1 rfl rfl rfl (.val (.bool false)) (by intro vf u1 w' e hf hu1; obtain rfl : vf = _ := hf; obtain rfl : u1 = _ := hu1; exact hF0 w' e) ?_))|(refine wNl hK ?_;clear hK K))|refine wG ?_|(refine wCR ?_;intro K hK)|fail)
      refine PX_rnd (j + 1) ?_ ?_ (by repeat' (first | exact Sub.nil | refine Sub.val rfl (by first | with_reducible rfl | (congr 1; omega)) ?_ | refine Sub.same rfl ?_))
      · omega
      · omega
    · rw [hq] at hF0
      have hjq : j = fstQ q xs := by
        rcases Nat.lt_or_ge j (fstQ q xs) with h | h
        · rw [hq] at hb; cases hb h
        · omega
      rw [if_pos (by omega), ← hjq]
      repeat' (first|(refine oLA ?_;first|refine LA_pass rfl ?_|refine wOp ?_|(refine wCm ?_ ?_<;>intro hc)|(refine oCv ?_;first|(refine LA_callV1 rfl rfl rfl (.val (.bool true)) (by intro vf u1 w' e hf hu1; obtain rfl : vf = _ := hf; obtain rfl : u1 = _ := hu1; exact hF0 w' e) ?_))|(refine wNl hK ?_;clear hK K))|refine wG ?_|(refine wCR ?_;intro K hK)|(refine oPX ?_;first|exact PX_retE rfl rfl (Ext.refl _) rfl)|fail)
      all_goals skip
  · rw [if_neg (by omega)]
    repeat' (first|(refine oLA ?_;first|refine LA_pass rfl ?_|refine wOp ?_|(refine wCm ?_ ?_<;>intro hc)|(refine wNl hK ?_;clear hK K))|refine wG ?_|(refine wCR ?_;intro K hK)|(refine oPX ?_;first|exact PX_retE rfl rfl (Ext.refl _) rfl)|fail)
    all_goals skip
set_option maxHeartbeats 4000000 in
theorem delf_c (w0 w : World) (he0 : Ext w0 w) (v fv : Value) (xs : List Int) (q : Nat → Bool) (ho0 : OwnI w0.heap.size 72 .u16 w v xs) (hl : Low xs) (hn : xs.length ≤ 65536) (hF : Tells w0 fv q) :
    Fc Tryz.prog 150 #[v, fv] w (fun en w' => ∃ v', en = .returned v' ∧ OwnI w0.heap.size 72 .u16 w' v' (keepS q xs) ∧ Ext w0 w') := by
  have hle := fstQ_le q xs
  have hix : ∀ w', Ext w w' → _ := fun w' e => idxf_c w' v fv xs q (ho0.ext e).slI hl (hF.ext (he0.trans e))
  by_cases hall : fstQ q xs < xs.length
  · rw [if_pos hall] at hix
    have hst := Mid.start q hall
    obtain ⟨i0, hi0⟩ : ∃ i0, i0 = fstQ q xs := ⟨_, rfl⟩
    rw [← hi0] at hix hall hle hst
    refine Fc.of (args := [_, _]) Tryz.func150 rfl rfl Tryz.ntmps150 (Nat.le_of_ble_eq_true rfl) ?_
    repeat' (first|(refine oLA ?_;first|refine LA_pass rfl ?_|refine wOp ?_|(refine wCm ?_ ?_<;>intro hc)|(refine oCv ?_;first|(refine oC 192 ?_; refine LA_call2 (f := 192) rfl rfl rfl rfl  (.val (.int .i64 i0)) (by intro u1 u2 w e hu1 hu2; (try obtain rfl : u1 = _ := hu1); (try obtain rfl : u2 = _ := hu2); exact hix _ e) ?_))|(refine wNl hK ?_;clear hK K))|refine wG ?_|(refine wCR ?_;intro K hK)|fail)
    refine CX_loopV (ι := (Nat × Nat) × List Int) (fun s => [(0, .val v), (1, .val fv), (5, .val (.int .i64 s.1.1)), (6, .val (.int .i64 s.1.2))]) (fun s w' => Ext w0 w' ∧ Mid q xs s.2 s.1.1 s.1.2 ∧ OwnI w0.heap.size 72 .u16 w' v s.2) (fun s => xs.length - s.1.2)
      (fun w2 e2 => ⟨((i0, i0 + 1), xs), ⟨he0.trans e2, hst, ho0.ext e2⟩, (by repeat' (first | exact Sub.nil | refine Sub.val rfl (by first | with_reducible rfl | (congr 1; omega)) ?_ | refine Sub.same rfl ?_))⟩) ?_
    rintro ⟨⟨i, j⟩, ys⟩ w1 ⟨he, hM, ho⟩
    dsimp only at hM ho ⊢
    have m1 := hM.len
    have m2 := hM.lt
    have m3 := hM.le
    clear hix ho0 hst
    by_cases hjl : j < xs.length
    · have hcur := hM.cur hjl
      have hx : 0 ≤ xs.getD j 0 ∧ xs.getD j 0 < 65536 := by rw [getD_eq hjl]; exact hl _ (List.getElem_mem hjl)
      obtain ⟨x, hxx⟩ := Int.eq_ofNat_of_zero_le hx.1
      have hx' : x < 65536 := by omega
      have hF0 : ∀ w', Ext w1 w' → Clb Tryz.prog fv [.int .u16 (ys.getD j 0)] w' (Ret w' (.val (.bool (q x)))) := fun w' e => by rw [hcur, hxx]; exact hF w' (he.trans e) x hx'
      have hqq : q (xs.getD j 0).toNat = q x := by rw [hxx]; rfl
      obtain ⟨gb, cap, cur, rfl, hgb, hgc, hgn, hgm, hgs, hgt⟩ := ho.row (by omega)
      cases hq : q x
      · rw [hq] at hF0 hqq
        have hM' := hM.put hjl hqq
        rw [← hcur] at hM'
        repeat' (first|(refine oLA ?_;first|refine LA_pass rfl ?_|(refine oD 33 ?_; refine LA_indexS (s := 1) rfl rfl (fun _ => rfl) rfl rfl (by omega) (by omega) ?_; rw [Int.toNat_natCast])|(refine LA_stop (hK _ _ (LX_store1 (o := 0 + i * 1) rfl rfl rfl hgc (fun _ => rfl) (by omega) rfl rfl (fun w4 e4 => ?_))); clear hK K; dsimp only [vals])|refine wOp ?_|(refine wCm ?_ ?_<;>intro hc)|(refine oCv ?_;first|(refine LA_callV1 rfl rfl rfl (.val (.bool false)) (by intro vf u1 w' e hf hu1; obtain rfl : vf = _ := hf; obtain rfl : u1 = _ := hu1; exact hF0 w' e) ?_))|(refine wNl hK ?_;clear hK K))|refine wG ?_|(refine wCR ?_;intro K hK)|fail)
        all_goals skip
        refine PX_rndV ((i + 1, j + 1), ys.set i (ys.getD j 0)) (fun w5 e5 => ⟨((he.trans e4).setRow hgb _).trans e5, hM', ?_⟩) (by dsimp only; omega) (by repeat' (first | exact Sub.nil | refine Sub.val rfl (by first | with_reducible rfl | (congr 1; omega)) ?_ | refine Sub.same rfl ?_))
        have hh := OwnI.set hgb (e4.block hgc) hgn hgm hgs hgt (0 + i * 1) (by omega) (ys.getD j 0)
        rw [show 0 + i * 1 = i by omega] at hh e5
        exact OwnI.ext hh e5
      · rw [hq] at hF0 hqq
        have hM' := hM.skip hjl hqq
        repeat' (first|(refine oLA ?_;first|refine LA_pass rfl ?_|refine wOp ?_|(refine wCm ?_ ?_<;>intro hc)|(refine oCv ?_;first|(refine LA_callV1 rfl rfl rfl (.val (.bool true)) (by intro vf u1 w' e hf hu1; obtain rfl : vf = _ := hf; obtain rfl : u1 = _ := hu1; exact hF0 w' e) ?_))|(refine wNl hK ?_;clear hK K))|refine wG ?_|(refine wCR ?_;intro K hK)|fail)
        all_goals skip
        exact PX_rndV ((i, j + 1), ys) (fun w5 e5 => ⟨he.trans e5, hM', ho.ext e5⟩) (by dsimp only; omega) (by repeat' (first | exact Sub.nil | refine Sub.val rfl (by first | with_reducible rfl | (congr 1; omega)) ?_ | refine Sub.same rfl ?_))
    · obtain rfl : j = xs.length := by omega
      have hfin := hM.fin
      have hkl : (keepS q xs).length = i := by rw [← hfin, List.length_take]; omega
      obtain ⟨gb, cap, cur, rfl, hgb, hgc, hgn, hgm, hgs, hgt⟩ := ho.row (by omega)
      have hsl : subS (.slice (some ⟨gb, 0, none⟩) ys.length cap) i ys.length 1 = .slice (some ⟨gb, 0 + i * 1, none⟩) (ys.length - i) (cap - i) := by rw [sub_lit (by omega)]; simp
      have hsh : subS (.slice (some ⟨gb, 0, none⟩) ys.length cap) 0 i 1 = .slice (some ⟨gb, 0, none⟩) i cap := by rw [sub_lit (by omega)]; simp
      repeat' (first|(refine oLA ?_;first|refine LA_pass rfl ?_|(refine oD 38 ?_; refine LA_sliceL (n := ys.length) (s := 1) (i := (i : Int)) rfl _ rfl rfl (HasI.ownV ho).c rfl (by omega) (by omega) (fun _ => rfl) ?_; rw [Int.toNat_natCast, hsl])|(refine LA_stop (hK _ _ (LX_clear (b := gb) (o := 0 + i * 1) (m := ys.length - i) (c := cap - i) rfl rfl (fun _ => rfl) rfl rfl rfl hgc (by omega) (fun w4 cur4 e4 hs4 ht4 => ?_))); clear hK K; dsimp only [vals])|refine wOp ?_|(refine wCm ?_ ?_<;>intro hc)|(refine wNl hK ?_;clear hK K))|refine wG ?_|(refine wCR ?_;intro K hK)|fail)
      all_goals skip
      have hb4 := setRow_heap w4 gb cur cur4 72 (0, 0) (e4.block hgc)
      have hown : OwnI w0.heap.size 72 .u16 (w4.setRow gb cur4) (.slice (some ⟨gb, 0, none⟩) i cap) (keepS q xs) := by
        refine ⟨by simp, .inr ⟨gb, cap, cur4, by rw [hkl], hgb, hb4, by rw [hkl]; omega, hgm, by omega, ?_⟩⟩
        rw [hkl, Nat.mul_one, ← hfin, List.map_take, ← hgt]
        rw [show (0 + i * 1) = i by omega] at ht4
        rw [ht4, List.take_take, Nat.min_eq_left (by omega)]
      have hcs : SlC (w4.setRow gb cur4) (.slice (some ⟨gb, 0, none⟩) ys.length cap) ys.length 1 (cur4.toList.take ys.length) :=
        ⟨by simp; omega, _, cap, rfl, hgn, hgm, (fun h => by cases h), .inr ⟨gb, 0, rfl, fun j c hj => by
          rw [cell_of_row _ gb _ cur4 _ (0, 0) hb4, ← Array.getElem?_toList]
          rw [List.getElem?_take] at hj
          split at hj
          · simpa using hj
          · cases hj⟩⟩
      repeat' (first|(refine oLA ?_;first|refine LA_pass rfl ?_|(refine oD 41 ?_; refine LA_sliceH (n := ys.length) (s := 1) (i := (i : Int)) rfl _ rfl rfl (HasC.val hcs) rfl (by omega) (by omega) (fun _ => rfl) ?_; rw [Int.toNat_natCast, hsh])|refine wOp ?_|(refine wCm ?_ ?_<;>intro hc)|(refine wNl hK ?_;clear hK K))|refine wG ?_|(refine wCR ?_;intro K hK)|fail)
      all_goals skip
      all_goals exact PX_ret1 rfl (fun v' w' e hv => by obtain rfl : v' = _ := hv; exact ⟨_, rfl, hown.ext e, ((he.trans e4).setRow hgb _).trans e⟩)
  · rw [if_neg hall] at hix
    have hk : keepS q xs = xs := keepS_all q (by omega)
    rw [hk]
    refine Fc.of (args := [_, _]) Tryz.func150 rfl rfl Tryz.ntmps150 (Nat.le_of_ble_eq_true rfl) ?_
    repeat' (first|(refine oLA ?_;first|refine LA_pass rfl ?_|refine wOp ?_|(refine wCm ?_ ?_<;>intro hc)|(refine oCv ?_;first|(refine oC 192 ?_; refine LA_call2 (f := 192) rfl rfl rfl rfl  (.val (.int .i64 (-1))) (by intro u1 u2 w e hu1 hu2; (try obtain rfl : u1 = _ := hu1); (try obtain rfl : u2 = _ := hu2); exact hix _ e) ?_))|(refine wNl hK ?_;clear hK K))|refine wG ?_|(refine wCR ?_;intro K hK)|fail)
    all_goals skip
    all_goals exact PX_ret1 rfl (fun v' w' e hv => by obtain rfl : v' = _ := hv; exact ⟨_, rfl, ho0.ext e, he0.trans e⟩)
end Go.Proofs.YtfcioiobhpcngaaGreatDoor
end
