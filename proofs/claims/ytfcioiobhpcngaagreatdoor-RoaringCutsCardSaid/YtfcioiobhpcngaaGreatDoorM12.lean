import Derived.Test.YtfcioiobhpcngaaGreatDoorM7
import Derived.Test.YtfcioiobhpcngaaGreatDoorM11
section
set_option linter.unusedSimpArgs false
set_option linter.unusedVariables false
set_option maxRecDepth 3000
namespace Go.Proofs.YtfcioiobhpcngaaGreatDoor
open Go.LA Go.ArrP Go.RowKit
variable {A : Nat → Prop}
theorem ctA : El Tryz.prog 52 72 (.int .u16 0) 1 2 := ⟨rfl, rfl, rfl, by decide⟩
theorem pcA (w : World) (v : Value) (n : Nat) (cs : List Value) (h : SlC w v n 1 cs) (h1 : ∀ u ∈ cs, u.oneCell' = true) (hb : n * 2 ≤ 140737488355328) : Fc Tryz.prog 55 #[v] w (Ret w (.pred (i1A w.heap.size 72 1 n cs))) := by
  obtain ⟨h0, a, cap, rfl, hc, hm, hn, hcs⟩ := id h
  have hlen := h.len
  cases a with
  | none =>
    obtain rfl := hn rfl
    obtain rfl : n = 0 := by omega
    obtain rfl : cs = [] := List.eq_nil_of_length_eq_zero (by omega)
    refine Fc.of (args := [_]) Tryz.func55 rfl rfl Tryz.ntmps55 (Nat.le_of_ble_eq_true rfl) ?_
    repeat' (first|(refine oLA ?_;first|refine a0A rfl ?_|refine cpA (c := .bool true) rfl rfl rfl (fun _ => rfl) ?_|refine wOp ?_|(refine wCm ?_ ?_<;>intro hc)|(refine wNl hK ?_;clear hK K))|refine wG ?_|(refine wCR ?_;intro K hK)|(refine oPX ?_;first|exact aoA rfl rfl (Ext.refl _) (fun u w2 e2 hu => by obtain rfl : u = _ := hu; exact Own.nil))|fail)
  | some a =>
    refine Fc.of (args := [_]) Tryz.func55 rfl rfl Tryz.ntmps55 (Nat.le_of_ble_eq_true rfl) ?_
    repeat' (first|(refine oLA ?_;first|refine a0A rfl ?_|refine cpA (c := .bool false) rfl rfl rfl (fun _ => rfl) ?_|refine jjA 72 (s := 1) rfl (fun _ => by kernel_rfl) ?_|(refine a4A (hK _ _ (c5A 5 rfl (fun v5 w5 e5 h5 => ?_))); clear hK K; have h6 := h.ext e5; have ho : Own w.heap.size _ _ w5 v5 0 [] := h5; refine amA (by kernel_rfl) (fun K hK => ?_))|(refine a4A (hK _ _ (cuA rfl (by decide) ctA rfl ho rfl (HasC.val h6) h1 (by rw [Nat.zero_add]; unfold maxLen; omega) (by rw [Nat.zero_add]; exact hb) e5.size (fun v' w2 w3 he2 ho3 hg3 => ?_))); clear hK K; dsimp only [vals]; refine amA (by kernel_rfl) (fun K hK => ?_))|refine wOp ?_|(refine wCm ?_ ?_<;>intro hc)|(refine wNl hK ?_;clear hK K))|refine wG ?_|(refine wCR ?_;intro K hK)|fail)
    exact aoA rfl rfl ((e5.trans he2).grown hg3 (fun q hq => (Own.lt ho q hq).1)) (fun u w4 e4 hu => by
      obtain rfl : u = _ := hu
      have h9 : Own w.heap.size 72 1 w3 u n cs := by simpa using ho3
      exact h9.ext e4)
theorem y6A : El Tryz.prog 62 22 (.int .u64 0) 1 8 := ⟨rfl, rfl, rfl, by decide⟩
theorem paA (w : World) (v : Value) (n : Nat) (cs : List Value) (h : SlC w v n 1 cs) (h1 : ∀ u ∈ cs, u.oneCell' = true) (hb : n * 8 ≤ 140737488355328) : Fc Tryz.prog 69 #[v] w (Ret w (.pred (i1A w.heap.size 22 1 n cs))) := by
  obtain ⟨h0, a, cap, rfl, hc, hm, hn, hcs⟩ := id h
  have hlen := h.len
  cases a with
  | none =>
    obtain rfl := hn rfl
    obtain rfl : n = 0 := by omega
    obtain rfl : cs = [] := List.eq_nil_of_length_eq_zero (by omega)
    refine Fc.of (args := [_]) Tryz.func69 rfl rfl Tryz.ntmps69 (Nat.le_of_ble_eq_true rfl) ?_
    repeat' (first|(refine oLA ?_;first|refine a0A rfl ?_|refine cpA (c := .bool true) rfl rfl rfl (fun _ => rfl) ?_|refine wOp ?_|(refine wCm ?_ ?_<;>intro hc)|(refine wNl hK ?_;clear hK K))|refine wG ?_|(refine wCR ?_;intro K hK)|(refine oPX ?_;first|exact aoA rfl rfl (Ext.refl _) (fun u w2 e2 hu => by obtain rfl : u = _ := hu; exact Own.nil))|fail)
  | some a =>
    refine Fc.of (args := [_]) Tryz.func69 rfl rfl Tryz.ntmps69 (Nat.le_of_ble_eq_true rfl) ?_
    repeat' (first|(refine oLA ?_;first|refine a0A rfl ?_|refine cpA (c := .bool false) rfl rfl rfl (fun _ => rfl) ?_|refine jjA 22 (s := 1) rfl (fun _ => by kernel_rfl) ?_|(refine a4A (hK _ _ (c5A 5 rfl (fun v5 w5 e5 h5 => ?_))); clear hK K; have h6 := h.ext e5; have ho : Own w.heap.size _ _ w5 v5 0 [] := h5; refine amA (by kernel_rfl) (fun K hK => ?_))|(refine a4A (hK _ _ (cuA rfl (by decide) y6A rfl ho rfl (HasC.val h6) h1 (by rw [Nat.zero_add]; unfold maxLen; omega) (by rw [Nat.zero_add]; exact hb) e5.size (fun v' w2 w3 he2 ho3 hg3 => ?_))); clear hK K; dsimp only [vals]; refine amA (by kernel_rfl) (fun K hK => ?_))|refine wOp ?_|(refine wCm ?_ ?_<;>intro hc)|(refine wNl hK ?_;clear hK K))|refine wG ?_|(refine wCR ?_;intro K hK)|fail)
    exact aoA rfl rfl ((e5.trans he2).grown hg3 (fun q hq => (Own.lt ho q hq).1)) (fun u w4 e4 hu => by
      obtain rfl : u = _ := hu
      have h9 : Own w.heap.size 22 1 w3 u n cs := by simpa using ho3
      exact h9.ext e4)
theorem e7A {w : World} {v : Value} {p : Nat → Bool} {kk : Int} (h : Cn A w v p kk) : Fc Tryz.prog 82 #[v] w (Ret w (.val (.int .u8 kk))) := by
  obtain ⟨kd, va, vw, vr, rfl, -, h1, h2, rfl, -⟩ := h.parts
  refine Fc.of (args := [_]) Tryz.func82 rfl rfl Tryz.ntmps82 (Nat.le_of_ble_eq_true rfl) ?_
  repeat' (first|(refine oLA ?_;first|refine a0A rfl ?_|refine d1A ?_|(refine eiA rfl rfl rfl ?_)|refine wOp ?_|(refine wCm ?_ ?_<;>intro hc)|(refine wNl hK ?_;clear hK K))|refine wG ?_|(refine wCR ?_;intro K hK)|fail)
  all_goals skip
  all_goals exact abA rfl rfl (Ext.refl _) rfl
theorem siA {w : World} {va vw vr : Value} {kd : Int} {xs : List Int} (h : SlI .u16 w va xs) : Fc Tryz.prog 95 #[.agg #[.int .u8 kd, va, vw, vr]] w (Ret w (.val (.int .i64 xs.length))) := by
  have hl := h.len
  refine Fc.of (args := [_]) Tryz.func95 rfl rfl Tryz.ntmps95 (Nat.le_of_ble_eq_true rfl) ?_
  repeat' (first|(refine oLA ?_;first|refine a0A rfl ?_|refine d1A ?_|refine wOp ?_|(refine wCm ?_ ?_<;>intro hc)|(refine wNl hK ?_;clear hK K))|refine wG ?_|(refine wCR ?_;intro K hK)|fail)
  all_goals skip
  all_goals exact abA rfl rfl (Ext.refl _) rfl
theorem qoA {w : World} {va vw vr : Value} {kd : Int} {p : Nat → Bool} (h : SlI .u64 w vw (wordsOf p)) : Fc Tryz.prog 96 #[.agg #[.int .u8 kd, va, vw, vr]] w (Ret w (.val (.int .i64 (cnt p 65536)))) := by
  refine Fc.of (args := [_]) Tryz.func96 rfl rfl Tryz.ntmps96 (Nat.le_of_ble_eq_true rfl) ?_
  repeat' (first|(refine oLA ?_;first|refine a0A rfl ?_|refine d1A ?_|refine wOp ?_|(refine wCm ?_ ?_<;>intro hc)|(refine oCv ?_;first|(refine oC 141 ?_; refine a1A (f := 141) rfl rfl rfl  (.val (.int .i64 (cnt p 65536))) (by intro u1 w e hu1; (try obtain rfl : u1 = _ := hu1); exact wlenP _ _ p (h.ext e)) ?_))|(refine wNl hK ?_;clear hK K))|refine wG ?_|(refine wCR ?_;intro K hK)|fail)
  all_goals skip
  all_goals exact abA rfl rfl (Ext.refl _) rfl
theorem qzA {w : World} {va vw vr : Value} {kd : Int} {p : Nat → Bool} (h : SlR w vr (anA p)) : Fc Tryz.prog 97 #[.agg #[.int .u8 kd, va, vw, vr]] w (Ret w (.val (.int .i64 (cnt p 65536)))) := by
  have hl : i4A (anA p) = cnt p 65536 := ksA p 65536
  rw [← hl]
  have hn : (anA p).length ≤ 70000 := by have := d5A p; omega
  refine Fc.of (args := [_]) Tryz.func97 rfl rfl Tryz.ntmps97 (Nat.le_of_ble_eq_true rfl) ?_
  repeat' (first|(refine oLA ?_;first|refine a0A rfl ?_|refine d1A ?_|refine wOp ?_|(refine wCm ?_ ?_<;>intro hc)|(refine oCv ?_;first|(refine oC 142 ?_; refine a1A (f := 142) rfl rfl rfl  (.val (.int .i64 (i4A (anA p)))) (by intro u1 w e hu1; (try obtain rfl : u1 = _ := hu1); exact uwA _ _ (anA p) (h.ext e) (deA p) hn) ?_))|(refine wNl hK ?_;clear hK K))|refine wG ?_|(refine wCR ?_;intro K hK)|fail)
  all_goals skip
  all_goals exact abA rfl rfl (Ext.refl _) rfl
theorem h6A {w : World} {v : Value} {p : Nat → Bool} {kk : Int} (h : Cn A w v p kk) : Fc Tryz.prog 51 #[v] w (Ret w (.val (.int .i64 (cnt p 65536)))) := by
  have hk : ∀ w', Ext w w' → _ := fun w' e => e7A (h.ext e)
  have hll := baA p 65536
  obtain ⟨hp, ⟨rfl, kd, va, hkd, rfl, ho⟩ | ⟨rfl, vw, rfl, ho⟩ | ⟨rfl, vr, rfl, ho⟩⟩ := h
  · skip
    refine Fc.of (args := [_]) Tryz.func51 rfl rfl Tryz.ntmps51 (Nat.le_of_ble_eq_true rfl) ?_
    repeat' (first|(refine oLA ?_;first|refine a0A rfl ?_|refine d1A ?_|refine bnA (c := .agg #[.nilFunc, .func (.func 95) #[] #[], .func (.func 96) #[] #[], .func (.func 97) #[] #[]]) rfl rfl rfl rfl (fun _ => by kernel_rfl) ?_|(refine cmA 1 (c := .func (.func 95) #[] #[]) rfl rfl (fun _ => rfl) rfl rfl rfl (by decide) (fun _ => by kernel_rfl) ?_)|refine wOp ?_|(refine wCm ?_ ?_<;>intro hc)|(refine oCv ?_;first|(refine oC 82 ?_; refine a1A (f := 82) rfl rfl rfl _ (by intro u1 w' e hu1; obtain rfl : u1 = _ := hu1; exact hk w' e) ?_)|(refine a1A (f := 95) rfl rfl rfl (.val (.int .i64 (cnt p 65536))) (by intro u1 w' e hu1; obtain rfl : u1 = _ := hu1;exact by rw [← hll]; exact siA (ho.ext e).slI) ?_))|(refine wNl hK ?_;clear hK K))|refine wG ?_|(refine wCR ?_;intro K hK)|fail)
    all_goals skip
    all_goals exact abA rfl rfl (Ext.refl _) rfl
  · skip
    refine Fc.of (args := [_]) Tryz.func51 rfl rfl Tryz.ntmps51 (Nat.le_of_ble_eq_true rfl) ?_
    repeat' (first|(refine oLA ?_;first|refine a0A rfl ?_|refine d1A ?_|refine bnA (c := .agg #[.nilFunc, .func (.func 95) #[] #[], .func (.func 96) #[] #[], .func (.func 97) #[] #[]]) rfl rfl rfl rfl (fun _ => by kernel_rfl) ?_|(refine cmA 2 (c := .func (.func 96) #[] #[]) rfl rfl (fun _ => rfl) rfl rfl rfl (by decide) (fun _ => by kernel_rfl) ?_)|refine wOp ?_|(refine wCm ?_ ?_<;>intro hc)|(refine oCv ?_;first|(refine oC 82 ?_; refine a1A (f := 82) rfl rfl rfl _ (by intro u1 w' e hu1; obtain rfl : u1 = _ := hu1; exact hk w' e) ?_)|(refine a1A (f := 96) rfl rfl rfl (.val (.int .i64 (cnt p 65536))) (by intro u1 w' e hu1; obtain rfl : u1 = _ := hu1;exact qoA (ho.ext e).slI) ?_))|(refine wNl hK ?_;clear hK K))|refine wG ?_|(refine wCR ?_;intro K hK)|fail)
    all_goals skip
    all_goals exact abA rfl rfl (Ext.refl _) rfl
  · skip
    refine Fc.of (args := [_]) Tryz.func51 rfl rfl Tryz.ntmps51 (Nat.le_of_ble_eq_true rfl) ?_
    repeat' (first|(refine oLA ?_;first|refine a0A rfl ?_|refine d1A ?_|refine bnA (c := .agg #[.nilFunc, .func (.func 95) #[] #[], .func (.func 96) #[] #[], .func (.func 97) #[] #[]]) rfl rfl rfl rfl (fun _ => by kernel_rfl) ?_|(refine cmA 3 (c := .func (.func 97) #[] #[]) rfl rfl (fun _ => rfl) rfl rfl rfl (by decide) (fun _ => by kernel_rfl) ?_)|refine wOp ?_|(refine wCm ?_ ?_<;>intro hc)|(refine oCv ?_;first|(refine oC 82 ?_; refine a1A (f := 82) rfl rfl rfl _ (by intro u1 w' e hu1; obtain rfl : u1 = _ := hu1; exact hk w' e) ?_)|(refine a1A (f := 97) rfl rfl rfl (.val (.int .i64 (cnt p 65536))) (by intro u1 w' e hu1; obtain rfl : u1 = _ := hu1;exact qzA (ho.ext e).slR) ?_))|(refine wNl hK ?_;clear hK K))|refine wG ?_|(refine wCR ?_;intro K hK)|fail)
    all_goals skip
    all_goals exact abA rfl rfl (Ext.refl _) rfl
theorem vtA (p : Nat → Bool) (x : Nat) (hx : x < 65536) : czA (adA p 65536) (x : Int) = p x := by
  rw [e9A _ (bdA p _)]; exact bxA p hx
theorem sjA {w : World} {va vw vr : Value} {kd : Int} {p : Nat → Bool} {x : Nat} (h : SlI .u16 w va (adA p 65536)) (hx : x < 65536) : Fc Tryz.prog 101 #[.agg #[.int .u8 kd, va, vw, vr], .int .u16 x] w (Ret w (.val (.bool (p x)))) := by
  have hf := vtA p x hx
  have hn : (adA p 65536).length ≤ 4611686018427387903 := by rw [baA]; have := cnt_le p 65536; omega
  refine Fc.of (args := [_, _]) Tryz.func101 rfl rfl Tryz.ntmps101 (Nat.le_of_ble_eq_true rfl) ?_
  repeat' (first|(refine oLA ?_;first|refine a0A rfl ?_|refine d1A ?_|refine wOp ?_|(refine wCm ?_ ?_<;>intro hc)|(refine oCv ?_;first|(refine oC 143 ?_; refine a3A (f := 143) rfl rfl rfl rfl  (.tup2 (.val (.int .i64 (bsS (adA p 65536) x))) (.val (.bool (p x)))) (by intro u1 u2 w e hu1 hu2; (try obtain rfl : u1 = _ := hu1); (try obtain rfl : u2 = _ := hu2); exact r7A rfl (by rw [hf]) (tzA _ _ (adA p 65536) x (h.ext e) hn)) ?_))|(refine wNl hK ?_;clear hK K))|refine wG ?_|(refine wCR ?_;intro K hK)|fail)
  all_goals skip
  all_goals exact abA rfl rfl (Ext.refl _) rfl
theorem qpA {w : World} {va vw vr : Value} {kd : Int} {p : Nat → Bool} {x : Nat} (h : SlI .u64 w vw (wordsOf p)) (hx : x < 65536) : Fc Tryz.prog 102 #[.agg #[.int .u8 kd, va, vw, vr], .int .u16 x] w (Ret w (.val (.bool (p x)))) := by
  refine Fc.of (args := [_, _]) Tryz.func102 rfl rfl Tryz.ntmps102 (Nat.le_of_ble_eq_true rfl) ?_
  repeat' (first|(refine oLA ?_;first|refine a0A rfl ?_|refine d1A ?_|refine wOp ?_|(refine wCm ?_ ?_<;>intro hc)|(refine oCv ?_;first|(refine oC 146 ?_; refine a3A (f := 146) rfl rfl rfl rfl  (.val (.bool (p x))) (by intro u1 u2 w e hu1 hu2; (try obtain rfl : u1 = _ := hu1); (try obtain rfl : u2 = _ := hu2); exact whasP _ _ p (h.ext e) x hx) ?_))|(refine wNl hK ?_;clear hK K))|refine wG ?_|(refine wCR ?_;intro K hK)|fail)
  all_goals skip
  all_goals exact abA rfl rfl (Ext.refl _) rfl
theorem r0A {w : World} {va vw vr : Value} {kd : Int} {p : Nat → Bool} {x : Nat} (h : SlR w vr (anA p)) (hx : x < 65536) : Fc Tryz.prog 103 #[.agg #[.int .u8 kd, va, vw, vr], .int .u16 x] w (Ret w (.val (.bool (p x)))) := by
  rw [← glA p hx]
  have hn : (anA p).length ≤ 70000 := by have := d5A p; omega
  refine Fc.of (args := [_, _]) Tryz.func103 rfl rfl Tryz.ntmps103 (Nat.le_of_ble_eq_true rfl) ?_
  repeat' (first|(refine oLA ?_;first|refine a0A rfl ?_|refine d1A ?_|refine wOp ?_|(refine wCm ?_ ?_<;>intro hc)|(refine oCv ?_;first|(refine oC 147 ?_; refine a3A (f := 147) rfl rfl rfl rfl  (.val (.bool (inR (anA p) x))) (by intro u1 u2 w e hu1 hu2; (try obtain rfl : u1 = _ := hu1); (try obtain rfl : u2 = _ := hu2); exact uxA _ _ (anA p) x (h.ext e) (deA p) (dlA p) hx hn) ?_))|(refine wNl hK ?_;clear hK K))|refine wG ?_|(refine wCR ?_;intro K hK)|fail)
  all_goals skip
  all_goals exact abA rfl rfl (Ext.refl _) rfl
theorem y1A {w : World} {v : Value} {p : Nat → Bool} {kk : Int} {x : Nat} (h : Cn A w v p kk) (hx : x < 65536) : Fc Tryz.prog 54 #[v, .int .u16 x] w (Ret w (.val (.bool (p x)))) := by
  have hk : ∀ w', Ext w w' → _ := fun w' e => e7A (h.ext e)
  obtain ⟨hp, ⟨rfl, kd, va, hkd, rfl, ho⟩ | ⟨rfl, vw, rfl, ho⟩ | ⟨rfl, vr, rfl, ho⟩⟩ := h
  · skip
    refine Fc.of (args := [_, _]) Tryz.func54 rfl rfl Tryz.ntmps54 (Nat.le_of_ble_eq_true rfl) ?_
    repeat' (first|(refine oLA ?_;first|refine a0A rfl ?_|refine d1A ?_|refine bnA (c := .agg #[.nilFunc, .func (.func 101) #[] #[], .func (.func 102) #[] #[], .func (.func 103) #[] #[]]) rfl rfl rfl rfl (fun _ => by kernel_rfl) ?_|(refine cmA 1 (c := .func (.func 101) #[] #[]) rfl rfl (fun _ => rfl) rfl rfl rfl (by decide) (fun _ => by kernel_rfl) ?_)|refine wOp ?_|(refine wCm ?_ ?_<;>intro hc)|(refine oCv ?_;first|(refine oC 82 ?_; refine a1A (f := 82) rfl rfl rfl _ (by intro u1 w' e hu1; obtain rfl : u1 = _ := hu1; exact hk w' e) ?_)|(refine a3A (f := 101) rfl rfl rfl rfl (.val (.bool (p x))) (by intro u1 u2 w' e hu1 hu2; obtain rfl : u1 = _ := hu1; obtain rfl : u2 = _ := hu2;exact sjA (ho.ext e).slI hx) ?_))|(refine wNl hK ?_;clear hK K))|refine wG ?_|(refine wCR ?_;intro K hK)|fail)
    all_goals skip
    all_goals exact abA rfl rfl (Ext.refl _) rfl
  · skip
    refine Fc.of (args := [_, _]) Tryz.func54 rfl rfl Tryz.ntmps54 (Nat.le_of_ble_eq_true rfl) ?_
    repeat' (first|(refine oLA ?_;first|refine a0A rfl ?_|refine d1A ?_|refine bnA (c := .agg #[.nilFunc, .func (.func 101) #[] #[], .func (.func 102) #[] #[], .func (.func 103) #[] #[]]) rfl rfl rfl rfl (fun _ => by kernel_rfl) ?_|(refine cmA 2 (c := .func (.func 102) #[] #[]) rfl rfl (fun _ => rfl) rfl rfl rfl (by decide) (fun _ => by kernel_rfl) ?_)|refine wOp ?_|(refine wCm ?_ ?_<;>intro hc)|(refine oCv ?_;first|(refine oC 82 ?_; refine a1A (f := 82) rfl rfl rfl _ (by intro u1 w' e hu1; obtain rfl : u1 = _ := hu1; exact hk w' e) ?_)|(refine a3A (f := 102) rfl rfl rfl rfl (.val (.bool (p x))) (by intro u1 u2 w' e hu1 hu2; obtain rfl : u1 = _ := hu1; obtain rfl : u2 = _ := hu2;exact qpA (ho.ext e).slI hx) ?_))|(refine wNl hK ?_;clear hK K))|refine wG ?_|(refine wCR ?_;intro K hK)|fail)
    all_goals skip
    all_goals exact abA rfl rfl (Ext.refl _) rfl
  · skip
    refine Fc.of (args := [_, _]) Tryz.func54 rfl rfl Tryz.ntmps54 (Nat.le_of_ble_eq_true rfl) ?_
    repeat' (first|(refine oLA ?_;first|refine a0A rfl ?_|refine d1A ?_|refine bnA (c := .agg #[.nilFunc, .func (.func 101) #[] #[], .func (.func 102) #[] #[], .func (.func 103) #[] #[]]) rfl rfl rfl rfl (fun _ => by kernel_rfl) ?_|(refine cmA 3 (c := .func (.func 103) #[] #[]) rfl rfl (fun _ => rfl) rfl rfl rfl (by decide) (fun _ => by kernel_rfl) ?_)|refine wOp ?_|(refine wCm ?_ ?_<;>intro hc)|(refine oCv ?_;first|(refine oC 82 ?_; refine a1A (f := 82) rfl rfl rfl _ (by intro u1 w' e hu1; obtain rfl : u1 = _ := hu1; exact hk w' e) ?_)|(refine a3A (f := 103) rfl rfl rfl rfl (.val (.bool (p x))) (by intro u1 u2 w' e hu1 hu2; obtain rfl : u1 = _ := hu1; obtain rfl : u2 = _ := hu2;exact r0A (ho.ext e).slR hx) ?_))|(refine wNl hK ?_;clear hK K))|refine wG ?_|(refine wCR ?_;intro K hK)|fail)
    all_goals skip
    all_goals exact abA rfl rfl (Ext.refl _) rfl
end Go.Proofs.YtfcioiobhpcngaaGreatDoor
end
section
set_option linter.unusedSimpArgs false
set_option linter.unusedVariables false
set_option maxRecDepth 3000
namespace Go.Proofs.YtfcioiobhpcngaaGreatDoor
open Go.LA Go.ArrP Go.RowKit
variable {A : Nat → Prop}
theorem SlI.nil16 {w : World} : SlI .u16 w (.slice none 0 0) [] := ⟨rfl, none, 0, rfl, Nat.le_refl _, Nat.zero_le _, fun _ => rfl, .inl rfl⟩
theorem rzA {rs : List Rn} (hr : Right rs) (hu : U16 rs) {k : Nat} (hk : k < rs.length) : wordsOf (k5A (inR (rs.take k)) (fst rs k) (fst rs k + mor rs k + 1)) = wordsOf (inR (rs.take (k + 1))) := biA fun i _ => by
  have h0 := (jwA hr hu k (by omega)).1 i
  have h1 := (hr k hk).1
  rw [flA hk, hbA, haA]
  unfold k5A
  by_cases h2 : fst rs k ≤ (i : Int)
  · rw [h0 (by omega), decide_eq_true h2]
    by_cases h3 : (i : Int) ≤ fst rs k + mor rs k
    · rw [decide_eq_true (by omega : (i : Int) < fst rs k + mor rs k + 1), decide_eq_true h3]; rfl
    · rw [decide_eq_false (by omega : ¬ (i : Int) < fst rs k + mor rs k + 1), decide_eq_false h3]; rfl
  · rw [decide_eq_false h2]
    cases inR (rs.take k) i <;> rfl
theorem foA (w : World) (v : Value) (xs : List Int) (h : SlI .u16 w v xs) (hb : xs.length ≤ 65536) : Fc Tryz.prog 55 #[v] w (Ret w (.pred (blA w.heap.size 72 .u16 xs))) :=
  pcA w v xs.length (xs.map (Value.int .u16)) h j3A (by omega)
theorem pdA (w : World) (v : Value) (xs : List Int) (h : SlI .u64 w v xs) (hb : xs.length ≤ 65536) : Fc Tryz.prog 69 #[v] w (Ret w (.pred (blA w.heap.size 22 .u64 xs))) :=
  paA w v xs.length (xs.map (Value.int .u64)) h j3A (by omega)
theorem sbA (w : World) (v : Value) (rs : List Rn) (h : SlR w v rs) (hb : rs.length ≤ 65536) : Fc Tryz.prog 73 #[v] w (Ret w (.pred (eeA w.heap.size 96 rs))) :=
  k7A w v rs.length (ckA rs) h (g2A rs) (by omega)
theorem j0A (p : Nat → Bool) : (adA p 65536).length ≤ 65536 := by rw [baA]; exact cnt_le p 65536
theorem pjA {w : World} {v : Value} {p : Nat → Bool} {kk : Int} (h : Cn A w v p kk) (hT : Tab w) : Fc Tryz.prog 64 #[v] w (Ret w (.pred (blA w.heap.size 72 .u16 (adA p 65536)))) := by
  have hl : dqA (anA p) = adA p 65536 := izA p 65536
  have hn : (anA p).length ≤ 70000 := by have := d5A p; omega
  obtain ⟨hp, ⟨rfl, kd, va, hkd, rfl, ho⟩ | ⟨rfl, vw, rfl, ho⟩ | ⟨rfl, vr, rfl, ho⟩⟩ := h
  · refine Fc.of (args := [_]) Tryz.func64 rfl rfl Tryz.ntmps64 (Nat.le_of_ble_eq_true rfl) ?_
    repeat' (first|(refine oLA ?_;first|refine a0A rfl ?_|refine d1A ?_|refine wOp ?_|(refine wCm ?_ ?_<;>intro hc)|(refine oCv ?_;first|(refine oC 55 ?_; refine a1A (f := 55) rfl rfl rfl  (.pred (blA _ 72 .u16 (adA p 65536))) (by intro u1 w e hu1; (try obtain rfl : u1 = _ := hu1); exact (foA _ _ _ (ho.ext e).slI (j0A p)).mono (aaA e.size)) ?_))|(refine wNl hK ?_;clear hK K))|refine wG ?_|(refine wCR ?_;intro K hK)|fail)
    all_goals skip
    all_goals exact aoA rfl rfl (Ext.refl _) (fun _ _ _ hv => hv)
  · refine Fc.of (args := [_]) Tryz.func64 rfl rfl Tryz.ntmps64 (Nat.le_of_ble_eq_true rfl) ?_
    repeat' (first|(refine oLA ?_;first|refine a0A rfl ?_|refine d1A ?_|refine wOp ?_|(refine wCm ?_ ?_<;>intro hc)|(refine oCv ?_;first|(refine oC 114 ?_; refine a1A (f := 114) rfl rfl rfl  (.pred (blA _ 72 .u16 (adA p 65536))) (by intro u1 w e hu1; (try obtain rfl : u1 = _ := hu1); exact (x1A _ _ p (ho.ext e).slI (hT.ext e)).mono (aaA e.size)) ?_))|(refine wNl hK ?_;clear hK K))|refine wG ?_|(refine wCR ?_;intro K hK)|fail)
    all_goals skip
    all_goals exact aoA rfl rfl (Ext.refl _) (fun _ _ _ hv => hv)
  · refine Fc.of (args := [_]) Tryz.func64 rfl rfl Tryz.ntmps64 (Nat.le_of_ble_eq_true rfl) ?_
    repeat' (first|(refine oLA ?_;first|refine a0A rfl ?_|refine d1A ?_|refine wOp ?_|(refine wCm ?_ ?_<;>intro hc)|(refine oCv ?_;first|(refine oC 115 ?_; refine a1A (f := 115) rfl rfl rfl  (.pred (blA _ 72 .u16 (adA p 65536))) (by intro u1 w e hu1; (try obtain rfl : u1 = _ := hu1); exact by rw [← hl]; exact (r5A _ _ _ (ho.ext e).slR (deA p) (dlA p) hn).mono (aaA e.size)) ?_))|(refine wNl hK ?_;clear hK K))|refine wG ?_|(refine wCR ?_;intro K hK)|fail)
    all_goals skip
    all_goals exact aoA rfl rfl (Ext.refl _) (fun _ _ _ hv => hv)
theorem xuA {w : World} {v : Value} {p : Nat → Bool} {kk : Int} (h : Cn A w v p kk) : Fc Tryz.prog 126 #[v] w (Ret w (.val (.int .i64 (cnt (boA p) 65536)))) := by
  have hm : (anA p).length = cnt (boA p) 65536 := gjA p 65536
  have hr := kmA p
  obtain ⟨hp, ⟨rfl, kd, va, hkd, rfl, ho⟩ | ⟨rfl, vw, rfl, ho⟩ | ⟨rfl, vr, rfl, ho⟩⟩ := h
  · refine Fc.of (args := [_]) Tryz.func126 rfl rfl Tryz.ntmps126 (Nat.le_of_ble_eq_true rfl) ?_
    repeat' (first|(refine oLA ?_;first|refine a0A rfl ?_|refine d1A ?_|refine wOp ?_|(refine wCm ?_ ?_<;>intro hc)|(refine oCv ?_;first|(refine oC 176 ?_; refine a1A (f := 176) rfl rfl rfl  (.val (.int .i64 (cnt (boA p) 65536))) (by intro u1 w e hu1; (try obtain rfl : u1 = _ := hu1); exact alA (by rw [hr]) (xaA _ _ _ (ho.ext e).slI)) ?_))|(refine wNl hK ?_;clear hK K))|refine wG ?_|(refine wCR ?_;intro K hK)|fail)
    all_goals skip
    all_goals exact abA rfl rfl (Ext.refl _) rfl
  · refine Fc.of (args := [_]) Tryz.func126 rfl rfl Tryz.ntmps126 (Nat.le_of_ble_eq_true rfl) ?_
    repeat' (first|(refine oLA ?_;first|refine a0A rfl ?_|refine d1A ?_|refine wOp ?_|(refine wCm ?_ ?_<;>intro hc)|(refine oCv ?_;first|(refine oC 175 ?_; refine a1A (f := 175) rfl rfl rfl  (.val (.int .i64 (cnt (boA p) 65536))) (by intro u1 w e hu1; (try obtain rfl : u1 = _ := hu1); exact wwA _ _ p (ho.ext e).slI) ?_))|(refine wNl hK ?_;clear hK K))|refine wG ?_|(refine wCR ?_;intro K hK)|fail)
    all_goals skip
    all_goals exact abA rfl rfl (Ext.refl _) rfl
  · have hs := ho.slR
    rw [← hm]
    refine Fc.of (args := [_]) Tryz.func126 rfl rfl Tryz.ntmps126 (Nat.le_of_ble_eq_true rfl) ?_
    repeat' (first|(refine oLA ?_;first|refine a0A rfl ?_|refine d1A ?_|(refine cxA ?_; refine bjA rfl _ rfl rfl (HasR.val hs) ?_)|refine wOp ?_|(refine wCm ?_ ?_<;>intro hc)|(refine wNl hK ?_;clear hK K))|refine wG ?_|(refine wCR ?_;intro K hK)|fail)
    all_goals skip
    all_goals exact abA rfl rfl (Ext.refl _) rfl
theorem l5A {w : World} {v : Value} {p : Nat → Bool} {kk : Int} (h : Cn A w v p kk) (hT : Tab w) : Fc Tryz.prog 36 #[v] w (Ret w (.pred (eeA w.heap.size 96 (anA p)))) := by
  have hm' := d5A p
  have hmm : anA (bqA (adA p 65536)) = anA p := edA fun i hi => bxA p hi
  have ha : ∀ w', Ext w w' → _ := fun w' e => pjA (h.ext e) (hT.ext e)
  obtain ⟨hp, ⟨rfl, kd, va, hkd, rfl, ho⟩ | ⟨rfl, vw, rfl, ho⟩ | ⟨rfl, vr, rfl, ho⟩⟩ := h
  · refine Fc.of (args := [_]) Tryz.func36 rfl rfl Tryz.ntmps36 (Nat.le_of_ble_eq_true rfl) ?_
    repeat' (first|(refine oLA ?_;first|refine a0A rfl ?_|refine d1A ?_|refine wOp ?_|(refine wCm ?_ ?_<;>intro hc)|(refine oCv ?_;first|(refine oC 64 ?_; refine a1A (f := 64) rfl rfl rfl  (.pred (blA _ 72 .u16 (adA p 65536))) (by intro u1 w e hu1; (try obtain rfl : u1 = _ := hu1); exact (ha _ e).mono (aaA e.size)) ?_)|(refine oC 74 ?_; refine a1A (f := 74) rfl rfl rfl  (.pred (eeA _ 96 (anA p))) (by intro u1 w e hu1; (try obtain rfl : u1 = _ := hu1); exact (tmA _ _ _ (OwnI.slI hu1) (bdA p _) (cdA p)).mono (ayA e.size hmm)) ?_))|(refine wNl hK ?_;clear hK K))|refine wG ?_|(refine wCR ?_;intro K hK)|fail)
    all_goals skip
    all_goals exact aoA rfl rfl (Ext.refl _) (fun _ _ _ hv => hv)
  · refine Fc.of (args := [_]) Tryz.func36 rfl rfl Tryz.ntmps36 (Nat.le_of_ble_eq_true rfl) ?_
    repeat' (first|(refine oLA ?_;first|refine a0A rfl ?_|refine d1A ?_|refine wOp ?_|(refine wCm ?_ ?_<;>intro hc)|(refine oCv ?_;first|(refine oC 64 ?_; refine a1A (f := 64) rfl rfl rfl  (.pred (blA _ 72 .u16 (adA p 65536))) (by intro u1 w e hu1; (try obtain rfl : u1 = _ := hu1); exact (ha _ e).mono (aaA e.size)) ?_)|(refine oC 74 ?_; refine a1A (f := 74) rfl rfl rfl  (.pred (eeA _ 96 (anA p))) (by intro u1 w e hu1; (try obtain rfl : u1 = _ := hu1); exact (tmA _ _ _ (OwnI.slI hu1) (bdA p _) (cdA p)).mono (ayA e.size hmm)) ?_))|(refine wNl hK ?_;clear hK K))|refine wG ?_|(refine wCR ?_;intro K hK)|fail)
    all_goals skip
    all_goals exact aoA rfl rfl (Ext.refl _) (fun _ _ _ hv => hv)
  · refine Fc.of (args := [_]) Tryz.func36 rfl rfl Tryz.ntmps36 (Nat.le_of_ble_eq_true rfl) ?_
    repeat' (first|(refine oLA ?_;first|refine a0A rfl ?_|refine d1A ?_|refine wOp ?_|(refine wCm ?_ ?_<;>intro hc)|(refine oCv ?_;first|(refine oC 73 ?_; refine a1A (f := 73) rfl rfl rfl  (.pred (eeA _ 96 (anA p))) (by intro u1 w e hu1; (try obtain rfl : u1 = _ := hu1); exact (sbA _ _ _ (ho.ext e).slR hm').mono (ayA e.size rfl)) ?_))|(refine wNl hK ?_;clear hK K))|refine wG ?_|(refine wCR ?_;intro K hK)|fail)
    all_goals skip
    all_goals exact aoA rfl rfl (Ext.refl _) (fun _ _ _ hv => hv)
end Go.Proofs.YtfcioiobhpcngaaGreatDoor
end
section
set_option linter.unusedSimpArgs false
set_option linter.unusedVariables false
set_option maxRecDepth 3000
namespace Go.Proofs.YtfcioiobhpcngaaGreatDoor
open Go.LA Go.ArrP Go.RowKit
variable {A : Nat → Prop}
set_option maxHeartbeats 2000000 in
theorem jaA {w : World} {v : Value} {p : Nat → Bool} {kk : Int} (h : Cn A w v p kk) : Fc Tryz.prog 34 #[v] w (Ret w (.pred (blA w.heap.size 22 .u64 (wordsOf p)))) := by
  have hm' := d5A p
  have hwl := bfA p
  obtain ⟨hp, ⟨rfl, kd, va, hkd, rfl, ho⟩ | ⟨rfl, vw, rfl, ho⟩ | ⟨rfl, vr, rfl, ho⟩⟩ := h
  · have hww : wordsOf (bqA (adA p 65536)) = wordsOf p := biA fun i hi => bxA p hi
    refine Fc.of (args := [_]) Tryz.func34 rfl rfl Tryz.ntmps34 (Nat.le_of_ble_eq_true rfl) ?_
    repeat' (first|(refine oLA ?_;first|refine a0A rfl ?_|refine d1A ?_|refine wOp ?_|(refine wCm ?_ ?_<;>intro hc)|(refine oCv ?_;first|(refine oC 70 ?_; refine a1A (f := 70) rfl rfl rfl  (.pred (blA _ 22 .u64 (wordsOf p))) (by intro u1 w e hu1; (try obtain rfl : u1 = _ := hu1); exact (wzA _ _ _ (ho.ext e).slI (cdA p)).mono (n0A e.size hww)) ?_))|(refine wNl hK ?_;clear hK K))|refine wG ?_|(refine wCR ?_;intro K hK)|fail)
    all_goals skip
    all_goals exact aoA rfl rfl (Ext.refl _) (fun _ _ _ hv => hv)
  · refine Fc.of (args := [_]) Tryz.func34 rfl rfl Tryz.ntmps34 (Nat.le_of_ble_eq_true rfl) ?_
    repeat' (first|(refine oLA ?_;first|refine a0A rfl ?_|refine d1A ?_|refine wOp ?_|(refine wCm ?_ ?_<;>intro hc)|(refine oCv ?_;first|(refine oC 69 ?_; refine a1A (f := 69) rfl rfl rfl  (.pred (blA _ 22 .u64 (wordsOf p))) (by intro u1 w e hu1; (try obtain rfl : u1 = _ := hu1); exact (pdA _ _ _ (ho.ext e).slI (by omega)).mono (aaA e.size)) ?_))|(refine wNl hK ?_;clear hK K))|refine wG ?_|(refine wCR ?_;intro K hK)|fail)
    all_goals skip
    all_goals exact aoA rfl rfl (Ext.refl _) (fun _ _ _ hv => hv)
  · have hww : wordsOf (inR (anA p)) = wordsOf p := biA fun i hi => glA p hi
    rw [← hww]
    have h := ho.slR
    have hu := deA p
    have hr := dlA p
    obtain ⟨rs, hrs⟩ : ∃ rs, rs = anA p := ⟨_, rfl⟩
    rw [← hrs] at h hu hr hm' ⊢
    have hlen := h.len
    refine Fc.of (args := [_]) Tryz.func34 rfl rfl Tryz.ntmps34 (Nat.le_of_ble_eq_true rfl) ?_
    repeat' (first|(refine oLA ?_;first|refine a0A rfl ?_|refine d1A ?_|(refine oI ?_; refine axA rfl _ rfl (fun _ => rfl) rfl (by first | exact HasR.val (by assumption) | exact HasR.own | exact HasR.ownV (by assumption)) rfl (by omega) ?_)|(refine oLt 96 ?_; refine apA rfl (fun _ => rfl) (fun _ => rfl) rfl ?_)|(show LA _ _ _ _ (⟨some 99, .alloc _, _, _, _, _⟩ :: _) _; refine a4A (hK _ _ (bwA rfl rfl (by decide) (fun _ => rfl) (fun _ => rfl) (fun _ => rfl) rfl (by intro u hu; simp [Value.cells] at hu; rcases hu with rfl | rfl <;> rfl) (fun bx wx ex hbx hbc => ?_))); clear hK K; refine amA (by kernel_rfl) (fun K hK => ?_))|(refine oF 0 ?_; refine a2A (a := ⟨bx, 0, none⟩) (a' := ⟨bx, 0, none⟩) rfl rfl (fun _ => rfl) ?_)|(refine oF 1 ?_; refine a2A (a := ⟨bx, 0, none⟩) (a' := ⟨bx, 1, none⟩) rfl rfl (fun _ => rfl) ?_)|(refine oLt 96 ?_; refine b0A rfl (fun _ => rfl) (fun _ => rfl) rfl hbc ?_)|(refine oLt 72 ?_; refine a8A rfl (fun _ => rfl) rfl hbc rfl ?_)|(refine cxA ?_; refine bjA rfl _ rfl rfl (by first | exact HasR.val (by assumption) | exact HasR.own | exact HasR.ownV (by assumption)) ?_)|refine wOp ?_|(refine wCm ?_ ?_<;>intro hc)|(refine oCv ?_;first|(refine oC 70 ?_; refine a1A (f := 70) rfl rfl rfl  (.pred (blA w.heap.size 22 .u64 (wordsOf (inR [])))) (by intro u1 w e hu1; (try obtain rfl : u1 = _ := hu1); exact (wzA _ _ [] SlI.nil16 (fun x hx => by cases hx)).mono (n0A e.size (biA fun i _ => by simp [bqA, inR]))) ?_))|(refine wNl hK ?_;clear hK K))|refine wG ?_|(refine wCR ?_;intro K hK)|fail)
    refine g9A 3 rfl (fun v3 w3 e3 h3 => ?_)
    have h3 : OwnI w.heap.size 22 .u64 w3 v3 (wordsOf (inR [])) := h3
    refine agA (ι := Nat × Value) (fun i => [(3, .val i.2), (17, .val vr), (18, .val (.int .i64 rs.length)), (19, .val (.int .i64 i.1))]) (fun i w' => Ext w w' ∧ i.1 ≤ rs.length ∧ OwnI w.heap.size 22 .u64 w' i.2 (wordsOf (inR (rs.take i.1)))) (fun i => rs.length - i.1)
      (fun w2 e2 => ⟨(0, v3), ⟨e3.trans e2, Nat.zero_le _, by dsimp only; rw [List.take_zero]; exact h3.ext e2⟩, (by repeat' (first | exact Sub.nil | refine Sub.val rfl (by first | with_reducible rfl | (congr 1; omega)) ?_ | refine Sub.same rfl ?_))⟩) ?_
    rintro ⟨k, so⟩ w1 ⟨he, hk, ho⟩
    dsimp only at hk ho ⊢
    have h1 := h.ext he
    by_cases hkl : k < rs.length
    · obtain ⟨u1, u2, u3, u4⟩ := hu.at k
      obtain ⟨-, hr2⟩ := hr k hkl
      have hfr := rzA hr hu hkl
      repeat' (first|(refine oLA ?_;first|refine a0A rfl ?_|(refine oI ?_; refine axA rfl _ rfl (fun _ => rfl) rfl (by first | exact HasR.val (by assumption) | exact HasR.own | exact HasR.ownV (by assumption)) rfl (by omega) ?_)|(refine oLt 96 ?_; refine apA rfl (fun _ => rfl) (fun _ => rfl) rfl ?_)|(show LA _ _ _ _ (⟨some 5, .alloc _, _, _, _, _⟩ :: _) _; refine a4A (hK _ _ (bwA rfl rfl (by decide) (fun _ => rfl) (fun _ => rfl) (fun _ => rfl) rfl (by intro u hu; simp [Value.cells] at hu; rcases hu with rfl | rfl <;> rfl) (fun bx wx ex hbx hbc => ?_))); clear hK K; refine amA (by kernel_rfl) (fun K hK => ?_))|(refine oF 0 ?_; refine a2A (a := ⟨bx, 0, none⟩) (a' := ⟨bx, 0, none⟩) rfl rfl (fun _ => rfl) ?_)|(refine oF 1 ?_; refine a2A (a := ⟨bx, 0, none⟩) (a' := ⟨bx, 1, none⟩) rfl rfl (fun _ => rfl) ?_)|(refine oLt 96 ?_; refine b0A rfl (fun _ => rfl) (fun _ => rfl) rfl hbc ?_)|(refine oLt 72 ?_; refine a8A rfl (fun _ => rfl) rfl hbc rfl ?_)|(refine cxA ?_; refine bjA rfl _ rfl rfl (by first | exact HasR.val (by assumption) | exact HasR.own | exact HasR.ownV (by assumption)) ?_)|refine wOp ?_|(refine wCm ?_ ?_<;>intro hc)|(refine oCv ?_;first|(refine oC 71 ?_; refine b4A (f := 71) rfl rfl rfl rfl rfl  (.pred (blA w.heap.size 22 .u64 (wordsOf (inR (rs.take (k + 1)))))) (by intro u1 u2 u3 w e hu1 hu2 hu3; (try obtain rfl : u1 = _ := hu1); (try obtain rfl : u2 = _ := hu2); (try obtain rfl : u3 = _ := hu3); exact (lgA _ _ (inR (rs.take k)) (OwnI.slI (ho.ext (ex.trans e))) _ _ (by omega) (by omega)).mono (n0A (Nat.le_trans he.size (Nat.le_trans ex.size e.size)) hfr)) ?_))|(refine wNl hK ?_;clear hK K))|refine wG ?_|(refine wCR ?_;intro K hK)|fail)
      refine weA 3 rfl (fun v4 w4 e4 h4 => ?_)
      have h4 : OwnI w.heap.size 22 .u64 w4 v4 (wordsOf (inR (rs.take (k + 1)))) := h4
      exact a7A (k + 1, v4) (fun w5 e5 => ⟨he.trans (ex.trans (e4.trans e5)), hkl, h4.ext e5⟩) (by dsimp only; omega) (by repeat' (first | exact Sub.nil | refine Sub.val rfl (by first | with_reducible rfl | (congr 1; omega)) ?_ | refine Sub.same rfl ?_))
    · obtain rfl : k = rs.length := by omega
      rw [List.take_length] at ho
      repeat' (first|(refine oLA ?_;first|refine a0A rfl ?_|refine wOp ?_|(refine wCm ?_ ?_<;>intro hc)|(refine wNl hK ?_;clear hK K))|refine wG ?_|(refine wCR ?_;intro K hK)|fail)
      exact aoA rfl rfl he (fun u w5 e5 hu' => by obtain rfl : u = _ := hu'; exact ho.ext e5)
theorem b1A {p : Nat → Bool} {kk : Int} : Lays (cnP A p kk) 4 65 :=
  ⟨fun v w h => by
    obtain ⟨kd, va, vw, vr, rfl, -, -, -, -, -, -, h1⟩ := Cn.parts h
    exact ⟨_, rfl, rfl, h1⟩, fun v w b cur j cs h hb => Cn.setRow h hb ⟨by decide, by decide, by decide⟩ cs⟩
theorem n4A (p : Nat → Bool) : ∃ n r : Nat, ∃ kq : Int, cnt p 65536 = n ∧ cnt (boA p) 65536 = r ∧ aqA p = kq ∧ n ≤ 65536 ∧ r ≤ 65536 ∧
    ((n ≤ 4096 ∧ 2 + 4 * (r : Int) < 2 * n ∧ kq = 3) ∨ (n ≤ 4096 ∧ ¬ 2 + 4 * (r : Int) < 2 * n ∧ kq = 1) ∨ (¬ n ≤ 4096 ∧ 2 + 4 * (r : Int) < 8192 ∧ kq = 3) ∨ (¬ n ≤ 4096 ∧ ¬ 2 + 4 * (r : Int) < 8192 ∧ kq = 2)) := by
  refine ⟨_, _, _, rfl, rfl, rfl, cnt_le _ _, cnt_le _ _, ?_⟩
  unfold aqA tvA
  generalize cnt p 65536 = n
  generalize cnt (boA p) 65536 = r
  by_cases h1 : n ≤ 4096
  · by_cases h2 : 2 + 4 * (r : Int) < 2 * n
    · exact .inl ⟨h1, h2, by simp [h1, h2]⟩
    · exact .inr (.inl ⟨h1, h2, by simp [h1, h2]⟩)
  · by_cases h2 : 2 + 4 * (r : Int) < 8192
    · exact .inr (.inr (.inl ⟨h1, h2, by simp [h1, h2]⟩))
    · exact .inr (.inr (.inr ⟨h1, h2, by simp [h1, h2]⟩))
set_option maxHeartbeats 4000000 in
theorem d7A {w : World} {v : Value} {p : Nat → Bool} {kk : Int} (h : Cn A w v p kk) (hT : Tab w) (hA : Fsh A w) : Fc Tryz.prog 75 #[v] w (Ret w (.pred (cnP A p (aqA p)))) := by
  obtain ⟨n, r, kq, en, er, eq, h1, h2, hK⟩ := n4A p
  have hp := h.1
  have hk : ∀ w', Ext w w' → _ := fun w' e => e7A (h.ext e)
  have hl : ∀ w', Ext w w' → _ := fun w' e => h6A (h.ext e)
  have hm : ∀ w', Ext w w' → _ := fun w' e => xuA (h.ext e)
  have hru : ∀ w', Ext w w' → _ := fun w' e => l5A (h.ext e) (hT.ext e)
  have ha : ∀ w', Ext w w' → _ := fun w' e => pjA (h.ext e) (hT.ext e)
  have hw : ∀ w', Ext w w' → _ := fun w' e => jaA (h.ext e)
  have hs : ∀ w', Ext w w' → Cn A w' v p kk := fun w' e => h.ext e
  obtain ⟨kd, va, vw, vr, rfl, -, -, -, -, k1, k2, -⟩ := h.parts
  rw [en] at hl; rw [er] at hm; rw [eq]
  clear h en er eq
  rcases hK with ⟨a1, a2, rfl⟩ | ⟨a1, a2, rfl⟩ | ⟨a1, a2, rfl⟩ | ⟨a1, a2, rfl⟩
  · skip
    by_cases hkk : kk = 3
    all_goals
      refine Fc.of (args := [_]) Tryz.func75 rfl rfl Tryz.ntmps75 (Nat.le_of_ble_eq_true rfl) ?_
      repeat' (first|(refine oLA ?_;first|refine a0A rfl ?_|refine d1A ?_|refine bcA rfl (fun _ => rfl) ?_|(refine acA (j1 := 3) (c := fun u => .agg #[.int .u8 3, .slice none 0 0, .slice none 0 0, u]) rfl rfl rfl (fun v1 w1 hv1 => by obtain ⟨a', c', rfl⟩ := (OwnR.slR hv1).isSlice; kernel_rfl) ?_)|(refine acA (j1 := 1) (c := fun u => .agg #[.int .u8 1, u, .slice none 0 0, .slice none 0 0]) rfl rfl rfl (fun v1 w1 hv1 => by obtain ⟨a', c', rfl⟩ := (OwnI.slI hv1).isSlice; kernel_rfl) ?_)|(refine acA (j1 := 2) (c := fun u => .agg #[.int .u8 2, .slice none 0 0, u, .slice none 0 0]) rfl rfl rfl (fun v1 w1 hv1 => by obtain ⟨a', c', rfl⟩ := (OwnI.slI hv1).isSlice; kernel_rfl) ?_)|(refine a4A (hK _ _ (btA (φ := cnP A p 3) (w0 := w) rfl rfl rfl b1A (fun v' w' e hv => ?_) rfl (fun _ => rfl) (Ext.refl _) (fun w' e' => ?_))); clear hK K)|refine wOp ?_|(refine wCm ?_ ?_<;>intro hc)|(refine oCv ?_;first|(refine oC 51 ?_; refine a1A (f := 51) rfl rfl rfl  (.val (.int .i64 n)) (by intro u1 w e hu1; (try obtain rfl : u1 = _ := hu1); exact hl _ e) ?_)|(refine oC 126 ?_; refine a1A (f := 126) rfl rfl rfl  (.val (.int .i64 r)) (by intro u1 w e hu1; (try obtain rfl : u1 = _ := hu1); exact hm _ e) ?_)|(refine oC 82 ?_; refine a1A (f := 82) rfl rfl rfl  (.val (.int .u8 kk)) (by intro u1 w e hu1; (try obtain rfl : u1 = _ := hu1); exact hk _ e) ?_)|(refine oC 36 ?_; refine a1A (f := 36) rfl rfl rfl  (.pred (eeA _ 96 (anA p))) (by intro u1 w e hu1; (try obtain rfl : u1 = _ := hu1); exact (hru _ e).mono (ayA e.size rfl)) ?_)|(refine oC 64 ?_; refine a1A (f := 64) rfl rfl rfl  (.pred (blA _ 72 .u16 (adA p 65536))) (by intro u1 w e hu1; (try obtain rfl : u1 = _ := hu1); exact (ha _ e).mono (aaA e.size)) ?_)|(refine oC 34 ?_; refine a1A (f := 34) rfl rfl rfl  (.pred (blA _ 22 .u64 (wordsOf p))) (by intro u1 w e hu1; (try obtain rfl : u1 = _ := hu1); exact (hw _ e).mono (aaA e.size)) ?_))|(refine wNl hK ?_;clear hK K))|refine wG ?_|(refine wCR ?_;intro K hK)|(refine oPX ?_;first|exact buA rfl rfl rfl rfl rfl (by assumption))|fail)
      all_goals skip
      all_goals first
        | (obtain rfl : v' = _ := hv; exact hkk ▸ hs _ e)
        | (obtain ⟨u, rfl, hu⟩ := hv; exact Cn.rns hp rfl hu hA)
  · skip
    by_cases hkk : kk = 1
    all_goals
      refine Fc.of (args := [_]) Tryz.func75 rfl rfl Tryz.ntmps75 (Nat.le_of_ble_eq_true rfl) ?_
      repeat' (first|(refine oLA ?_;first|refine a0A rfl ?_|refine d1A ?_|refine bcA rfl (fun _ => rfl) ?_|(refine acA (j1 := 3) (c := fun u => .agg #[.int .u8 3, .slice none 0 0, .slice none 0 0, u]) rfl rfl rfl (fun v1 w1 hv1 => by obtain ⟨a', c', rfl⟩ := (OwnR.slR hv1).isSlice; kernel_rfl) ?_)|(refine acA (j1 := 1) (c := fun u => .agg #[.int .u8 1, u, .slice none 0 0, .slice none 0 0]) rfl rfl rfl (fun v1 w1 hv1 => by obtain ⟨a', c', rfl⟩ := (OwnI.slI hv1).isSlice; kernel_rfl) ?_)|(refine acA (j1 := 2) (c := fun u => .agg #[.int .u8 2, .slice none 0 0, u, .slice none 0 0]) rfl rfl rfl (fun v1 w1 hv1 => by obtain ⟨a', c', rfl⟩ := (OwnI.slI hv1).isSlice; kernel_rfl) ?_)|(refine a4A (hK _ _ (btA (φ := cnP A p 1) (w0 := w) rfl rfl rfl b1A (fun v' w' e hv => ?_) rfl (fun _ => rfl) (Ext.refl _) (fun w' e' => ?_))); clear hK K)|refine wOp ?_|(refine wCm ?_ ?_<;>intro hc)|(refine oCv ?_;first|(refine oC 51 ?_; refine a1A (f := 51) rfl rfl rfl  (.val (.int .i64 n)) (by intro u1 w e hu1; (try obtain rfl : u1 = _ := hu1); exact hl _ e) ?_)|(refine oC 126 ?_; refine a1A (f := 126) rfl rfl rfl  (.val (.int .i64 r)) (by intro u1 w e hu1; (try obtain rfl : u1 = _ := hu1); exact hm _ e) ?_)|(refine oC 82 ?_; refine a1A (f := 82) rfl rfl rfl  (.val (.int .u8 kk)) (by intro u1 w e hu1; (try obtain rfl : u1 = _ := hu1); exact hk _ e) ?_)|(refine oC 36 ?_; refine a1A (f := 36) rfl rfl rfl  (.pred (eeA _ 96 (anA p))) (by intro u1 w e hu1; (try obtain rfl : u1 = _ := hu1); exact (hru _ e).mono (ayA e.size rfl)) ?_)|(refine oC 64 ?_; refine a1A (f := 64) rfl rfl rfl  (.pred (blA _ 72 .u16 (adA p 65536))) (by intro u1 w e hu1; (try obtain rfl : u1 = _ := hu1); exact (ha _ e).mono (aaA e.size)) ?_)|(refine oC 34 ?_; refine a1A (f := 34) rfl rfl rfl  (.pred (blA _ 22 .u64 (wordsOf p))) (by intro u1 w e hu1; (try obtain rfl : u1 = _ := hu1); exact (hw _ e).mono (aaA e.size)) ?_))|(refine wNl hK ?_;clear hK K))|refine wG ?_|(refine wCR ?_;intro K hK)|(refine oPX ?_;first|exact buA rfl rfl rfl rfl rfl (by assumption))|fail)
      all_goals skip
      all_goals first
        | (obtain rfl : v' = _ := hv; exact hkk ▸ hs _ e)
        | (obtain ⟨u, rfl, hu⟩ := hv; exact Cn.arr hp rfl hu hA)
  · skip
    by_cases hkk : kk = 3
    all_goals
      refine Fc.of (args := [_]) Tryz.func75 rfl rfl Tryz.ntmps75 (Nat.le_of_ble_eq_true rfl) ?_
      repeat' (first|(refine oLA ?_;first|refine a0A rfl ?_|refine d1A ?_|refine bcA rfl (fun _ => rfl) ?_|(refine acA (j1 := 3) (c := fun u => .agg #[.int .u8 3, .slice none 0 0, .slice none 0 0, u]) rfl rfl rfl (fun v1 w1 hv1 => by obtain ⟨a', c', rfl⟩ := (OwnR.slR hv1).isSlice; kernel_rfl) ?_)|(refine acA (j1 := 1) (c := fun u => .agg #[.int .u8 1, u, .slice none 0 0, .slice none 0 0]) rfl rfl rfl (fun v1 w1 hv1 => by obtain ⟨a', c', rfl⟩ := (OwnI.slI hv1).isSlice; kernel_rfl) ?_)|(refine acA (j1 := 2) (c := fun u => .agg #[.int .u8 2, .slice none 0 0, u, .slice none 0 0]) rfl rfl rfl (fun v1 w1 hv1 => by obtain ⟨a', c', rfl⟩ := (OwnI.slI hv1).isSlice; kernel_rfl) ?_)|(refine a4A (hK _ _ (btA (φ := cnP A p 3) (w0 := w) rfl rfl rfl b1A (fun v' w' e hv => ?_) rfl (fun _ => rfl) (Ext.refl _) (fun w' e' => ?_))); clear hK K)|refine wOp ?_|(refine wCm ?_ ?_<;>intro hc)|(refine oCv ?_;first|(refine oC 51 ?_; refine a1A (f := 51) rfl rfl rfl  (.val (.int .i64 n)) (by intro u1 w e hu1; (try obtain rfl : u1 = _ := hu1); exact hl _ e) ?_)|(refine oC 126 ?_; refine a1A (f := 126) rfl rfl rfl  (.val (.int .i64 r)) (by intro u1 w e hu1; (try obtain rfl : u1 = _ := hu1); exact hm _ e) ?_)|(refine oC 82 ?_; refine a1A (f := 82) rfl rfl rfl  (.val (.int .u8 kk)) (by intro u1 w e hu1; (try obtain rfl : u1 = _ := hu1); exact hk _ e) ?_)|(refine oC 36 ?_; refine a1A (f := 36) rfl rfl rfl  (.pred (eeA _ 96 (anA p))) (by intro u1 w e hu1; (try obtain rfl : u1 = _ := hu1); exact (hru _ e).mono (ayA e.size rfl)) ?_)|(refine oC 64 ?_; refine a1A (f := 64) rfl rfl rfl  (.pred (blA _ 72 .u16 (adA p 65536))) (by intro u1 w e hu1; (try obtain rfl : u1 = _ := hu1); exact (ha _ e).mono (aaA e.size)) ?_)|(refine oC 34 ?_; refine a1A (f := 34) rfl rfl rfl  (.pred (blA _ 22 .u64 (wordsOf p))) (by intro u1 w e hu1; (try obtain rfl : u1 = _ := hu1); exact (hw _ e).mono (aaA e.size)) ?_))|(refine wNl hK ?_;clear hK K))|refine wG ?_|(refine wCR ?_;intro K hK)|(refine oPX ?_;first|exact buA rfl rfl rfl rfl rfl (by assumption))|fail)
      all_goals skip
      all_goals first
        | (obtain rfl : v' = _ := hv; exact hkk ▸ hs _ e)
        | (obtain ⟨u, rfl, hu⟩ := hv; exact Cn.rns hp rfl hu hA)
  · skip
    by_cases hkk : kk = 2
    all_goals
      refine Fc.of (args := [_]) Tryz.func75 rfl rfl Tryz.ntmps75 (Nat.le_of_ble_eq_true rfl) ?_
      repeat' (first|(refine oLA ?_;first|refine a0A rfl ?_|refine d1A ?_|refine bcA rfl (fun _ => rfl) ?_|(refine acA (j1 := 3) (c := fun u => .agg #[.int .u8 3, .slice none 0 0, .slice none 0 0, u]) rfl rfl rfl (fun v1 w1 hv1 => by obtain ⟨a', c', rfl⟩ := (OwnR.slR hv1).isSlice; kernel_rfl) ?_)|(refine acA (j1 := 1) (c := fun u => .agg #[.int .u8 1, u, .slice none 0 0, .slice none 0 0]) rfl rfl rfl (fun v1 w1 hv1 => by obtain ⟨a', c', rfl⟩ := (OwnI.slI hv1).isSlice; kernel_rfl) ?_)|(refine acA (j1 := 2) (c := fun u => .agg #[.int .u8 2, .slice none 0 0, u, .slice none 0 0]) rfl rfl rfl (fun v1 w1 hv1 => by obtain ⟨a', c', rfl⟩ := (OwnI.slI hv1).isSlice; kernel_rfl) ?_)|(refine a4A (hK _ _ (btA (φ := cnP A p 2) (w0 := w) rfl rfl rfl b1A (fun v' w' e hv => ?_) rfl (fun _ => rfl) (Ext.refl _) (fun w' e' => ?_))); clear hK K)|refine wOp ?_|(refine wCm ?_ ?_<;>intro hc)|(refine oCv ?_;first|(refine oC 51 ?_; refine a1A (f := 51) rfl rfl rfl  (.val (.int .i64 n)) (by intro u1 w e hu1; (try obtain rfl : u1 = _ := hu1); exact hl _ e) ?_)|(refine oC 126 ?_; refine a1A (f := 126) rfl rfl rfl  (.val (.int .i64 r)) (by intro u1 w e hu1; (try obtain rfl : u1 = _ := hu1); exact hm _ e) ?_)|(refine oC 82 ?_; refine a1A (f := 82) rfl rfl rfl  (.val (.int .u8 kk)) (by intro u1 w e hu1; (try obtain rfl : u1 = _ := hu1); exact hk _ e) ?_)|(refine oC 36 ?_; refine a1A (f := 36) rfl rfl rfl  (.pred (eeA _ 96 (anA p))) (by intro u1 w e hu1; (try obtain rfl : u1 = _ := hu1); exact (hru _ e).mono (ayA e.size rfl)) ?_)|(refine oC 64 ?_; refine a1A (f := 64) rfl rfl rfl  (.pred (blA _ 72 .u16 (adA p 65536))) (by intro u1 w e hu1; (try obtain rfl : u1 = _ := hu1); exact (ha _ e).mono (aaA e.size)) ?_)|(refine oC 34 ?_; refine a1A (f := 34) rfl rfl rfl  (.pred (blA _ 22 .u64 (wordsOf p))) (by intro u1 w e hu1; (try obtain rfl : u1 = _ := hu1); exact (hw _ e).mono (aaA e.size)) ?_))|(refine wNl hK ?_;clear hK K))|refine wG ?_|(refine wCR ?_;intro K hK)|(refine oPX ?_;first|exact buA rfl rfl rfl rfl rfl (by assumption))|fail)
      all_goals skip
      all_goals first
        | (obtain rfl : v' = _ := hv; exact hkk ▸ hs _ e)
        | (obtain ⟨u, rfl, hu⟩ := hv; exact Cn.wrd hp rfl hu hA)
end Go.Proofs.YtfcioiobhpcngaaGreatDoor
end
section
set_option linter.unusedSimpArgs false
set_option linter.unusedVariables false
namespace Go.Proofs.YtfcioiobhpcngaaGreatDoor
open Go.LA Go.ArrP Go.RowKit
variable {A : Nat → Prop}
abbrev tC : Nat := 65
structure VarC (A : Nat → Prop) (w : World) (b : Nat) (cs : Array Value) (p : Nat → Bool) (kk : Int) : Prop where
  hb : w.heap[b]? = some (.cells cs tC (0, 0))
  hn : cs.size = 4
  hc : Cn A w (.agg cs) p kk
theorem VarC.ext {w w' : World} {b : Nat} {cs : Array Value} {p : Nat → Bool} {kk : Int} (h : VarC A w b cs p kk) (e : Ext w w') : VarC A w' b cs p kk := ⟨e.block h.hb, h.hn, h.hc.ext e⟩
theorem VarC.set {w : World} {b : Nat} {cur cs : Array Value} {p : Nat → Bool} {kk : Int} (hb : w.heap[b]? = some (.cells cur tC (0, 0))) (hn : cs.size = 4) (hc : Cn A w (.agg cs) p kk) : VarC A (w.setRow b cs) b cs p kk :=
  ⟨setRow_heap w b _ _ _ (0, 0) hb, hn, hc.setRow hb ⟨by decide, by decide, by decide⟩ cs⟩
theorem u2A {w : World} {b : Nat} {o : Obj} (h : w.heap[b]? = some o) : b < w.heap.size := (Array.getElem?_eq_some_iff.1 h).1
theorem VarC.lt {w : World} {b : Nat} {cs : Array Value} {p : Nat → Bool} {kk : Int} (h : VarC A w b cs p kk) : b < w.heap.size := u2A h.hb
end Go.Proofs.YtfcioiobhpcngaaGreatDoor
end
section
set_option linter.unusedSimpArgs false
set_option linter.unusedVariables false
set_option maxRecDepth 3000
namespace Go.Proofs.YtfcioiobhpcngaaGreatDoor
open Go.LA Go.ArrP Go.RowKit
variable {A : Nat → Prop}
theorem rjA {xs : List Int} (hl : Low xs) : bqA xs 65536 = false := by
  unfold bqA
  refine decide_eq_false fun h => ?_
  have := (hl _ h).2; omega
theorem v9A {w : World} {v : Value} {xs : List Int} (h : SlI .u16 w v xs) (hi : Inc xs) (hl : Low xs) (hA : Fsh A w) : Fc Tryz.prog 32 #[v] w (Ret w (.tup2 (.pred (cnP A (bqA xs) 1)) (.val (.bool true)))) := by
  have hx : adA (bqA xs) 65536 = xs := ibA hi hl
  have hn : xs.length ≤ 65536 := by rw [← hx]; exact j0A _
  have hp := rjA hl
  refine Fc.of (args := [_]) Tryz.func32 rfl rfl Tryz.ntmps32 (Nat.le_of_ble_eq_true rfl) ?_
  repeat' (first|(refine oLA ?_;first|refine a0A rfl ?_|refine bcA rfl (fun _ => rfl) ?_|(refine acA (j1 := 1) (c := fun u => .agg #[.int .u8 1, u, .slice none 0 0, .slice none 0 0]) rfl rfl rfl (fun v1 w1 hv1 => by obtain ⟨a', c', rfl⟩ := (OwnI.slI hv1).isSlice; kernel_rfl) ?_)|(refine a4A (hK _ _ (btA (φ := cnP A (bqA xs) 1) (w0 := w) rfl rfl rfl b1A (fun v' w' e hv => by obtain ⟨u, rfl, hu⟩ := hv; exact Cn.arr hp hx.symm hu hA) rfl (fun _ => rfl) (Ext.refl _) (fun w' e' => ?_))); clear hK K; refine amA (by kernel_rfl) (fun K hK => ?_))|refine wOp ?_|(refine wCm ?_ ?_<;>intro hc)|(refine oCv ?_;first|(refine oC 68 ?_; refine a1A (f := 68) rfl rfl rfl  (.val (.bool true)) (by intro u1 w e hu1; (try obtain rfl : u1 = _ := hu1); exact r8A (may_c _ _ xs (h.ext e)) (decide_eq_true hi)) ?_)|(refine oC 55 ?_; refine a1A (f := 55) rfl rfl rfl  (.pred (blA _ 72 .u16 xs)) (by intro u1 w e hu1; (try obtain rfl : u1 = _ := hu1); exact (foA _ _ _ (h.ext e) hn).mono (aaA e.size)) ?_))|(refine wNl hK ?_;clear hK K))|refine wG ?_|(refine wCR ?_;intro K hK)|(refine oPX ?_;first|exact srA rfl rfl rfl rfl rfl rfl (by assumption))|fail)
  all_goals skip
def flp (p : Nat → Bool) (lo hi : Int) : Nat → Bool := two g1A p (daA lo hi)
theorem vuA {p : Nat → Bool} (hp : p 65536 = false) (lo hi : Int) : flp p lo hi 65536 = false := by
  unfold flp two g1A; rw [hp, lkA]; rfl
theorem p2A (p : Nat → Bool) (lo hi : Int) {i : Nat} (h : i < 65536) : k5A p lo hi i = flp p lo hi i := by
  unfold flp two g1A k5A daA; rw [decide_eq_true h, Bool.and_true]
set_option maxHeartbeats 2000000 in
theorem y4A {w : World} {v : Value} {p : Nat → Bool} {kk : Int} (h : Cn A w v p kk) (hT : Tab w) (hA : Fsh A w) (lo hi : Int) (hlo : -9223372036854775808 ≤ lo ∧ lo < 9223372036854775808) (hhi : -9223372036854775808 ≤ hi ∧ hi < 9223372036854775808) :
    Fc Tryz.prog 49 #[v, .int .i64 lo, .int .i64 hi] w (Ret w (.pred (cnP A (flp p lo hi) (aqA (flp p lo hi))))) := by
  have hq := vuA h.1 lo hi
  have hww : wordsOf (k5A p lo hi) = wordsOf (flp p lo hi) := biA fun i hi' => p2A p lo hi hi'
  have hru : ∀ w', Ext w w' → _ := fun w' e => l5A (h.ext e) (hT.ext e)
  obtain ⟨hp, ⟨rfl, kd, va, hkd, rfl, ho⟩ | ⟨rfl, vw, rfl, ho⟩ | ⟨rfl, vr, rfl, ho⟩⟩ := h
  · skip
    refine Fc.of (args := [_, _, _]) Tryz.func49 rfl rfl Tryz.ntmps49 (Nat.le_of_ble_eq_true rfl) ?_
    repeat' (first|(refine oLA ?_;first|refine a0A rfl ?_|refine d1A ?_|refine bcA rfl (fun _ => rfl) ?_|(refine acA (j1 := 3) (c := fun u => .agg #[.int .u8 3, .slice none 0 0, .slice none 0 0, u]) rfl rfl rfl (fun v1 w1 hv1 => by obtain ⟨a', c', rfl⟩ := (OwnR.slR hv1).isSlice; kernel_rfl) ?_)|(refine acA (j1 := 2) (c := fun u => .agg #[.int .u8 2, .slice none 0 0, u, .slice none 0 0]) rfl rfl rfl (fun v1 w1 hv1 => by obtain ⟨a', c', rfl⟩ := (OwnI.slI hv1).isSlice; kernel_rfl) ?_)|(refine a4A (hK _ _ (btA (φ := cnP A (flp p lo hi) (aqA (flp p lo hi))) (w0 := w) rfl rfl rfl b1A (fun v' w' e hv => hv) rfl (fun _ => rfl) (Ext.refl _) (fun w' e' => ?_))); clear hK K)|refine wOp ?_|(refine wCm ?_ ?_<;>intro hc)|(refine oCv ?_;first|(refine oC 71 ?_; refine b4A (f := 71) rfl rfl rfl rfl rfl  (.pred (blA _ 22 .u64 (wordsOf (flp p lo hi)))) (by intro u1 u2 u3 w e hu1 hu2 hu3; (try obtain rfl : u1 = _ := hu1); (try obtain rfl : u2 = _ := hu2); (try obtain rfl : u3 = _ := hu3); exact (lgA _ _ p (ho.ext e).slI lo hi hlo hhi).mono (n0A e.size hww)) ?_)|(refine oC 36 ?_; refine a1A (f := 36) rfl rfl rfl  (.pred (eeA _ 96 (anA p))) (by intro u1 w e hu1; (try obtain rfl : u1 = _ := hu1); exact (hru _ e).mono (ayA e.size rfl)) ?_)|(refine oC 94 ?_; refine b4A (f := 94) rfl rfl rfl rfl rfl  (.pred (eeA _ 96 (anA (flp p lo hi)))) (by intro u1 u2 u3 w e hu1 hu2 hu3; (try obtain rfl : u1 = _ := hu1); (try obtain rfl : u2 = _ := hu2); (try obtain rfl : u3 = _ := hu3); exact (iqA _ _ p lo hi hp (OwnR.slR hu1) hlo hhi).mono (ayA e.size rfl)) ?_)|(refine oC 75 ?_; refine a1A (f := 75) rfl rfl rfl  (.pred (cnP A (flp p lo hi) (aqA (flp p lo hi)))) (by intro u1 w e hu1; (try obtain rfl : u1 = _ := hu1); exact by obtain ⟨u, rfl, hu⟩ := hu1; exact d7A (Cn.rns hq rfl hu hA) (hT.ext e) (hA.ext e)) ?_))|(refine wNl hK ?_;clear hK K))|refine wG ?_|(refine wCR ?_;intro K hK)|(refine oPX ?_;first|exact buA rfl rfl rfl rfl rfl (by assumption))|fail)
    all_goals skip
  · skip
    refine Fc.of (args := [_, _, _]) Tryz.func49 rfl rfl Tryz.ntmps49 (Nat.le_of_ble_eq_true rfl) ?_
    repeat' (first|(refine oLA ?_;first|refine a0A rfl ?_|refine d1A ?_|refine bcA rfl (fun _ => rfl) ?_|(refine acA (j1 := 3) (c := fun u => .agg #[.int .u8 3, .slice none 0 0, .slice none 0 0, u]) rfl rfl rfl (fun v1 w1 hv1 => by obtain ⟨a', c', rfl⟩ := (OwnR.slR hv1).isSlice; kernel_rfl) ?_)|(refine acA (j1 := 2) (c := fun u => .agg #[.int .u8 2, .slice none 0 0, u, .slice none 0 0]) rfl rfl rfl (fun v1 w1 hv1 => by obtain ⟨a', c', rfl⟩ := (OwnI.slI hv1).isSlice; kernel_rfl) ?_)|(refine a4A (hK _ _ (btA (φ := cnP A (flp p lo hi) (aqA (flp p lo hi))) (w0 := w) rfl rfl rfl b1A (fun v' w' e hv => hv) rfl (fun _ => rfl) (Ext.refl _) (fun w' e' => ?_))); clear hK K)|refine wOp ?_|(refine wCm ?_ ?_<;>intro hc)|(refine oCv ?_;first|(refine oC 71 ?_; refine b4A (f := 71) rfl rfl rfl rfl rfl  (.pred (blA _ 22 .u64 (wordsOf (flp p lo hi)))) (by intro u1 u2 u3 w e hu1 hu2 hu3; (try obtain rfl : u1 = _ := hu1); (try obtain rfl : u2 = _ := hu2); (try obtain rfl : u3 = _ := hu3); exact (lgA _ _ p (ho.ext e).slI lo hi hlo hhi).mono (n0A e.size hww)) ?_)|(refine oC 36 ?_; refine a1A (f := 36) rfl rfl rfl  (.pred (eeA _ 96 (anA p))) (by intro u1 w e hu1; (try obtain rfl : u1 = _ := hu1); exact (hru _ e).mono (ayA e.size rfl)) ?_)|(refine oC 94 ?_; refine b4A (f := 94) rfl rfl rfl rfl rfl  (.pred (eeA _ 96 (anA (flp p lo hi)))) (by intro u1 u2 u3 w e hu1 hu2 hu3; (try obtain rfl : u1 = _ := hu1); (try obtain rfl : u2 = _ := hu2); (try obtain rfl : u3 = _ := hu3); exact (iqA _ _ p lo hi hp (OwnR.slR hu1) hlo hhi).mono (ayA e.size rfl)) ?_)|(refine oC 75 ?_; refine a1A (f := 75) rfl rfl rfl  (.pred (cnP A (flp p lo hi) (aqA (flp p lo hi)))) (by intro u1 w e hu1; (try obtain rfl : u1 = _ := hu1); exact by obtain ⟨u, rfl, hu⟩ := hu1; exact d7A (Cn.wrd hq rfl hu hA) (hT.ext e) (hA.ext e)) ?_))|(refine wNl hK ?_;clear hK K))|refine wG ?_|(refine wCR ?_;intro K hK)|(refine oPX ?_;first|exact buA rfl rfl rfl rfl rfl (by assumption))|fail)
    all_goals skip
  · skip
    refine Fc.of (args := [_, _, _]) Tryz.func49 rfl rfl Tryz.ntmps49 (Nat.le_of_ble_eq_true rfl) ?_
    repeat' (first|(refine oLA ?_;first|refine a0A rfl ?_|refine d1A ?_|refine bcA rfl (fun _ => rfl) ?_|(refine acA (j1 := 3) (c := fun u => .agg #[.int .u8 3, .slice none 0 0, .slice none 0 0, u]) rfl rfl rfl (fun v1 w1 hv1 => by obtain ⟨a', c', rfl⟩ := (OwnR.slR hv1).isSlice; kernel_rfl) ?_)|(refine acA (j1 := 2) (c := fun u => .agg #[.int .u8 2, .slice none 0 0, u, .slice none 0 0]) rfl rfl rfl (fun v1 w1 hv1 => by obtain ⟨a', c', rfl⟩ := (OwnI.slI hv1).isSlice; kernel_rfl) ?_)|(refine a4A (hK _ _ (btA (φ := cnP A (flp p lo hi) (aqA (flp p lo hi))) (w0 := w) rfl rfl rfl b1A (fun v' w' e hv => hv) rfl (fun _ => rfl) (Ext.refl _) (fun w' e' => ?_))); clear hK K)|refine wOp ?_|(refine wCm ?_ ?_<;>intro hc)|(refine oCv ?_;first|(refine oC 71 ?_; refine b4A (f := 71) rfl rfl rfl rfl rfl  (.pred (blA _ 22 .u64 (wordsOf (flp p lo hi)))) (by intro u1 u2 u3 w e hu1 hu2 hu3; (try obtain rfl : u1 = _ := hu1); (try obtain rfl : u2 = _ := hu2); (try obtain rfl : u3 = _ := hu3); exact (lgA _ _ p (ho.ext e).slI lo hi hlo hhi).mono (n0A e.size hww)) ?_)|(refine oC 36 ?_; refine a1A (f := 36) rfl rfl rfl  (.pred (eeA _ 96 (anA p))) (by intro u1 w e hu1; (try obtain rfl : u1 = _ := hu1); exact (hru _ e).mono (ayA e.size rfl)) ?_)|(refine oC 94 ?_; refine b4A (f := 94) rfl rfl rfl rfl rfl  (.pred (eeA _ 96 (anA (flp p lo hi)))) (by intro u1 u2 u3 w e hu1 hu2 hu3; (try obtain rfl : u1 = _ := hu1); (try obtain rfl : u2 = _ := hu2); (try obtain rfl : u3 = _ := hu3); exact (iqA _ _ p lo hi hp (OwnR.slR hu1) hlo hhi).mono (ayA e.size rfl)) ?_)|(refine oC 75 ?_; refine a1A (f := 75) rfl rfl rfl  (.pred (cnP A (flp p lo hi) (aqA (flp p lo hi)))) (by intro u1 w e hu1; (try obtain rfl : u1 = _ := hu1); exact by obtain ⟨u, rfl, hu⟩ := hu1; exact d7A (Cn.rns hq rfl hu hA) (hT.ext e) (hA.ext e)) ?_))|(refine wNl hK ?_;clear hK K))|refine wG ?_|(refine wCR ?_;intro K hK)|(refine oPX ?_;first|exact buA rfl rfl rfl rfl rfl (by assumption))|fail)
    all_goals skip
end Go.Proofs.YtfcioiobhpcngaaGreatDoor
end
section
set_option linter.unusedSimpArgs false
set_option linter.unusedVariables false
set_option maxRecDepth 3000
namespace Go.Proofs.YtfcioiobhpcngaaGreatDoor
open Go.LA Go.ArrP Go.RowKit
def Tells (w : World) (fv : Value) (q : Nat → Bool) : Prop := ∀ w', Ext w w' → ∀ x : Nat, x < 65536 → Clb Tryz.prog fv [.int .u16 x] w' (Ret w' (.val (.bool (q x))))
theorem Tells.ext {w w' : World} {fv : Value} {q : Nat → Bool} (h : Tells w fv q) (e : Ext w w') : Tells w' fv q := fun w2 e2 => h w2 (e.trans e2)
set_option maxHeartbeats 2000000 in
theorem y0A (w : World) (v fv : Value) (xs : List Int) (q : Nat → Bool) (h : SlI .u16 w v xs) (hl : Low xs) (hF : Tells w fv q) :
    Fc Tryz.prog 192 #[v, fv] w (Ret w (.val (.int .i64 (if ggA q xs < xs.length then (ggA q xs : Int) else -1)))) := by
  have hlen := h.len
  have hle := j5A q xs
  refine Fc.of (args := [_, _]) Tryz.func192 rfl rfl Tryz.ntmps192 (Nat.le_of_ble_eq_true rfl) ?_
  repeat' (first|(refine oLA ?_;first|refine a0A rfl ?_|refine wOp ?_|(refine wCm ?_ ?_<;>intro hc)|(refine wNl hK ?_;clear hK K))|refine wG ?_|(refine wCR ?_;intro K hK)|fail)
  refine b6A (ι := Nat) (fun j => [(0, .val v), (1, .val fv), (7, .val (.int .i64 xs.length)), (8, .val (.int .i64 j))]) (fun j => j ≤ ggA q xs) (fun j => xs.length - j) 0 (by omega) (by repeat' (first | exact Sub.nil | refine Sub.val rfl (by first | with_reducible rfl | (congr 1; omega)) ?_ | refine Sub.same rfl ?_)) ?_
  intro j hj
  by_cases hjl : j < xs.length
  · have hx : 0 ≤ xs.getD j 0 ∧ xs.getD j 0 < 65536 := by rw [azA hjl]; exact hl _ (List.getElem_mem hjl)
    obtain ⟨x, hxx⟩ := Int.eq_ofNat_of_zero_le hx.1
    have hx' : x < 65536 := by omega
    have hb := efA q xs j
    have ha := kwA q xs
    rw [hxx, Int.toNat_natCast] at hb
    have hF0 : ∀ w', Ext w w' → Clb Tryz.prog fv [.int .u16 (xs.getD j 0)] w' (Ret w' (.val (.bool (q x)))) := fun w' e => by rw [hxx]; exact hF w' e x hx'
    cases hq : q x
    · rw [hq] at hF0
      have hne : j ≠ ggA q xs := fun e => by
        subst e
        rw [hxx, Int.toNat_natCast, hq] at ha
        cases ha hjl
      repeat' (first|(refine oLA ?_;first|refine a0A rfl ?_|refine wOp ?_|(refine wCm ?_ ?_<;>intro hc)|(refine oCv ?_;first|(refine f3A rfl rfl rfl (.val (.bool false)) (by intro vf u1 w' e hf hu1; obtain rfl : vf = _ := hf; obtain rfl : u1 = _ := hu1; exact hF0 w' e) ?_))|(refine wNl hK ?_;clear hK K))|refine wG ?_|(refine wCR ?_;intro K hK)|fail)
      refine bpA (j + 1) ?_ ?_ (by repeat' (first | exact Sub.nil | refine Sub.val rfl (by first | with_reducible rfl | (congr 1; omega)) ?_ | refine Sub.same rfl ?_))
      · omega
      · omega
    · rw [hq] at hF0
      have hjq : j = ggA q xs := by
        rcases Nat.lt_or_ge j (ggA q xs) with h | h
        · rw [hq] at hb; cases hb h
        · omega
      rw [if_pos (by omega), ← hjq]
      repeat' (first|(refine oLA ?_;first|refine a0A rfl ?_|refine wOp ?_|(refine wCm ?_ ?_<;>intro hc)|(refine oCv ?_;first|(refine f3A rfl rfl rfl (.val (.bool true)) (by intro vf u1 w' e hf hu1; obtain rfl : vf = _ := hf; obtain rfl : u1 = _ := hu1; exact hF0 w' e) ?_))|(refine wNl hK ?_;clear hK K))|refine wG ?_|(refine wCR ?_;intro K hK)|(refine oPX ?_;first|exact abA rfl rfl (Ext.refl _) rfl)|fail)
      all_goals skip
  · rw [if_neg (by omega)]
    repeat' (first|(refine oLA ?_;first|refine a0A rfl ?_|refine wOp ?_|(refine wCm ?_ ?_<;>intro hc)|(refine wNl hK ?_;clear hK K))|refine wG ?_|(refine wCR ?_;intro K hK)|(refine oPX ?_;first|exact abA rfl rfl (Ext.refl _) rfl)|fail)
    all_goals skip
set_option maxHeartbeats 4000000 in
theorem y7A (w0 w : World) (he0 : Ext w0 w) (v fv : Value) (xs : List Int) (q : Nat → Bool) (ho0 : OwnI w0.heap.size 72 .u16 w v xs) (hl : Low xs) (hn : xs.length ≤ 65536) (hF : Tells w0 fv q) :
    Fc Tryz.prog 150 #[v, fv] w (fun en w' => ∃ v', en = .returned v' ∧ OwnI w0.heap.size 72 .u16 w' v' (f9A q xs) ∧ Ext w0 w') := by
  have hle := j5A q xs
  have hix : ∀ w', Ext w w' → _ := fun w' e => y0A w' v fv xs q (ho0.ext e).slI hl (hF.ext (he0.trans e))
  by_cases hall : ggA q xs < xs.length
  · rw [if_pos hall] at hix
    have hst := Mid.start q hall
    obtain ⟨i0, hi0⟩ : ∃ i0, i0 = ggA q xs := ⟨_, rfl⟩
    rw [← hi0] at hix hall hle hst
    refine Fc.of (args := [_, _]) Tryz.func150 rfl rfl Tryz.ntmps150 (Nat.le_of_ble_eq_true rfl) ?_
    repeat' (first|(refine oLA ?_;first|refine a0A rfl ?_|refine wOp ?_|(refine wCm ?_ ?_<;>intro hc)|(refine oCv ?_;first|(refine oC 192 ?_; refine a3A (f := 192) rfl rfl rfl rfl  (.val (.int .i64 i0)) (by intro u1 u2 w e hu1 hu2; (try obtain rfl : u1 = _ := hu1); (try obtain rfl : u2 = _ := hu2); exact hix _ e) ?_))|(refine wNl hK ?_;clear hK K))|refine wG ?_|(refine wCR ?_;intro K hK)|fail)
    refine agA (ι := (Nat × Nat) × List Int) (fun s => [(0, .val v), (1, .val fv), (5, .val (.int .i64 s.1.1)), (6, .val (.int .i64 s.1.2))]) (fun s w' => Ext w0 w' ∧ Mid q xs s.2 s.1.1 s.1.2 ∧ OwnI w0.heap.size 72 .u16 w' v s.2) (fun s => xs.length - s.1.2)
      (fun w2 e2 => ⟨((i0, i0 + 1), xs), ⟨he0.trans e2, hst, ho0.ext e2⟩, (by repeat' (first | exact Sub.nil | refine Sub.val rfl (by first | with_reducible rfl | (congr 1; omega)) ?_ | refine Sub.same rfl ?_))⟩) ?_
    rintro ⟨⟨i, j⟩, ys⟩ w1 ⟨he, hM, ho⟩
    dsimp only at hM ho ⊢
    have m1 := hM.len
    have m2 := hM.lt
    have m3 := hM.le
    clear hix ho0 hst
    by_cases hjl : j < xs.length
    · have hcur := hM.cur hjl
      have hx : 0 ≤ xs.getD j 0 ∧ xs.getD j 0 < 65536 := by rw [azA hjl]; exact hl _ (List.getElem_mem hjl)
      obtain ⟨x, hxx⟩ := Int.eq_ofNat_of_zero_le hx.1
      have hx' : x < 65536 := by omega
      have hF0 : ∀ w', Ext w1 w' → Clb Tryz.prog fv [.int .u16 (ys.getD j 0)] w' (Ret w' (.val (.bool (q x)))) := fun w' e => by rw [hcur, hxx]; exact hF w' (he.trans e) x hx'
      have hqq : q (xs.getD j 0).toNat = q x := by rw [hxx]; rfl
      obtain ⟨gb, cap, cur, rfl, hgb, hgc, hgn, hgm, hgs, hgt⟩ := ho.row (by omega)
      cases hq : q x
      · rw [hq] at hF0 hqq
        have hM' := hM.put hjl hqq
        rw [← hcur] at hM'
        repeat' (first|(refine oLA ?_;first|refine a0A rfl ?_|(refine oD 33 ?_; refine d0A (s := 1) rfl rfl (fun _ => rfl) rfl rfl (by omega) (by omega) ?_; rw [Int.toNat_natCast])|(refine a4A (hK _ _ (dhA (o := 0 + i * 1) rfl rfl rfl hgc (fun _ => rfl) (by omega) rfl rfl (fun w4 e4 => ?_))); clear hK K; dsimp only [vals])|refine wOp ?_|(refine wCm ?_ ?_<;>intro hc)|(refine oCv ?_;first|(refine f3A rfl rfl rfl (.val (.bool false)) (by intro vf u1 w' e hf hu1; obtain rfl : vf = _ := hf; obtain rfl : u1 = _ := hu1; exact hF0 w' e) ?_))|(refine wNl hK ?_;clear hK K))|refine wG ?_|(refine wCR ?_;intro K hK)|fail)
        all_goals skip
        refine a7A ((i + 1, j + 1), ys.set i (ys.getD j 0)) (fun w5 e5 => ⟨((he.trans e4).setRow hgb _).trans e5, hM', ?_⟩) (by dsimp only; omega) (by repeat' (first | exact Sub.nil | refine Sub.val rfl (by first | with_reducible rfl | (congr 1; omega)) ?_ | refine Sub.same rfl ?_))
        have hh := OwnI.set hgb (e4.block hgc) hgn hgm hgs hgt (0 + i * 1) (by omega) (ys.getD j 0)
        rw [show 0 + i * 1 = i by omega] at hh e5
        exact OwnI.ext hh e5
      · rw [hq] at hF0 hqq
        have hM' := hM.skip hjl hqq
        repeat' (first|(refine oLA ?_;first|refine a0A rfl ?_|refine wOp ?_|(refine wCm ?_ ?_<;>intro hc)|(refine oCv ?_;first|(refine f3A rfl rfl rfl (.val (.bool true)) (by intro vf u1 w' e hf hu1; obtain rfl : vf = _ := hf; obtain rfl : u1 = _ := hu1; exact hF0 w' e) ?_))|(refine wNl hK ?_;clear hK K))|refine wG ?_|(refine wCR ?_;intro K hK)|fail)
        all_goals skip
        exact a7A ((i, j + 1), ys) (fun w5 e5 => ⟨he.trans e5, hM', ho.ext e5⟩) (by dsimp only; omega) (by repeat' (first | exact Sub.nil | refine Sub.val rfl (by first | with_reducible rfl | (congr 1; omega)) ?_ | refine Sub.same rfl ?_))
    · obtain rfl : j = xs.length := by omega
      have hfin := hM.fin
      have hkl : (f9A q xs).length = i := by rw [← hfin, List.length_take]; omega
      obtain ⟨gb, cap, cur, rfl, hgb, hgc, hgn, hgm, hgs, hgt⟩ := ho.row (by omega)
      have hsl : dyA (.slice (some ⟨gb, 0, none⟩) ys.length cap) i ys.length 1 = .slice (some ⟨gb, 0 + i * 1, none⟩) (ys.length - i) (cap - i) := by rw [ecA (by omega)]; simp
      have hsh : dyA (.slice (some ⟨gb, 0, none⟩) ys.length cap) 0 i 1 = .slice (some ⟨gb, 0, none⟩) i cap := by rw [ecA (by omega)]; simp
      repeat' (first|(refine oLA ?_;first|refine a0A rfl ?_|(refine oD 38 ?_; refine ceA (n := ys.length) (s := 1) (i := (i : Int)) rfl _ rfl rfl (HasI.ownV ho).c rfl (by omega) (by omega) (fun _ => rfl) ?_; rw [Int.toNat_natCast, hsl])|(refine a4A (hK _ _ (moA (b := gb) (o := 0 + i * 1) (m := ys.length - i) (c := cap - i) rfl rfl (fun _ => rfl) rfl rfl rfl hgc (by omega) (fun w4 cur4 e4 hs4 ht4 => ?_))); clear hK K; dsimp only [vals])|refine wOp ?_|(refine wCm ?_ ?_<;>intro hc)|(refine wNl hK ?_;clear hK K))|refine wG ?_|(refine wCR ?_;intro K hK)|fail)
      all_goals skip
      have hb4 := setRow_heap w4 gb cur cur4 72 (0, 0) (e4.block hgc)
      have hown : OwnI w0.heap.size 72 .u16 (w4.setRow gb cur4) (.slice (some ⟨gb, 0, none⟩) i cap) (f9A q xs) := by
        refine ⟨by simp, .inr ⟨gb, cap, cur4, by rw [hkl], hgb, hb4, by rw [hkl]; omega, hgm, by omega, ?_⟩⟩
        rw [hkl, Nat.mul_one, ← hfin, List.map_take, ← hgt]
        rw [show (0 + i * 1) = i by omega] at ht4
        rw [ht4, List.take_take, Nat.min_eq_left (by omega)]
      have hcs : SlC (w4.setRow gb cur4) (.slice (some ⟨gb, 0, none⟩) ys.length cap) ys.length 1 (cur4.toList.take ys.length) :=
        ⟨by simp; omega, _, cap, rfl, hgn, hgm, (fun h => by cases h), .inr ⟨gb, 0, rfl, fun j c hj => by
          rw [cell_of_row _ gb _ cur4 _ (0, 0) hb4, ← Array.getElem?_toList]
          rw [List.getElem?_take] at hj
          split at hj
          · simpa using hj
          · cases hj⟩⟩
      repeat' (first|(refine oLA ?_;first|refine a0A rfl ?_|(refine oD 41 ?_; refine ezA (n := ys.length) (s := 1) (i := (i : Int)) rfl _ rfl rfl (HasC.val hcs) rfl (by omega) (by omega) (fun _ => rfl) ?_; rw [Int.toNat_natCast, hsh])|refine wOp ?_|(refine wCm ?_ ?_<;>intro hc)|(refine wNl hK ?_;clear hK K))|refine wG ?_|(refine wCR ?_;intro K hK)|fail)
      all_goals skip
      all_goals exact bsA rfl (fun v' w' e hv => by obtain rfl : v' = _ := hv; exact ⟨_, rfl, hown.ext e, ((he.trans e4).setRow hgb _).trans e⟩)
  · rw [if_neg hall] at hix
    have hk : f9A q xs = xs := ovA q (by omega)
    rw [hk]
    refine Fc.of (args := [_, _]) Tryz.func150 rfl rfl Tryz.ntmps150 (Nat.le_of_ble_eq_true rfl) ?_
    repeat' (first|(refine oLA ?_;first|refine a0A rfl ?_|refine wOp ?_|(refine wCm ?_ ?_<;>intro hc)|(refine oCv ?_;first|(refine oC 192 ?_; refine a3A (f := 192) rfl rfl rfl rfl  (.val (.int .i64 (-1))) (by intro u1 u2 w e hu1 hu2; (try obtain rfl : u1 = _ := hu1); (try obtain rfl : u2 = _ := hu2); exact hix _ e) ?_))|(refine wNl hK ?_;clear hK K))|refine wG ?_|(refine wCR ?_;intro K hK)|fail)
    all_goals skip
    all_goals exact bsA rfl (fun v' w' e hv => by obtain rfl : v' = _ := hv; exact ⟨_, rfl, ho0.ext e, he0.trans e⟩)
end Go.Proofs.YtfcioiobhpcngaaGreatDoor
end
section
set_option linter.unusedSimpArgs false
set_option linter.unusedVariables false
set_option maxRecDepth 3000
namespace Go.Proofs.YtfcioiobhpcngaaGreatDoor
open Go.LA Go.ArrP Go.RowKit
variable {A : Nat → Prop}
theorem ulA {w : World} {a : Addr} {fv : Value} {q : Nat → Bool} {x : Nat} (hc : w.cell? a = some fv) (hF : Tells w fv q) (hx : x < 65536) : Fc Tryz.prog 151 #[.int .u16 x, .pointer (some a)] w (Ret w (.val (.bool (!q x)))) := by
  have h0 : ∀ w', Ext w w' → _ := fun w' e => hF w' e x hx
  refine Fc.of (args := [_, _]) Tryz.func151 rfl rfl Tryz.ntmps151 (Nat.le_of_ble_eq_true rfl) ?_
  repeat' (first|(refine oLA ?_;first|refine a0A rfl ?_|(refine oLd ?_; refine jiA rfl (fun _ => rfl) rfl hc ?_)|refine wOp ?_|(refine wCm ?_ ?_<;>intro hc)|(refine oCv ?_;first|(refine f3A rfl rfl rfl (.val (.bool (q x))) (by intro vf u1 w' e hf hu1; obtain rfl : vf = _ := hf; obtain rfl : u1 = _ := hu1; exact h0 w' e) ?_))|(refine wNl hK ?_;clear hK K))|refine wG ?_|(refine wCR ?_;intro K hK)|(refine oPX ?_;first|exact abA rfl rfl (Ext.refl _) rfl)|fail)
  all_goals skip
set_option maxHeartbeats 2000000 in
theorem nwA {w : World} {va fv : Value} {p q : Nat → Bool} (ha : SlI .u16 w va (adA p 65536)) (hp : p 65536 = false) (hF : Tells w fv q) (hT : Tab w) (hA : Fsh A w) :
    Fc Tryz.prog 107 #[va, fv] w (Ret w (.pred (cnP A (fun i => p i && q i) (aqA (fun i => p i && q i))))) := by
  have hq : (fun i => p i && q i) 65536 = false := by simp [hp]
  have hks : f9A (fun i => !q i) (adA p 65536) = adA (fun i => p i && q i) 65536 := k3A p q 65536
  have hl := cdA p
  have hn := j0A p
  obtain ⟨r, hr⟩ : ∃ r : Nat → Bool, r = fun i => p i && q i := ⟨_, rfl⟩
  rw [← hr] at hq hks ⊢
  obtain ⟨f, first, cap, rfl, -⟩ := hF w (Ext.refl _) 0 (by decide)
  refine Fc.of (args := [_, _]) Tryz.func107 rfl rfl Tryz.ntmps107 (Nat.le_of_ble_eq_true rfl) ?_
  repeat' (first|(refine oLA ?_;first|refine a0A rfl ?_|(refine oBx ?_; refine leA rfl rfl ?_)|refine bcA rfl (fun _ => rfl) ?_|(refine oD 6 ?_; refine a4A (hK _ _ (c5A 3 rfl (fun v3 w3 e3 h3 => c5A 4 rfl (fun v4 w4 e4 h4 => ?_)))); clear hK K)|refine wOp ?_|(refine wCm ?_ ?_<;>intro hc)|(refine wNl hK ?_;clear hK K))|refine wG ?_|(refine wCR ?_;intro K hK)|fail)
  obtain ⟨a3, rfl, hc3⟩ := h3
  have hc3 := hc3 0 _ rfl
  rw [Addr.add_zero'] at hc3
  obtain ⟨b4, hb4, rfl, hg4⟩ := h4
  have e34 := e3.trans e4
  have hF4 := hF.ext e34
  have hc4 := e4.cell hc3
  have hc1 : ∀ w', Ext w4 w' → Tells w' (.func (.func 151) #[] #[.pointer (some a3)]) (fun i => !q i) := fun w' e w2 e2 x hx => Clb.of1 (ulA ((e.trans e2).cell hc4) (hF4.ext (e.trans e2)) hx)
  refine amA (by kernel_rfl) (fun K hK => ?_)
  repeat' (first|(refine oLA ?_;first|refine a0A rfl ?_|(refine a4A (hK _ _ (c5A 6 rfl (fun v6 w6 e6 h6 => ?_))); clear hK K)|refine wOp ?_|(refine wCm ?_ ?_<;>intro hc)|(refine oCv ?_;first|(refine oC 55 ?_; refine a1A (f := 55) rfl rfl rfl  (.pred (blA _ 72 .u16 (adA p 65536))) (by intro u1 w e hu1; (try obtain rfl : u1 = _ := hu1); exact (foA _ _ _ (ha.ext (e34.trans e)) hn).mono (aaA e.size)) ?_))|(refine wNl hK ?_;clear hK K))|refine wG ?_|(refine wCR ?_;intro K hK)|fail)
  have h6 : OwnI w4.heap.size 72 .u16 w6 v6 (adA p 65536) := h6
  refine amA (by kernel_rfl) (fun K hK => ?_)
  repeat' (first|(refine oLA ?_;first|refine a0A rfl ?_|(refine oD 7 ?_; refine jkA rfl rfl ?_)|(refine oD 8 ?_; refine a4A (hK _ _ (c5A 7 rfl (fun v7 w7 e7 h7 => ?_))); clear hK K)|refine wOp ?_|(refine wCm ?_ ?_<;>intro hc)|(refine wNl hK ?_;clear hK K))|refine wG ?_|(refine wCR ?_;intro K hK)|fail)
  obtain ⟨c7, rfl, h7⟩ := h7
  obtain rfl : c7 = _ := h7
  refine ssA (f := 150) rfl (by decide) rfl rfl rfl (fun v' w' => OwnI w4.heap.size 72 .u16 w' v' (adA r 65536) ∧ Ext w4 w') (fun w' e => by
    have := y7A w4 w' (e6.trans (e7.trans e)) v6 _ (adA p 65536) (fun i => !q i) (h6.ext (e7.trans e)) hl hn (hc1 w4 (Ext.refl _))
    rw [hks] at this
    exact this) (fun v8 w8 h8 => ?_)
  obtain ⟨o8, x8⟩ := h8
  have hg8 := x8.block hg4
  have x08 := e34.trans x8
  have hT8 := hT.ext x08
  dsimp only [vals]
  refine amA (by kernel_rfl) (fun K hK => ?_)
  repeat' (first|(refine oLA ?_;first|refine a0A rfl ?_|(refine cnA (c := .agg #[.int .u8 1, v8, .slice none 0 0, .slice none 0 0]) rfl rfl rfl (fun w1 => by obtain ⟨a', c', rfl⟩ := (OwnI.slI o8).isSlice; kernel_rfl) ?_)|(refine a4A (hK _ _ (wfA (φ := cnP A r (aqA r)) (w0 := w) rfl rfl hb4 hg8 rfl b1A (fun v' w' e hv => hv) rfl (fun _ => rfl) x08 (fun w' e' => ?_))); clear hK K)|refine wOp ?_|(refine wCm ?_ ?_<;>intro hc)|(refine oCv ?_;first|(refine oC 75 ?_; refine a1A (f := 75) rfl rfl rfl  (.pred (cnP A r (aqA r))) (by intro u1 w e hu1; (try obtain rfl : u1 = _ := hu1); exact d7A (Cn.arr hq rfl (o8.ext e) (hA.ext e34)) (hT8.ext e) ((hA.ext x08).ext e)) ?_))|(refine wNl hK ?_;clear hK K))|refine wG ?_|(refine wCR ?_;intro K hK)|(refine oPX ?_;first|exact buA rfl rfl rfl rfl rfl (by assumption))|fail)
  all_goals skip
end Go.Proofs.YtfcioiobhpcngaaGreatDoor
end
