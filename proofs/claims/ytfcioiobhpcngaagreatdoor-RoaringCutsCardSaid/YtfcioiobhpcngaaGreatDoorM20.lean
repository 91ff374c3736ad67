import Derived.Test.YtfcioiobhpcngaaGreatDoorM12
import Derived.Test.YtfcioiobhpcngaaGreatDoorM13
import Derived.Test.YtfcioiobhpcngaaGreatDoorM14
import Derived.Test.YtfcioiobhpcngaaGreatDoorM15
section
set_option linter.unusedSimpArgs false
set_option linter.unusedVariables false
set_option maxRecDepth 3000
namespace Go.Proofs.YtfcioiobhpcngaaGreatDoor
open Go.LA Go.ArrP Go.RowKit
variable {A : Nat → Prop}
theorem piA {w : World} {va vw vr : Value} {kd : Int} {p : Nat → Bool} {x : Nat} (h : SlI .u16 w va (adA p 65536)) (hx : x ≤ 65536) : Fc Tryz.prog 98 #[.agg #[.int .u8 kd, va, vw, vr], .int .i64 x] w (Ret w (.val (.int .i64 (cnt p x)))) := by
  have hb := hmA p x hx
  have hl := baA p 65536
  have hn : (adA p 65536).length ≤ 4611686018427387903 := by rw [baA]; have := cnt_le p 65536; omega
  obtain ⟨n, hnn⟩ : ∃ n, n = (adA p 65536).length := ⟨_, rfl⟩
  by_cases h0 : x = 0
  · subst h0
    refine Fc.of (args := [_, _]) Tryz.func98 rfl rfl Tryz.ntmps98 (Nat.le_of_ble_eq_true rfl) ?_
    repeat' (first|(refine oLA ?_;first|refine a0A rfl ?_|refine d1A ?_|refine wOp ?_|(refine wCm ?_ ?_<;>intro hc)|(refine wNl hK ?_;clear hK K))|refine wG ?_|(refine wCR ?_;intro K hK)|fail)
    all_goals skip
    all_goals exact abA rfl rfl (Ext.refl _) rfl
  by_cases h1 : x = 65536
  · subst h1
    refine Fc.of (args := [_, _]) Tryz.func98 rfl rfl Tryz.ntmps98 (Nat.le_of_ble_eq_true rfl) ?_
    repeat' (first|(refine oLA ?_;first|refine a0A rfl ?_|refine d1A ?_|(refine cxA ?_; refine bmA rfl _ rfl rfl (by exact (HasI.val h).c) ?_)|refine wOp ?_|(refine wCm ?_ ?_<;>intro hc)|(refine wNl hK ?_;clear hK K))|refine wG ?_|(refine wCR ?_;intro K hK)|fail)
    all_goals skip
    all_goals exact abA rfl rfl (Ext.refl _) (by rw [hl])
  · have q0 : True := trivial
    refine Fc.of (args := [_, _]) Tryz.func98 rfl rfl Tryz.ntmps98 (Nat.le_of_ble_eq_true rfl) ?_
    repeat' (first|(refine oLA ?_;first|refine a0A rfl ?_|refine d1A ?_|refine wOp ?_|(refine wCm ?_ ?_<;>intro hc)|(refine oCv ?_;first|(refine oC 143 ?_; refine a3A (f := 143) rfl rfl rfl rfl  (.tup2 (.val (.int .i64 (bsS (adA p 65536) x))) (.val (.bool (czA (adA p 65536) x)))) (by intro u1 u2 w e hu1 hu2; (try obtain rfl : u1 = _ := hu1); (try obtain rfl : u2 = _ := hu2); exact tzA _ _ (adA p 65536) x (h.ext e) hn) ?_))|(refine wNl hK ?_;clear hK K))|refine wG ?_|(refine wCR ?_;intro K hK)|fail)
    all_goals skip
    all_goals exact abA rfl rfl (Ext.refl _) (by rw [hb])
theorem ngA {w : World} {va vw vr : Value} {kd : Int} {p : Nat → Bool} {x : Nat} (h : SlI .u64 w vw (wordsOf p)) (hx : x ≤ 65536) : Fc Tryz.prog 99 #[.agg #[.int .u8 kd, va, vw, vr], .int .i64 x] w (Ret w (.val (.int .i64 (cnt p x)))) := by
  refine Fc.of (args := [_, _]) Tryz.func99 rfl rfl Tryz.ntmps99 (Nat.le_of_ble_eq_true rfl) ?_
  repeat' (first|(refine oLA ?_;first|refine a0A rfl ?_|refine d1A ?_|refine wOp ?_|(refine wCm ?_ ?_<;>intro hc)|(refine oCv ?_;first|(refine oC 144 ?_; refine a3A (f := 144) rfl rfl rfl rfl  (.val (.int .i64 (cnt p x))) (by intro u1 u2 w e hu1 hu2; (try obtain rfl : u1 = _ := hu1); (try obtain rfl : u2 = _ := hu2); exact alA (by rw [show (min (max (x : Int) 0) 65536).toNat = x by omega]) (wxA _ _ p (h.ext e) x (by omega))) ?_))|(refine wNl hK ?_;clear hK K))|refine wG ?_|(refine wCR ?_;intro K hK)|fail)
  all_goals skip
  all_goals exact abA rfl rfl (Ext.refl _) rfl
theorem o0A {w : World} {va vw vr : Value} {kd : Int} {p : Nat → Bool} {x : Nat} (h : SlR w vr (anA p)) (hx : x ≤ 65536) : Fc Tryz.prog 100 #[.agg #[.int .u8 kd, va, vw, vr], .int .i64 x] w (Ret w (.val (.int .i64 (cnt p x)))) := by
  have hr : i0A (anA p) x = cnt p x := by rw [show i0A (anA p) x = _ from lsA p x 65536, show (min (max (x : Int) 0) (65536 : Nat)).toNat = x by omega]
  have hn : (anA p).length ≤ 70000 := by have := d5A p; omega
  refine Fc.of (args := [_, _]) Tryz.func100 rfl rfl Tryz.ntmps100 (Nat.le_of_ble_eq_true rfl) ?_
  repeat' (first|(refine oLA ?_;first|refine a0A rfl ?_|refine d1A ?_|refine wOp ?_|(refine wCm ?_ ?_<;>intro hc)|(refine oCv ?_;first|(refine oC 145 ?_; refine a3A (f := 145) rfl rfl rfl rfl  (.val (.int .i64 (cnt p x))) (by intro u1 u2 w e hu1 hu2; (try obtain rfl : u1 = _ := hu1); (try obtain rfl : u2 = _ := hu2); exact alA (by rw [hr]) (r2A _ _ (anA p) x (h.ext e) (deA p) hn (by omega))) ?_))|(refine wNl hK ?_;clear hK K))|refine wG ?_|(refine wCR ?_;intro K hK)|fail)
  all_goals skip
  all_goals exact abA rfl rfl (Ext.refl _) rfl
theorem xfA {w : World} {v : Value} {p : Nat → Bool} {kk : Int} {x : Nat} (h : Cn A w v p kk) (hx : x ≤ 65536) : Fc Tryz.prog 52 #[v, .int .i64 x] w (Ret w (.val (.int .i64 (cnt p x)))) := by
  have hk : ∀ w', Ext w w' → _ := fun w' e => e7A (h.ext e)
  obtain ⟨hp, ⟨rfl, kd, va, hkd, rfl, ho⟩ | ⟨rfl, vw, rfl, ho⟩ | ⟨rfl, vr, rfl, ho⟩⟩ := h
  · skip
    refine Fc.of (args := [_, _]) Tryz.func52 rfl rfl Tryz.ntmps52 (Nat.le_of_ble_eq_true rfl) ?_
    repeat' (first|(refine oLA ?_;first|refine a0A rfl ?_|refine d1A ?_|refine bnA (c := .agg #[.nilFunc, .func (.func 98) #[] #[], .func (.func 99) #[] #[], .func (.func 100) #[] #[]]) rfl rfl rfl rfl (fun _ => by kernel_rfl) ?_|(refine cmA 1 (c := .func (.func 98) #[] #[]) rfl rfl (fun _ => rfl) rfl rfl rfl (by decide) (fun _ => by kernel_rfl) ?_)|refine wOp ?_|(refine wCm ?_ ?_<;>intro hc)|(refine oCv ?_;first|(refine oC 82 ?_; refine a1A (f := 82) rfl rfl rfl _ (by intro u1 w' e hu1; obtain rfl : u1 = _ := hu1; exact hk w' e) ?_)|(refine a3A (f := 98) rfl rfl rfl rfl (.val (.int .i64 (cnt p x))) (by intro u1 u2 w' e hu1 hu2; obtain rfl : u1 = _ := hu1; obtain rfl : u2 = _ := hu2;exact piA (ho.ext e).slI hx) ?_))|(refine wNl hK ?_;clear hK K))|refine wG ?_|(refine wCR ?_;intro K hK)|fail)
    all_goals skip
    all_goals exact abA rfl rfl (Ext.refl _) rfl
  · skip
    refine Fc.of (args := [_, _]) Tryz.func52 rfl rfl Tryz.ntmps52 (Nat.le_of_ble_eq_true rfl) ?_
    repeat' (first|(refine oLA ?_;first|refine a0A rfl ?_|refine d1A ?_|refine bnA (c := .agg #[.nilFunc, .func (.func 98) #[] #[], .func (.func 99) #[] #[], .func (.func 100) #[] #[]]) rfl rfl rfl rfl (fun _ => by kernel_rfl) ?_|(refine cmA 2 (c := .func (.func 99) #[] #[]) rfl rfl (fun _ => rfl) rfl rfl rfl (by decide) (fun _ => by kernel_rfl) ?_)|refine wOp ?_|(refine wCm ?_ ?_<;>intro hc)|(refine oCv ?_;first|(refine oC 82 ?_; refine a1A (f := 82) rfl rfl rfl _ (by intro u1 w' e hu1; obtain rfl : u1 = _ := hu1; exact hk w' e) ?_)|(refine a3A (f := 99) rfl rfl rfl rfl (.val (.int .i64 (cnt p x))) (by intro u1 u2 w' e hu1 hu2; obtain rfl : u1 = _ := hu1; obtain rfl : u2 = _ := hu2;exact ngA (ho.ext e).slI hx) ?_))|(refine wNl hK ?_;clear hK K))|refine wG ?_|(refine wCR ?_;intro K hK)|fail)
    all_goals skip
    all_goals exact abA rfl rfl (Ext.refl _) rfl
  · skip
    refine Fc.of (args := [_, _]) Tryz.func52 rfl rfl Tryz.ntmps52 (Nat.le_of_ble_eq_true rfl) ?_
    repeat' (first|(refine oLA ?_;first|refine a0A rfl ?_|refine d1A ?_|refine bnA (c := .agg #[.nilFunc, .func (.func 98) #[] #[], .func (.func 99) #[] #[], .func (.func 100) #[] #[]]) rfl rfl rfl rfl (fun _ => by kernel_rfl) ?_|(refine cmA 3 (c := .func (.func 100) #[] #[]) rfl rfl (fun _ => rfl) rfl rfl rfl (by decide) (fun _ => by kernel_rfl) ?_)|refine wOp ?_|(refine wCm ?_ ?_<;>intro hc)|(refine oCv ?_;first|(refine oC 82 ?_; refine a1A (f := 82) rfl rfl rfl _ (by intro u1 w' e hu1; obtain rfl : u1 = _ := hu1; exact hk w' e) ?_)|(refine a3A (f := 100) rfl rfl rfl rfl (.val (.int .i64 (cnt p x))) (by intro u1 u2 w' e hu1 hu2; obtain rfl : u1 = _ := hu1; obtain rfl : u2 = _ := hu2;exact o0A (ho.ext e).slR hx) ?_))|(refine wNl hK ?_;clear hK K))|refine wG ?_|(refine wCR ?_;intro K hK)|fail)
    all_goals skip
    all_goals exact abA rfl rfl (Ext.refl _) rfl
end Go.Proofs.YtfcioiobhpcngaaGreatDoor
end
section
set_option linter.unusedSimpArgs false
set_option linter.unusedVariables false
set_option maxRecDepth 3000
namespace Go.Proofs.YtfcioiobhpcngaaGreatDoor
open Go.LA Go.ArrP Go.RowKit
namespace Rsel
theorem s5A {rs : List Rn} {k : Nat} (hk : k < rs.length) : rs.drop k = (fst rs k, mor rs k) :: rs.drop (k + 1) := by
  rw [List.drop_eq_getElem_cons hk]
  have : rs.getD k (0, 0) = rs[k] := by simp [List.getD, hk]
  unfold fst mor; rw [this]
theorem SlR.tail {w : World} {v : Value} {x : Rn} {rs : List Rn} (h : SlR w v (x :: rs)) : SlR w (dyA v 1 (x :: rs).length 2) rs := by
  have h1 := SlC.sub h (l := 1) (h := (x :: rs).length) (by simp) (Nat.le_refl _)
  unfold SlR
  have e1 : (x :: rs).length - 1 = rs.length := by simp
  have e2 : (((ckA (x :: rs)).take ((x :: rs).length * 2)).drop (1 * 2)) = ckA rs := by
    rw [List.take_of_length_le (by rw [dbA]; exact Nat.le_refl _)]
    simp [ckA]
  rw [e1, e2] at h1
  exact h1
set_option maxHeartbeats 4000000 in
theorem rselR_c (w : World) (v : Value) (rs : List Rn) (k0 : Int) (h : SlR w v rs) (hu : U16 rs) (hr : Right rs) (hk0 : -9223372036854775808 ≤ k0 ∧ k0 < 9223372036854775808) :
    Fc Tryz.prog 174 #[v, .int .i64 k0] w (Ret w (.tup2 (.val (.int .u16 (mzA rs k0).1)) (.val (.bool (mzA rs k0).2)))) := by
  have hlen := h.len
  refine Fc.of (args := [_, _]) Tryz.func174 rfl rfl Tryz.ntmps174 (Nat.le_of_ble_eq_true rfl) ?_
  repeat' (first|(refine oLA ?_;first|refine a0A rfl ?_|(refine oI ?_; refine axA rfl _ rfl (fun _ => rfl) rfl (by first | exact HasR.val (by assumption) | exact HasR.own | exact HasR.ownV (by assumption)) rfl (by omega) ?_)|(refine oLt 96 ?_; refine apA rfl (fun _ => rfl) (fun _ => rfl) rfl ?_)|(show LA _ _ _ _ (⟨some 99, .alloc _, _, _, _, _⟩ :: _) _; refine a4A (hK _ _ (bwA rfl rfl (by decide) (fun _ => rfl) (fun _ => rfl) (fun _ => rfl) rfl (by intro u hu; simp [Value.cells] at hu; rcases hu with rfl | rfl <;> rfl) (fun bx wx ex hbx hbc => ?_))); clear hK K; refine amA (by kernel_rfl) (fun K hK => ?_))|(refine oF 0 ?_; refine a2A (a := ⟨bx, 0, none⟩) (a' := ⟨bx, 0, none⟩) rfl rfl (fun _ => rfl) ?_)|(refine oF 1 ?_; refine a2A (a := ⟨bx, 0, none⟩) (a' := ⟨bx, 1, none⟩) rfl rfl (fun _ => rfl) ?_)|(refine oLt 96 ?_; refine b0A rfl (fun _ => rfl) (fun _ => rfl) rfl hbc ?_)|(refine oLt 72 ?_; refine a8A rfl (fun _ => rfl) rfl hbc rfl ?_)|(refine cxA ?_; refine bjA rfl _ rfl rfl (by first | exact HasR.val (by assumption) | exact HasR.own | exact HasR.ownV (by assumption)) ?_)|refine wOp ?_|(refine wCm ?_ ?_<;>intro hc)|(refine wNl hK ?_;clear hK K))|refine wG ?_|(refine wCR ?_;intro K hK)|fail)
  refine agA (ι := Nat × Value × Int) (fun i => [(0, .val i.2.1), (1, .val (.int .i64 i.2.2)), (8, .val v), (9, .val (.int .i64 rs.length)), (10, .val (.int .i64 i.1))])
    (fun i w' => Ext w w' ∧ i.1 ≤ rs.length ∧ SlR w i.2.1 (rs.drop i.1) ∧ mzA rs k0 = mzA (rs.drop i.1) i.2.2 ∧ (-9223372036854775808 ≤ i.2.2 ∧ i.2.2 < 9223372036854775808)) (fun i => rs.length - i.1)
    (fun w2 e2 => ⟨(0, v, k0), ⟨e2, Nat.zero_le _, h, rfl, hk0⟩, (by repeat' (first | exact Sub.nil | refine Sub.val rfl (by first | with_reducible rfl | (congr 1; omega)) ?_ | refine Sub.same rfl ?_))⟩) ?_
  rintro ⟨k, vk, kk⟩ w1 ⟨he, hk, hvk, hsel, hkk⟩
  dsimp only at hk hvk hsel hkk ⊢
  have h1 := h.ext he
  have hv1 := hvk.ext he
  by_cases hkl : k < rs.length
  · obtain ⟨u1, u2, u3, u4⟩ := hu.at k
    obtain ⟨-, hr2⟩ := hr k hkl
    have hd := s5A hkl
    rw [hd] at hv1 hsel hvk
    have hsl : mzA ((fst rs k, mor rs k) :: rs.drop (k + 1)) kk = if kk ≤ mor rs k then (if kk < 0 then (0, false) else (fst rs k + kk, true)) else mzA (rs.drop (k + 1)) (kk - (mor rs k + 1)) := rfl
    rw [hsl] at hsel
    by_cases hle : kk ≤ mor rs k
    · rw [if_pos hle] at hsel
      by_cases hneg : kk < 0
      · rw [if_pos hneg] at hsel
        rw [hsel]
        repeat' (first|(refine oLA ?_;first|refine a0A rfl ?_|(refine oI ?_; refine axA rfl _ rfl (fun _ => rfl) rfl (by first | exact HasR.val (by assumption) | exact HasR.own | exact HasR.ownV (by assumption)) rfl (by omega) ?_)|(refine oLt 96 ?_; refine apA rfl (fun _ => rfl) (fun _ => rfl) rfl ?_)|(show LA _ _ _ _ (⟨some 7, .alloc _, _, _, _, _⟩ :: _) _; refine a4A (hK _ _ (bwA rfl rfl (by decide) (fun _ => rfl) (fun _ => rfl) (fun _ => rfl) rfl (by intro u hu; simp [Value.cells] at hu; rcases hu with rfl | rfl <;> rfl) (fun bx wx ex hbx hbc => ?_))); clear hK K; refine amA (by kernel_rfl) (fun K hK => ?_))|(refine oF 0 ?_; refine a2A (a := ⟨bx, 0, none⟩) (a' := ⟨bx, 0, none⟩) rfl rfl (fun _ => rfl) ?_)|(refine oF 1 ?_; refine a2A (a := ⟨bx, 0, none⟩) (a' := ⟨bx, 1, none⟩) rfl rfl (fun _ => rfl) ?_)|(refine oLt 96 ?_; refine b0A rfl (fun _ => rfl) (fun _ => rfl) rfl hbc ?_)|(refine oLt 72 ?_; refine a8A rfl (fun _ => rfl) rfl hbc rfl ?_)|(refine cxA ?_; refine bjA rfl _ rfl rfl (by first | exact HasR.val (by assumption) | exact HasR.own | exact HasR.ownV (by assumption)) ?_)|refine wOp ?_|(refine wCm ?_ ?_<;>intro hc)|(refine wNl hK ?_;clear hK K))|refine wG ?_|(refine wCR ?_;intro K hK)|(refine oPX ?_;first|exact bhA rfl rfl rfl (he.trans ex) rfl rfl)|fail)
      · rw [if_neg hneg] at hsel
        rw [hsel]
        have hf0 : fst ((fst rs k, mor rs k) :: rs.drop (k + 1)) 0 = fst rs k := rfl
        have hln : (((fst rs k, mor rs k) :: rs.drop (k + 1)).length : Int) = (rs.drop (k + 1)).length + 1 := by simp
        repeat' (first|(refine oLA ?_;first|refine a0A rfl ?_|(refine oD 32 ?_; refine bjA rfl _ rfl rfl (HasR.val (hv1.ext ex)) ?_; rw [hln])|(refine oD 36 ?_; refine axA (j := 0) rfl _ rfl (fun _ => rfl) rfl (HasR.val (hv1.ext ex)) rfl (by simp) ?_; rw [hf0])|(refine oD 37 ?_; refine akA (f := 0) (o := 0) rfl rfl (fun _ _ => rfl) ?_)|(refine oD 38 ?_; refine c7A rfl (fun _ => rfl) rfl rfl ?_)|(refine oI ?_; refine axA rfl _ rfl (fun _ => rfl) rfl (by first | exact HasR.val (by assumption) | exact HasR.own | exact HasR.ownV (by assumption)) rfl (by omega) ?_)|(refine oLt 96 ?_; refine apA rfl (fun _ => rfl) (fun _ => rfl) rfl ?_)|(show LA _ _ _ _ (⟨some 7, .alloc _, _, _, _, _⟩ :: _) _; refine a4A (hK _ _ (bwA rfl rfl (by decide) (fun _ => rfl) (fun _ => rfl) (fun _ => rfl) rfl (by intro u hu; simp [Value.cells] at hu; rcases hu with rfl | rfl <;> rfl) (fun bx wx ex hbx hbc => ?_))); clear hK K; refine amA (by kernel_rfl) (fun K hK => ?_))|(refine oF 0 ?_; refine a2A (a := ⟨bx, 0, none⟩) (a' := ⟨bx, 0, none⟩) rfl rfl (fun _ => rfl) ?_)|(refine oF 1 ?_; refine a2A (a := ⟨bx, 0, none⟩) (a' := ⟨bx, 1, none⟩) rfl rfl (fun _ => rfl) ?_)|(refine oLt 96 ?_; refine b0A rfl (fun _ => rfl) (fun _ => rfl) rfl hbc ?_)|(refine oLt 72 ?_; refine a8A rfl (fun _ => rfl) rfl hbc rfl ?_)|(refine cxA ?_; refine bjA rfl _ rfl rfl (by first | exact HasR.val (by assumption) | exact HasR.own | exact HasR.ownV (by assumption)) ?_)|refine wOp ?_|(refine wCm ?_ ?_<;>intro hc)|(refine wNl hK ?_;clear hK K))|refine wG ?_|(refine wCR ?_;intro K hK)|(refine oPX ?_;first|exact bhA rfl rfl rfl (he.trans ex) rfl rfl)|fail)
    · rw [if_neg hle] at hsel
      have hvt := SlR.tail hvk
      have hl1 : (1 : Int) ≤ (((fst rs k, mor rs k) :: rs.drop (k + 1)).length : Int) := by rw [List.length_cons]; omega
      have hv1' : SlC w1 vk ((fst rs k, mor rs k) :: rs.drop (k + 1)).length 2 (ckA ((fst rs k, mor rs k) :: rs.drop (k + 1))) := hv1
      repeat' (first|(refine oLA ?_;first|refine a0A rfl ?_|(refine oD 26 ?_; refine ceA rfl _ rfl rfl (HasC.val (SlC.ext hv1' ex)) rfl (by omega) hl1 (by exact fun _ => rfl) ?_; dsimp only [Int.reduceToNat])|(refine oI ?_; refine axA rfl _ rfl (fun _ => rfl) rfl (by first | exact HasR.val (by assumption) | exact HasR.own | exact HasR.ownV (by assumption)) rfl (by omega) ?_)|(refine oLt 96 ?_; refine apA rfl (fun _ => rfl) (fun _ => rfl) rfl ?_)|(show LA _ _ _ _ (⟨some 7, .alloc _, _, _, _, _⟩ :: _) _; refine a4A (hK _ _ (bwA rfl rfl (by decide) (fun _ => rfl) (fun _ => rfl) (fun _ => rfl) rfl (by intro u hu; simp [Value.cells] at hu; rcases hu with rfl | rfl <;> rfl) (fun bx wx ex hbx hbc => ?_))); clear hK K; refine amA (by kernel_rfl) (fun K hK => ?_))|(refine oF 0 ?_; refine a2A (a := ⟨bx, 0, none⟩) (a' := ⟨bx, 0, none⟩) rfl rfl (fun _ => rfl) ?_)|(refine oF 1 ?_; refine a2A (a := ⟨bx, 0, none⟩) (a' := ⟨bx, 1, none⟩) rfl rfl (fun _ => rfl) ?_)|(refine oLt 96 ?_; refine b0A rfl (fun _ => rfl) (fun _ => rfl) rfl hbc ?_)|(refine oLt 72 ?_; refine a8A rfl (fun _ => rfl) rfl hbc rfl ?_)|(refine cxA ?_; refine bjA rfl _ rfl rfl (by first | exact HasR.val (by assumption) | exact HasR.own | exact HasR.ownV (by assumption)) ?_)|refine wOp ?_|(refine wCm ?_ ?_<;>intro hc)|(refine wNl hK ?_;clear hK K))|refine wG ?_|(refine wCR ?_;intro K hK)|fail)
      skip
      exact a7A (k + 1, dyA vk 1 ((fst rs k, mor rs k) :: rs.drop (k + 1)).length 2, kk - (mor rs k + 1)) (fun w5 e5 => ⟨he.trans (ex.trans e5), hkl, hvt, hsel, by dsimp only; omega⟩) (by dsimp only; omega) (by repeat' (first | exact Sub.nil | refine Sub.val rfl (by first | with_reducible rfl | (congr 1; omega)) ?_ | refine Sub.same rfl ?_))
  · obtain rfl : k = rs.length := by omega
    rw [List.drop_length] at hv1 hsel
    have hs0 : mzA [] kk = (0, false) := rfl
    rw [hs0] at hsel
    rw [hsel]
    by_cases hneg : kk < 0
    all_goals
      repeat' (first|(refine oLA ?_;first|refine a0A rfl ?_|(refine oD 32 ?_; refine bjA rfl _ rfl rfl (HasR.val hv1) ?_; rw [show ((([] : List Rn).length : Nat) : Int) = 0 from rfl])|(refine oI ?_; refine axA rfl _ rfl (fun _ => rfl) rfl (by first | exact HasR.val (by assumption) | exact HasR.own | exact HasR.ownV (by assumption)) rfl (by omega) ?_)|(refine oLt 96 ?_; refine apA rfl (fun _ => rfl) (fun _ => rfl) rfl ?_)|(show LA _ _ _ _ (⟨some 7, .alloc _, _, _, _, _⟩ :: _) _; refine a4A (hK _ _ (bwA rfl rfl (by decide) (fun _ => rfl) (fun _ => rfl) (fun _ => rfl) rfl (by intro u hu; simp [Value.cells] at hu; rcases hu with rfl | rfl <;> rfl) (fun bx wx ex hbx hbc => ?_))); clear hK K; refine amA (by kernel_rfl) (fun K hK => ?_))|(refine oF 0 ?_; refine a2A (a := ⟨bx, 0, none⟩) (a' := ⟨bx, 0, none⟩) rfl rfl (fun _ => rfl) ?_)|(refine oF 1 ?_; refine a2A (a := ⟨bx, 0, none⟩) (a' := ⟨bx, 1, none⟩) rfl rfl (fun _ => rfl) ?_)|(refine oLt 96 ?_; refine b0A rfl (fun _ => rfl) (fun _ => rfl) rfl hbc ?_)|(refine oLt 72 ?_; refine a8A rfl (fun _ => rfl) rfl hbc rfl ?_)|(refine cxA ?_; refine bjA rfl _ rfl rfl (by first | exact HasR.val (by assumption) | exact HasR.own | exact HasR.ownV (by assumption)) ?_)|refine wOp ?_|(refine wCm ?_ ?_<;>intro hc)|(refine wNl hK ?_;clear hK K))|refine wG ?_|(refine wCR ?_;intro K hK)|(refine oPX ?_;first|exact bhA rfl rfl rfl he rfl rfl)|fail)
end Rsel
variable {A : Nat → Prop}
theorem shA {w : World} {va vw vr : Value} {kd : Int} {p : Nat → Bool} {k : Int} (h : SlI .u16 w va (adA p 65536)) (hk : -9223372036854775808 ≤ k ∧ k < 9223372036854775808) : Fc Tryz.prog 122 #[.agg #[.int .u8 kd, va, vw, vr], .int .i64 k] w (Ret w (.tup2 (.val (.int .u16 (gfA p k).1)) (.val (.bool (gfA p k).2)))) := by
  obtain ⟨xs, hxs⟩ : ∃ xs, xs = adA p 65536 := ⟨_, rfl⟩
  have hl : xs.length = cnt p 65536 := by rw [hxs, baA]
  have hc := cnt_le p 65536
  obtain ⟨c, hcc⟩ : ∃ c, c = cnt p 65536 := ⟨_, rfl⟩
  unfold gfA
  rw [← hxs] at h ⊢
  rw [← hcc] at hl hc ⊢
  clear hxs hcc
  by_cases h0 : k < 0
  · rw [if_neg (by omega)]
    refine Fc.of (args := [_, _]) Tryz.func122 rfl rfl Tryz.ntmps122 (Nat.le_of_ble_eq_true rfl) ?_
    repeat' (first|(refine oLA ?_;first|refine a0A rfl ?_|refine d1A ?_|refine wOp ?_|(refine wCm ?_ ?_<;>intro hc)|(refine wNl hK ?_;clear hK K))|refine wG ?_|(refine wCR ?_;intro K hK)|fail)
    all_goals skip
    all_goals exact bhA rfl rfl rfl (Ext.refl _) rfl rfl
  by_cases h1 : c ≤ k
  · rw [if_neg (by omega)]
    refine Fc.of (args := [_, _]) Tryz.func122 rfl rfl Tryz.ntmps122 (Nat.le_of_ble_eq_true rfl) ?_
    repeat' (first|(refine oLA ?_;first|refine a0A rfl ?_|refine d1A ?_|(refine cxA ?_; refine bmA rfl _ rfl rfl (by exact (HasI.val h).c) ?_)|refine wOp ?_|(refine wCm ?_ ?_<;>intro hc)|(refine wNl hK ?_;clear hK K))|refine wG ?_|(refine wCR ?_;intro K hK)|fail)
    all_goals skip
    all_goals exact bhA rfl rfl rfl (Ext.refl _) rfl rfl
  · rw [if_pos (by omega)]
    refine Fc.of (args := [_, _]) Tryz.func122 rfl rfl Tryz.ntmps122 (Nat.le_of_ble_eq_true rfl) ?_
    repeat' (first|(refine oLA ?_;first|refine a0A rfl ?_|refine d1A ?_|(refine cxA ?_; refine bmA rfl _ rfl rfl (by exact (HasI.val h).c) ?_)|(refine oI ?_; refine fqA rfl _ rfl (fun _ => rfl) rfl (by exact HasI.val h) rfl (by omega) (by omega) ?_)|refine wOp ?_|(refine wCm ?_ ?_<;>intro hc)|(refine wNl hK ?_;clear hK K))|refine wG ?_|(refine wCR ?_;intro K hK)|fail)
    all_goals skip
    all_goals exact bhA rfl rfl rfl (Ext.refl _) rfl rfl
theorem x8A (p : Nat → Bool) (k : Int) : mzA (anA p) k = gfA p k := by
  have hl : dqA (anA p) = adA p 65536 := izA p 65536
  have hn : i4A (anA p) = cnt p 65536 := ksA p 65536
  rw [nyA _ _ (fun x hx => (deA p x hx).2.2.1), hn, hl]; rfl
theorem qnA {w : World} {va vw vr : Value} {kd : Int} {p : Nat → Bool} {k : Int} (h : SlI .u64 w vw (wordsOf p)) (hT : Tab w) (hk : -9223372036854775808 ≤ k ∧ k < 9223372036854775808) : Fc Tryz.prog 123 #[.agg #[.int .u8 kd, va, vw, vr], .int .i64 k] w (Ret w (.tup2 (.val (.int .u16 (gfA p k).1)) (.val (.bool (gfA p k).2)))) := by
  refine Fc.of (args := [_, _]) Tryz.func123 rfl rfl Tryz.ntmps123 (Nat.le_of_ble_eq_true rfl) ?_
  repeat' (first|(refine oLA ?_;first|refine a0A rfl ?_|refine d1A ?_|refine wOp ?_|(refine wCm ?_ ?_<;>intro hc)|(refine oCv ?_;first|(refine oC 173 ?_; refine a3A (f := 173) rfl rfl rfl rfl  (.tup2 (.val (.int .u16 (gfA p k).1)) (.val (.bool (gfA p k).2))) (by intro u1 u2 w e hu1 hu2; (try obtain rfl : u1 = _ := hu1); (try obtain rfl : u2 = _ := hu2); exact wselP _ _ p (h.ext e) (hT.ext e) k hk) ?_))|(refine wNl hK ?_;clear hK K))|refine wG ?_|(refine wCR ?_;intro K hK)|fail)
  all_goals skip
  all_goals exact bhA rfl rfl rfl (Ext.refl _) rfl rfl
theorem qyA {w : World} {va vw vr : Value} {kd : Int} {p : Nat → Bool} {k : Int} (h : SlR w vr (anA p)) (hk : -9223372036854775808 ≤ k ∧ k < 9223372036854775808) : Fc Tryz.prog 124 #[.agg #[.int .u8 kd, va, vw, vr], .int .i64 k] w (Ret w (.tup2 (.val (.int .u16 (gfA p k).1)) (.val (.bool (gfA p k).2)))) := by
  rw [← x8A]
  refine Fc.of (args := [_, _]) Tryz.func124 rfl rfl Tryz.ntmps124 (Nat.le_of_ble_eq_true rfl) ?_
  repeat' (first|(refine oLA ?_;first|refine a0A rfl ?_|refine d1A ?_|refine wOp ?_|(refine wCm ?_ ?_<;>intro hc)|(refine oCv ?_;first|(refine oC 174 ?_; refine a3A (f := 174) rfl rfl rfl rfl  (.tup2 (.val (.int .u16 (mzA (anA p) k).1)) (.val (.bool (mzA (anA p) k).2))) (by intro u1 u2 w e hu1 hu2; (try obtain rfl : u1 = _ := hu1); (try obtain rfl : u2 = _ := hu2); exact Rsel.rselR_c _ _ (anA p) k (h.ext e) (deA p) (dlA p) hk) ?_))|(refine wNl hK ?_;clear hK K))|refine wG ?_|(refine wCR ?_;intro K hK)|fail)
  all_goals skip
  all_goals exact bhA rfl rfl rfl (Ext.refl _) rfl rfl
end Go.Proofs.YtfcioiobhpcngaaGreatDoor
end
section
set_option linter.unusedSimpArgs false
set_option linter.unusedVariables false
set_option maxRecDepth 3000
namespace Go.Proofs.YtfcioiobhpcngaaGreatDoor
open Go.LA Go.ArrP Go.RowKit
variable {A : Nat → Prop}
theorem sel_c {w : World} {v : Value} {p : Nat → Bool} {kk : Int} {k : Int} (h : Cn A w v p kk) (hT : Tab w) (hk' : -9223372036854775808 ≤ k ∧ k < 9223372036854775808) : Fc Tryz.prog 67 #[v, .int .i64 k] w (Ret w (.tup2 (.val (.int .u16 (gfA p k).1)) (.val (.bool (gfA p k).2)))) := by
  have hk : ∀ w', Ext w w' → _ := fun w' e => e7A (h.ext e)
  obtain ⟨hp, ⟨rfl, kd, va, hkd, rfl, ho⟩ | ⟨rfl, vw, rfl, ho⟩ | ⟨rfl, vr, rfl, ho⟩⟩ := h
  · skip
    refine Fc.of (args := [_, _]) Tryz.func67 rfl rfl Tryz.ntmps67 (Nat.le_of_ble_eq_true rfl) ?_
    repeat' (first|(refine oLA ?_;first|refine a0A rfl ?_|refine d1A ?_|refine bnA (c := .agg #[.nilFunc, .func (.func 122) #[] #[], .func (.func 123) #[] #[], .func (.func 124) #[] #[]]) rfl rfl rfl rfl (fun _ => by kernel_rfl) ?_|(refine cmA 1 (c := .func (.func 122) #[] #[]) rfl rfl (fun _ => rfl) rfl rfl rfl (by decide) (fun _ => by kernel_rfl) ?_)|refine wOp ?_|(refine wCm ?_ ?_<;>intro hc)|(refine oCv ?_;first|(refine oC 82 ?_; refine a1A (f := 82) rfl rfl rfl _ (by intro u1 w' e hu1; obtain rfl : u1 = _ := hu1; exact hk w' e) ?_)|(refine a3A (f := 122) rfl rfl rfl rfl (.tup2 (.val (.int .u16 (gfA p k).1)) (.val (.bool (gfA p k).2))) (by intro u1 u2 w' e hu1 hu2; obtain rfl : u1 = _ := hu1; obtain rfl : u2 = _ := hu2;exact shA (ho.ext e).slI hk') ?_))|(refine wNl hK ?_;clear hK K))|refine wG ?_|(refine wCR ?_;intro K hK)|fail)
    all_goals skip
    all_goals exact bhA rfl rfl rfl (Ext.refl _) rfl rfl
  · skip
    refine Fc.of (args := [_, _]) Tryz.func67 rfl rfl Tryz.ntmps67 (Nat.le_of_ble_eq_true rfl) ?_
    repeat' (first|(refine oLA ?_;first|refine a0A rfl ?_|refine d1A ?_|refine bnA (c := .agg #[.nilFunc, .func (.func 122) #[] #[], .func (.func 123) #[] #[], .func (.func 124) #[] #[]]) rfl rfl rfl rfl (fun _ => by kernel_rfl) ?_|(refine cmA 2 (c := .func (.func 123) #[] #[]) rfl rfl (fun _ => rfl) rfl rfl rfl (by decide) (fun _ => by kernel_rfl) ?_)|refine wOp ?_|(refine wCm ?_ ?_<;>intro hc)|(refine oCv ?_;first|(refine oC 82 ?_; refine a1A (f := 82) rfl rfl rfl _ (by intro u1 w' e hu1; obtain rfl : u1 = _ := hu1; exact hk w' e) ?_)|(refine a3A (f := 123) rfl rfl rfl rfl (.tup2 (.val (.int .u16 (gfA p k).1)) (.val (.bool (gfA p k).2))) (by intro u1 u2 w' e hu1 hu2; obtain rfl : u1 = _ := hu1; obtain rfl : u2 = _ := hu2;exact qnA (ho.ext e).slI (hT.ext e) hk') ?_))|(refine wNl hK ?_;clear hK K))|refine wG ?_|(refine wCR ?_;intro K hK)|fail)
    all_goals skip
    all_goals exact bhA rfl rfl rfl (Ext.refl _) rfl rfl
  · skip
    refine Fc.of (args := [_, _]) Tryz.func67 rfl rfl Tryz.ntmps67 (Nat.le_of_ble_eq_true rfl) ?_
    repeat' (first|(refine oLA ?_;first|refine a0A rfl ?_|refine d1A ?_|refine bnA (c := .agg #[.nilFunc, .func (.func 122) #[] #[], .func (.func 123) #[] #[], .func (.func 124) #[] #[]]) rfl rfl rfl rfl (fun _ => by kernel_rfl) ?_|(refine cmA 3 (c := .func (.func 124) #[] #[]) rfl rfl (fun _ => rfl) rfl rfl rfl (by decide) (fun _ => by kernel_rfl) ?_)|refine wOp ?_|(refine wCm ?_ ?_<;>intro hc)|(refine oCv ?_;first|(refine oC 82 ?_; refine a1A (f := 82) rfl rfl rfl _ (by intro u1 w' e hu1; obtain rfl : u1 = _ := hu1; exact hk w' e) ?_)|(refine a3A (f := 124) rfl rfl rfl rfl (.tup2 (.val (.int .u16 (gfA p k).1)) (.val (.bool (gfA p k).2))) (by intro u1 u2 w' e hu1 hu2; obtain rfl : u1 = _ := hu1; obtain rfl : u2 = _ := hu2;exact qyA (ho.ext e).slR hk') ?_))|(refine wNl hK ?_;clear hK K))|refine wG ?_|(refine wCR ?_;intro K hK)|fail)
    all_goals skip
    all_goals exact bhA rfl rfl rfl (Ext.refl _) rfl rfl
end Go.Proofs.YtfcioiobhpcngaaGreatDoor
end
section
set_option linter.unusedSimpArgs false
set_option linter.unusedVariables false
set_option maxRecDepth 3000
namespace Go.Proofs.YtfcioiobhpcngaaGreatDoor
open Go.LA Go.ArrP Go.RowKit
theorem xkA {w : World} {ba bb na ca nb cb ga gb : Nat} {xs ys : List Value} (ha : Own ba 72 1 w (.slice (some ⟨ga, 0, none⟩) na ca) na xs) (hb : Own bb 72 1 w (.slice (some ⟨gb, 0, none⟩) nb cb) nb ys) (hcb : 0 < cb) (hne : ga ≠ gb) (o l' c' : Nat) :
    (callFunc 129 #[.slice (some ⟨ga, 0, none⟩) na ca, .slice (some ⟨gb, o, none⟩) l' c']).run Tryz.prog w = .ok (.value (.bool false)) w := by
  rw [run_callFunc_extern Tryz.func129 (by kernel_rfl) (by kernel_rfl) (by kernel_rfl) (e := Extern.SlicesOverlaps.overlaps #[52, 52] #[4]) (by kernel_rfl), ejA rfl (fun _ => rfl) (by decide) ha hb hcb hne]
  rfl
theorem rtA (w : World) (base bu : Nat) (v u : Value) (n i : Nat) (cs xs : List Value) (ho : Own base 72 1 w v n cs) (hu : Own bu 72 1 w u 1 xs) (hi : i ≤ n) 
    (hap : ∀ k, u.ownBlock = some k → v.ownBlock ≠ some k) (h1c : ∀ c ∈ cs, c.oneCell' = true) (h1 : ∀ c ∈ xs, c.oneCell' = true) (hn : n ≤ 70368744177663) (hb : (n + 1) * 2 ≤ 140737488355328) :
    Fc Tryz.prog 88 #[v, .int .i64 i, u] w (fun en w' => ∃ v', en = .returned v' ∧ Own 0 72 1 w' v' (n + 1) (cs.take (i * 1) ++ xs ++ cs.drop (i * 1)) ∧ Fr (fun k => v.ownBlock = some k) w w' ∧ LocR w v v') := by
  have hs := ho.slC
  have hsu := hu.slC
  have hcl := ho.1
  have hxl := hu.1
  by_cases hin : i = n
  · refine Fc.of (args := [_, _, _]) Tryz.func88 rfl rfl Tryz.ntmps88 (Nat.le_of_ble_eq_true rfl) ?_
    subst hin
    repeat' (first|(refine oLA ?_;first|refine a0A rfl ?_|(refine a4A (hK _ _ (dcA rfl (by decide) ctA rfl ho rfl (HasC.val hsu) h1 (by unfold maxLen; omega) hb (fun v' w2 w3 he2 ho3 hg3 hl3 => ?_))); clear hK K; dsimp only [vals]; refine amA (by kernel_rfl) (fun K hK => ?_))|refine wOp ?_|(refine wCm ?_ ?_<;>intro hc)|(refine wNl hK ?_;clear hK K))|refine wG ?_|(refine wCR ?_;intro K hK)|fail)
    refine bsA rfl (fun v5 w5 e5 h5 => ?_)
    obtain rfl : v5 = _ := h5
    refine ⟨_, rfl, ?_, ?_, hl3.le he2.size⟩
    · rw [List.take_of_length_le (by omega), List.drop_of_length_le (by omega), List.append_nil]
      exact ho3.ext e5
    · exact Fr.grown (f6A (e8A he2 hg3.grownBy) e5)
  · have hlt : i < n := by omega
    rcases ho.2 with ⟨_, h0⟩ | ⟨gb, cap, cur, rfl, hgb, hg, hnc, hm, hsz, htake⟩
    · omega
    rcases hu.2 with ⟨_, h0⟩ | ⟨gu, capu, curu, rfl, hgub, hgu, hncu, hmu, hszu, htakeu⟩
    · omega
    have hne : gu ≠ gb := fun e => hap gu rfl (by rw [e]; rfl)
    have hst : ∀ c ∈ cs.drop (i * 1), c.oneCell' = true := fun c hc => h1c c (List.mem_of_mem_drop hc)
    by_cases hroom : n + 1 ≤ cap
    · obtain ⟨zs, hzl, hmore⟩ := ho.more 1 hroom
      have hsl := hmore.slC
      have hsub : dyA (.slice (some ⟨gb, 0, none⟩) (n + 1) cap) (i + 1) (n + 1) 1 = .slice (some ⟨gb, (i + 1) * 1, none⟩) (n + 1 - (i + 1)) (cap - (i + 1)) := ecA (by omega)
      refine Fc.of (args := [_, _, _]) Tryz.func88 rfl rfl Tryz.ntmps88 (Nat.le_of_ble_eq_true rfl) ?_
      repeat' (first|(refine oLA ?_;first|refine a0A rfl ?_|refine hsA rfl rfl rfl ?_|(refine f0A rfl _ rfl rfl rfl (by omega) (by omega) (by omega) (fun _ => rfl) ?_; rw [show ((n : Int) + ((1 : Nat) : Int)).toNat = n + 1 by omega])|(refine ceA rfl _ rfl rfl (HasC.val hsl) rfl (by omega) (by omega) (by exact fun _ => rfl) ?_; rw [show ((i : Int) + ((1 : Nat) : Int)).toNat = i + 1 by omega])|refine q8A (f := 129) (c := .bool false) rfl rfl rfl rfl (fun w2 e2 => by rw [hsub]; exact xkA (hu.ext e2) (ho.ext e2) (by omega) hne _ _ _) ?_|(refine a4A (hK _ _ rfl (egA (i + 1) rfl (by intro q h; cases h; decide) ctA rfl rfl hmore (hsl.sub (Nat.le_of_lt (by omega)) (Nat.le_refl _)) (by omega) (by rw [lpA hlt hcl hzl]; exact hst) (fun w2 w3 e2 ho3 hg3 => ?_))); clear hK K; dsimp only [vals]; have hu3 := ((hu.ext e2).kept hg3 (.inr (fun q => hne (by injection q)))); refine amA (by kernel_rfl) (fun K hK => ?_))|(refine a4A (hK _ _ (egA i rfl (by intro q h; cases h; decide) ctA rfl rfl ho3 hu3.slC (by omega) (fun c hc => h1 c (List.mem_of_mem_take hc)) (fun w4 w5 e4 ho5 hg5 => ?_))); clear hK K; dsimp only [vals]; refine amA (by kernel_rfl) (fun K hK => ?_))|refine wOp ?_|(refine wCm ?_ ?_<;>intro hc)|(refine wNl hK ?_;clear hK K))|(refine oCX ?_;first|refine dnA 8 (by kernel_rfl) (by kernel_rfl) (by decide) (fun K hK => ?_))|refine wG ?_|(refine wCR ?_;intro K hK)|fail)
      refine bsA rfl (fun v6 w6 e6 h6 => ?_)
      obtain rfl : v6 = _ := h6
      refine ⟨_, rfl, ?_, ?_, LocR.refl⟩
      · have h7 := ho5.ext e6
        rw [gtA hlt hcl (by omega) hzl] at h7
        exact h7.base (Nat.zero_le _)
      · exact Fr.grown (f6A (hdA (e8A e2 hg3) (e8A e4 hg5)) e6)
    · refine Fc.of (args := [_, _, _]) Tryz.func88 rfl rfl Tryz.ntmps88 (Nat.le_of_ble_eq_true rfl) ?_
      repeat' (first|(refine oLA ?_;first|refine a0A rfl ?_|refine hsA rfl rfl rfl ?_|(refine f0A rfl _ rfl rfl rfl (by omega) (by omega) (by omega) (fun _ => rfl) ?_; rw [Int.toNat_natCast])|(refine a4A (hK _ _ (ehA (kn := n + 1 - i) rfl (by decide) ctA rfl rfl rfl (isA ho i hi).slC (by omega) (by omega) (by omega) (by decide) (by rw [show i + (n + 1 - i) = n + 1 by omega]; exact hb) (by omega) (fun v' w2 w3 zs e2 hzl hz1 ho3 e3 => ?_))); clear hK K; rw [show i + (n + 1 - i) = n + 1 by omega] at ho3; have x3 := e2.trans e3; have hs3 := hs.ext x3; dsimp only [vals]; refine amA (by kernel_rfl) (fun K hK => ?_))|(refine ceA rfl _ rfl rfl (HasC.ownV ho3) rfl (by omega) (by omega) (by exact fun _ => rfl) ?_; rw [Int.toNat_natCast])|(refine a4A (hK _ _ (egA i rfl (by intro q h; cases h; decide) ctA rfl rfl ho3 (hu.ext x3).slC (by omega) (fun c hc => h1 c (List.mem_of_mem_take hc)) (fun w4 w5 e4 ho5 hg5 => ?_))); clear hK K; have x5 := (x3.trans e4).grown hg5 (fun q hq => Nat.le_trans e2.size (Own.lt ho3 q hq).1); have hs5 := hs.ext x5; dsimp only [vals]; refine amA (by kernel_rfl) (fun K hK => ?_))|(refine ceA rfl _ rfl rfl (HasC.ownV ho5) rfl (by omega) (by omega) (by exact fun _ => rfl) ?_; rw [show ((i : Int) + ((1 : Nat) : Int)).toNat = i + 1 by omega])|(refine ceA rfl _ rfl rfl (HasC.val hs5) rfl (by omega) (by omega) (by exact fun _ => rfl) ?_; rw [Int.toNat_natCast])|(refine a4A (hK _ _ rfl (egA (i + 1) rfl (by intro q h; cases h; decide) ctA rfl rfl ho5 (hs5.sub (Nat.le_of_lt hlt) (Nat.le_refl _)) (by omega) (by rw [List.take_of_length_le (by omega : cs.length ≤ n * 1)]; exact fun c hc => hst c (List.mem_of_mem_take hc)) (fun w6 w7 e6 ho7 hg7 => ?_))); clear hK K; dsimp only [vals]; refine amA (by kernel_rfl) (fun K hK => ?_))|refine wOp ?_|(refine wCm ?_ ?_<;>intro hc)|(refine wNl hK ?_;clear hK K))|(refine oCX ?_;first|refine dnA 8 (by kernel_rfl) (by kernel_rfl) (by decide) (fun K hK => ?_))|refine wG ?_|(refine wCR ?_;intro K hK)|fail)
      refine bsA rfl (fun v8 w8 e8 h8 => ?_)
      obtain rfl : v8 = _ := h8
      refine ⟨_, rfl, ?_, ?_, .inr fun k hk => Nat.le_trans e2.size (Own.lt ho7 k hk).1⟩
      · have h9 := ho7.ext e8
        have ed : (cs.take (n * 1)).drop (i * 1) = cs.drop (i * 1) := by rw [List.take_of_length_le (by omega)]
        rw [ed, i7A hlt (by rw [List.length_take]; exact Nat.min_eq_left (by rw [hcl]; exact Nat.mul_le_mul_right _ hi)) (by omega) hzl (by rw [List.length_drop, hcl, Nat.sub_mul])] at h9
        exact Own.base h9 (Nat.zero_le _)
      · exact Fr.grown (k6A _ (((x5.trans e6).grown hg7 (fun q hq => Nat.le_trans e2.size (Own.lt ho3 q hq).1)).trans e8))
end Go.Proofs.YtfcioiobhpcngaaGreatDoor
end
section
set_option linter.unusedSimpArgs false
set_option linter.unusedVariables false
set_option maxRecDepth 3000
namespace Go.Proofs.YtfcioiobhpcngaaGreatDoor
open Go.LA Go.ArrP Go.RowKit
theorem eaA : El Tryz.prog 53 65 (.agg #[.int .u8 0, .slice none 0 0, .slice none 0 0, .slice none 0 0]) 4 80 := ⟨rfl, rfl, rfl, by decide⟩
theorem xjA {w : World} {ba bb na ca nb cb ga gb : Nat} {xs ys : List Value} (ha : Own ba 65 4 w (.slice (some ⟨ga, 0, none⟩) na ca) na xs) (hb : Own bb 65 4 w (.slice (some ⟨gb, 0, none⟩) nb cb) nb ys) (hcb : 0 < cb) (hne : ga ≠ gb) (o l' c' : Nat) :
    (callFunc 131 #[.slice (some ⟨ga, 0, none⟩) na ca, .slice (some ⟨gb, o, none⟩) l' c']).run Tryz.prog w = .ok (.value (.bool false)) w := by
  rw [run_callFunc_extern Tryz.func131 (by kernel_rfl) (by kernel_rfl) (by kernel_rfl) (e := Extern.SlicesOverlaps.overlaps #[53, 53] #[4]) (by kernel_rfl), ejA rfl (fun _ => rfl) (by decide) ha hb hcb hne]
  rfl
theorem rsA (w : World) (base bu : Nat) (v u : Value) (n i : Nat) (cs xs : List Value) (ho : Own base 65 4 w v n cs) (hu : Own bu 65 4 w u 1 xs) (hi : i ≤ n) 
    (hap : ∀ k, u.ownBlock = some k → v.ownBlock ≠ some k) (h1c : ∀ c ∈ cs, c.oneCell' = true) (h1 : ∀ c ∈ xs, c.oneCell' = true) (hn : n ≤ 70368744177663) (hb : (n + 1) * 80 ≤ 140737488355328) :
    Fc Tryz.prog 89 #[v, .int .i64 i, u] w (fun en w' => ∃ v', en = .returned v' ∧ Own 0 65 4 w' v' (n + 1) (cs.take (i * 4) ++ xs ++ cs.drop (i * 4)) ∧ Fr (fun k => v.ownBlock = some k) w w' ∧ LocR w v v') := by
  have hs := ho.slC
  have hsu := hu.slC
  have hcl := ho.1
  have hxl := hu.1
  by_cases hin : i = n
  · refine Fc.of (args := [_, _, _]) Tryz.func89 rfl rfl Tryz.ntmps89 (Nat.le_of_ble_eq_true rfl) ?_
    subst hin
    repeat' (first|(refine oLA ?_;first|refine a0A rfl ?_|(refine a4A (hK _ _ (dcA rfl (by decide) eaA rfl ho rfl (HasC.val hsu) h1 (by unfold maxLen; omega) hb (fun v' w2 w3 he2 ho3 hg3 hl3 => ?_))); clear hK K; dsimp only [vals]; refine amA (by kernel_rfl) (fun K hK => ?_))|refine wOp ?_|(refine wCm ?_ ?_<;>intro hc)|(refine wNl hK ?_;clear hK K))|refine wG ?_|(refine wCR ?_;intro K hK)|fail)
    refine bsA rfl (fun v5 w5 e5 h5 => ?_)
    obtain rfl : v5 = _ := h5
    refine ⟨_, rfl, ?_, ?_, hl3.le he2.size⟩
    · rw [List.take_of_length_le (by omega), List.drop_of_length_le (by omega), List.append_nil]
      exact ho3.ext e5
    · exact Fr.grown (f6A (e8A he2 hg3.grownBy) e5)
  · have hlt : i < n := by omega
    rcases ho.2 with ⟨_, h0⟩ | ⟨gb, cap, cur, rfl, hgb, hg, hnc, hm, hsz, htake⟩
    · omega
    rcases hu.2 with ⟨_, h0⟩ | ⟨gu, capu, curu, rfl, hgub, hgu, hncu, hmu, hszu, htakeu⟩
    · omega
    have hne : gu ≠ gb := fun e => hap gu rfl (by rw [e]; rfl)
    have hst : ∀ c ∈ cs.drop (i * 4), c.oneCell' = true := fun c hc => h1c c (List.mem_of_mem_drop hc)
    by_cases hroom : n + 1 ≤ cap
    · obtain ⟨zs, hzl, hmore⟩ := ho.more 1 hroom
      have hsl := hmore.slC
      have hsub : dyA (.slice (some ⟨gb, 0, none⟩) (n + 1) cap) (i + 1) (n + 1) 4 = .slice (some ⟨gb, (i + 1) * 4, none⟩) (n + 1 - (i + 1)) (cap - (i + 1)) := ecA (by omega)
      refine Fc.of (args := [_, _, _]) Tryz.func89 rfl rfl Tryz.ntmps89 (Nat.le_of_ble_eq_true rfl) ?_
      repeat' (first|(refine oLA ?_;first|refine a0A rfl ?_|refine hsA rfl rfl rfl ?_|(refine f0A rfl _ rfl rfl rfl (by omega) (by omega) (by omega) (fun _ => rfl) ?_; rw [show ((n : Int) + ((1 : Nat) : Int)).toNat = n + 1 by omega])|(refine ceA rfl _ rfl rfl (HasC.val hsl) rfl (by omega) (by omega) (by exact fun _ => rfl) ?_; rw [show ((i : Int) + ((1 : Nat) : Int)).toNat = i + 1 by omega])|refine q8A (f := 131) (c := .bool false) rfl rfl rfl rfl (fun w2 e2 => by rw [hsub]; exact xjA (hu.ext e2) (ho.ext e2) (by omega) hne _ _ _) ?_|(refine a4A (hK _ _ rfl (egA (i + 1) rfl (by intro q h; cases h; decide) eaA rfl rfl hmore (hsl.sub (Nat.le_of_lt (by omega)) (Nat.le_refl _)) (by omega) (by rw [lpA hlt hcl hzl]; exact hst) (fun w2 w3 e2 ho3 hg3 => ?_))); clear hK K; dsimp only [vals]; have hu3 := ((hu.ext e2).kept hg3 (.inr (fun q => hne (by injection q)))); refine amA (by kernel_rfl) (fun K hK => ?_))|(refine a4A (hK _ _ (egA i rfl (by intro q h; cases h; decide) eaA rfl rfl ho3 hu3.slC (by omega) (fun c hc => h1 c (List.mem_of_mem_take hc)) (fun w4 w5 e4 ho5 hg5 => ?_))); clear hK K; dsimp only [vals]; refine amA (by kernel_rfl) (fun K hK => ?_))|refine wOp ?_|(refine wCm ?_ ?_<;>intro hc)|(refine wNl hK ?_;clear hK K))|(refine oCX ?_;first|refine dnA 8 (by kernel_rfl) (by kernel_rfl) (by decide) (fun K hK => ?_))|refine wG ?_|(refine wCR ?_;intro K hK)|fail)
      refine bsA rfl (fun v6 w6 e6 h6 => ?_)
      obtain rfl : v6 = _ := h6
      refine ⟨_, rfl, ?_, ?_, LocR.refl⟩
      · have h7 := ho5.ext e6
        rw [gtA hlt hcl (by omega) hzl] at h7
        exact h7.base (Nat.zero_le _)
      · exact Fr.grown (f6A (hdA (e8A e2 hg3) (e8A e4 hg5)) e6)
    · refine Fc.of (args := [_, _, _]) Tryz.func89 rfl rfl Tryz.ntmps89 (Nat.le_of_ble_eq_true rfl) ?_
      repeat' (first|(refine oLA ?_;first|refine a0A rfl ?_|refine hsA rfl rfl rfl ?_|(refine f0A rfl _ rfl rfl rfl (by omega) (by omega) (by omega) (fun _ => rfl) ?_; rw [Int.toNat_natCast])|(refine a4A (hK _ _ (ehA (kn := n + 1 - i) rfl (by decide) eaA rfl rfl rfl (isA ho i hi).slC (by omega) (by omega) (by omega) (by decide) (by rw [show i + (n + 1 - i) = n + 1 by omega]; exact hb) (by omega) (fun v' w2 w3 zs e2 hzl hz1 ho3 e3 => ?_))); clear hK K; rw [show i + (n + 1 - i) = n + 1 by omega] at ho3; have x3 := e2.trans e3; have hs3 := hs.ext x3; dsimp only [vals]; refine amA (by kernel_rfl) (fun K hK => ?_))|(refine ceA rfl _ rfl rfl (HasC.ownV ho3) rfl (by omega) (by omega) (by exact fun _ => rfl) ?_; rw [Int.toNat_natCast])|(refine a4A (hK _ _ (egA i rfl (by intro q h; cases h; decide) eaA rfl rfl ho3 (hu.ext x3).slC (by omega) (fun c hc => h1 c (List.mem_of_mem_take hc)) (fun w4 w5 e4 ho5 hg5 => ?_))); clear hK K; have x5 := (x3.trans e4).grown hg5 (fun q hq => Nat.le_trans e2.size (Own.lt ho3 q hq).1); have hs5 := hs.ext x5; dsimp only [vals]; refine amA (by kernel_rfl) (fun K hK => ?_))|(refine ceA rfl _ rfl rfl (HasC.ownV ho5) rfl (by omega) (by omega) (by exact fun _ => rfl) ?_; rw [show ((i : Int) + ((1 : Nat) : Int)).toNat = i + 1 by omega])|(refine ceA rfl _ rfl rfl (HasC.val hs5) rfl (by omega) (by omega) (by exact fun _ => rfl) ?_; rw [Int.toNat_natCast])|(refine a4A (hK _ _ rfl (egA (i + 1) rfl (by intro q h; cases h; decide) eaA rfl rfl ho5 (hs5.sub (Nat.le_of_lt hlt) (Nat.le_refl _)) (by omega) (by rw [List.take_of_length_le (by omega : cs.length ≤ n * 4)]; exact fun c hc => hst c (List.mem_of_mem_take hc)) (fun w6 w7 e6 ho7 hg7 => ?_))); clear hK K; dsimp only [vals]; refine amA (by kernel_rfl) (fun K hK => ?_))|refine wOp ?_|(refine wCm ?_ ?_<;>intro hc)|(refine wNl hK ?_;clear hK K))|(refine oCX ?_;first|refine dnA 8 (by kernel_rfl) (by kernel_rfl) (by decide) (fun K hK => ?_))|refine wG ?_|(refine wCR ?_;intro K hK)|fail)
      refine bsA rfl (fun v8 w8 e8 h8 => ?_)
      obtain rfl : v8 = _ := h8
      refine ⟨_, rfl, ?_, ?_, .inr fun k hk => Nat.le_trans e2.size (Own.lt ho7 k hk).1⟩
      · have h9 := ho7.ext e8
        have ed : (cs.take (n * 4)).drop (i * 4) = cs.drop (i * 4) := by rw [List.take_of_length_le (by omega)]
        rw [ed, i7A hlt (by rw [List.length_take]; exact Nat.min_eq_left (by rw [hcl]; exact Nat.mul_le_mul_right _ hi)) (by omega) hzl (by rw [List.length_drop, hcl, Nat.sub_mul])] at h9
        exact Own.base h9 (Nat.zero_le _)
      · exact Fr.grown (k6A _ (((x5.trans e6).grown hg7 (fun q hq => Nat.le_trans e2.size (Own.lt ho3 q hq).1)).trans e8))
abbrev tS : Nat := 55
abbrev tK : Nat := 72
abbrev Qd := Int × Value × Value × Value
def qv (q : Qd) : Value := .agg #[.int .u8 q.1, q.2.1, q.2.2.1, q.2.2.2]
def qcs (q : Qd) : List Value := [.int .u8 q.1, q.2.1, q.2.2.1, q.2.2.2]
def q0 : Qd := (0, nilS, nilS, nilS)
def bbA : List Qd → List Value
  | [] => []
  | q :: r => .int .u8 q.1 :: q.2.1 :: q.2.2.1 :: q.2.2.2 :: bbA r
theorem dmA : ∀ a b, bbA (a ++ b) = bbA a ++ bbA b
  | [], b => rfl
  | x :: a, b => by simp only [List.cons_append, bbA, dmA a b]
theorem hiA : ∀ (a : List Qd) (j : Nat), j < a.length → ((bbA a).drop (j * 4)).take 4 = qcs (a.getD j q0)
  | [], j, h => by simp at h
  | x :: a, 0, _ => rfl
  | x :: a, j + 1, h => by
    have ih := hiA a j (by simpa using h)
    rw [show (j + 1) * 4 = j * 4 + 4 by omega]
    exact ih
theorem fgA : ∀ (a : List Qd) (j : Nat), bbA (a.take j) = (bbA a).take (j * 4)
  | [], j => by simp [bbA]
  | x :: a, 0 => by simp [bbA]
  | x :: a, j + 1 => by
    rw [show (j + 1) * 4 = j * 4 + 1 + 1 + 1 + 1 by omega]
    simp only [List.take_succ_cons, bbA, fgA a j]
theorem fhA : ∀ (a : List Qd) (j : Nat), bbA (a.drop j) = (bbA a).drop (j * 4)
  | [], j => by simp [bbA]
  | x :: a, 0 => by simp [bbA]
  | x :: a, j + 1 => by
    rw [show (j + 1) * 4 = j * 4 + 1 + 1 + 1 + 1 by omega]
    simp only [List.drop_succ_cons, bbA, fhA a j]
theorem n5A (a : List Qd) (j : Nat) (q : Qd) (h : j < a.length) : bbA (a.set j q) = (bbA a).take (j * 4) ++ qcs q ++ (bbA a).drop (j * 4 + 4) := by
  rw [List.set_eq_take_append_cons_drop, if_pos h, dmA, fgA, show q :: a.drop (j + 1) = [q] ++ a.drop (j + 1) from rfl, dmA, fhA, show (j + 1) * 4 = j * 4 + 4 by omega, List.append_assoc]
  rfl
theorem icA : ∀ (a : List Qd), ∀ u ∈ bbA a, ∃ j, j < a.length ∧ u ∈ qcs (a.getD j q0)
  | [], u, h => by cases h
  | x :: a, u, h => by
    have h' : u ∈ qcs x ++ bbA a := h
    rcases List.mem_append.1 h' with h1 | h1
    · exact ⟨0, by simp, h1⟩
    · obtain ⟨j, h2, h3⟩ := icA a u h1
      exact ⟨j + 1, by simpa using h2, h3⟩
theorem Cn.qd {A : Nat → Prop} {w : World} {v : Value} {p : Nat → Bool} {kk : Int} (h : Cn A w v p kk) : ∃ q : Qd, v = qv q ∧ (∀ u ∈ qcs q, u.oneCell' = true) := by
  obtain ⟨kd, va, vw, vr, rfl, -, -, -, -, -, -, h1⟩ := h.parts
  exact ⟨(kd, va, vw, vr), rfl, h1⟩
theorem Cn.mono {A A' : Nat → Prop} {w : World} {v : Value} {p : Nat → Bool} {kk : Int} (h : Cn A w v p kk) (hA : ∀ k, k < w.heap.size → A k → A' k) : Cn A' w v p kk := by
  obtain ⟨hp, ⟨h1, kd, va, h2, h3, h4⟩ | h | h⟩ := h
  · exact ⟨hp, .inl ⟨h1, kd, va, h2, h3, h4.1, fun b hb => hA b (Own.lt h4.1 b hb).2 (h4.2 b hb)⟩⟩
  · exact ⟨hp, .inr (.inl h)⟩
  · exact ⟨hp, .inr (.inr h)⟩
def Plain (A R : Nat → Prop) (w : World) : Prop := ∀ k, R k → ∃ cur e j, w.heap[k]? = some (.cells cur e j) ∧ 22 ≠ e ∧ 96 ≠ e ∧ (A k → 72 ≠ e)
theorem Cn.fr {A R : Nat → Prop} {w w' : World} {v : Value} {p : Nat → Bool} {kk : Int} (h : Cn A w v p kk) (hf : Fr R w w') (hR : Plain A R w) : Cn A w' v p kk := by
  obtain ⟨hp, ⟨h1, kd, va, h2, h3, h4⟩ | ⟨h1, vw, h3, h4⟩ | ⟨h1, vr, h3, h4⟩⟩ := h
  · refine ⟨hp, .inl ⟨h1, kd, va, h2, h3, hf.own h4.1 (fun k hk hr => ?_), h4.2⟩⟩
    obtain ⟨cur, e, j, hb, ne1, ne2, ne3⟩ := hR k hr
    exact Own.apart h4.1 hb (ne3 (h4.2 k hk)) hk
  · refine ⟨hp, .inr (.inl ⟨h1, vw, h3, hf.own h4 (fun k hk hr => ?_)⟩)⟩
    obtain ⟨cur, e, j, hb, ne1, ne2, ne3⟩ := hR k hr
    exact Own.apart h4 hb ne1 hk
  · refine ⟨hp, .inr (.inr ⟨h1, vr, h3, hf.own h4 (fun k hk hr => ?_)⟩)⟩
    obtain ⟨cur, e, j, hb, ne1, ne2, ne3⟩ := hR k hr
    exact Own.apart h4 hb ne2 hk
structure RS (A : Nat → Prop) (w : World) (b : Nat) (kv lv : Value) (p : Nat → Bool) : Prop where
  hb : w.heap[b]? = some (.cells #[kv, lv] tS (0, 0))
  hk : OwnI 0 tK .u16 w kv (b7A p)
  top : ∀ x, TOP ≤ x → p x = false
  hl : ∃ Q : List Qd, Q.length = nk p ∧ Own 0 tC 4 w lv (nk p) (bbA Q) ∧ ∀ i, i < nk p → Cn (fun k => A k ∧ kv.ownBlock ≠ some k) w (qv (Q.getD i q0)) (blk p (kp p i)) (aqA (blk p (kp p i)))
def onw (b : Nat) (kv lv : Value) (k : Nat) : Prop := k = b ∨ kv.ownBlock = some k ∨ lv.ownBlock = some k
theorem RS.ext {A : Nat → Prop} {w w' : World} {b : Nat} {kv lv : Value} {p : Nat → Bool} (h : RS A w b kv lv p) (e : Ext w w') : RS A w' b kv lv p := by
  obtain ⟨Q, h1, h2, h3⟩ := h.hl
  exact ⟨e.block h.hb, h.hk.ext e, h.top, Q, h1, h2.ext e, fun i hi => (h3 i hi).ext e⟩
theorem c3A {base e s n : Nat} {w : World} {v : Value} {cs : List Value} (h : Own base e s w v n cs) {k : Nat} (hk : v.ownBlock = some k) : ∃ cur, w.heap[k]? = some (.cells cur e (0, 0)) := by
  rcases h.2 with ⟨h1, h0⟩ | ⟨gb, cap, cur, rfl, hgb, hg, -⟩
  · rw [h1] at hk; cases hk
  · cases hk; exact ⟨cur, hg⟩
theorem RS.lt {A : Nat → Prop} {w : World} {b : Nat} {kv lv : Value} {p : Nat → Bool} (h : RS A w b kv lv p) {k : Nat} (hk : onw b kv lv k) : k < w.heap.size := by
  obtain ⟨Q, h1, h2, h3⟩ := h.hl
  rcases hk with rfl | hk | hk
  · exact u2A h.hb
  · exact (Own.lt h.hk k hk).2
  · exact (Own.lt h2 k hk).2
theorem RS.plainA {A A' : Nat → Prop} {w : World} {b : Nat} {kv lv : Value} {p : Nat → Bool} (h : RS A w b kv lv p) (hA : ∀ k, kv.ownBlock = some k → ¬ A' k) : Plain A' (onw b kv lv) w := by
  obtain ⟨Q, h1, h2, h3⟩ := h.hl
  rintro k (rfl | hk | hk)
  · exact ⟨_, _, _, h.hb, by decide, by decide, fun _ => by decide⟩
  · obtain ⟨cur, hc⟩ := c3A h.hk hk
    exact ⟨_, _, _, hc, by decide, by decide, fun ha => absurd ha (hA k hk)⟩
  · obtain ⟨cur, hc⟩ := c3A h2 hk
    exact ⟨_, _, _, hc, by decide, by decide, fun _ => by decide⟩
theorem Plain.mono {A A' R : Nat → Prop} {w : World} (h : Plain A R w) (hA : ∀ k, A' k → A k) : Plain A' R w := fun k hk => by
  obtain ⟨cur, e, j, h1, h2, h3, h4⟩ := h k hk
  exact ⟨cur, e, j, h1, h2, h3, fun ha => h4 (hA k ha)⟩
theorem RS.mono {A A' : Nat → Prop} {w : World} {b : Nat} {kv lv : Value} {p : Nat → Bool} (h : RS A w b kv lv p) (hA : ∀ k, k < w.heap.size → A k → kv.ownBlock ≠ some k → A' k) : RS A' w b kv lv p := by
  obtain ⟨Q, h1, h2, h3⟩ := h.hl
  exact ⟨h.hb, h.hk, h.top, Q, h1, h2, fun i hi => (h3 i hi).mono fun k hk ha => ⟨hA k hk ha.1 ha.2, ha.2⟩⟩
theorem RS.fr {A R : Nat → Prop} {w w' : World} {b : Nat} {kv lv : Value} {p : Nat → Bool} (h : RS A w b kv lv p) (hf : Fr R w w') (hR : Plain A R w) (hB : ∀ k, onw b kv lv k → ¬ R k) : RS A w' b kv lv p := by
  obtain ⟨Q, h1, h2, h3⟩ := h.hl
  exact ⟨hf.at h.hb (hB b (.inl rfl)), hf.own h.hk (fun k hk => hB k (.inr (.inl hk))), h.top, Q, h1, hf.own h2 (fun k hk => hB k (.inr (.inr hk))), fun i hi => (h3 i hi).fr hf (hR.mono fun k hk => hk.1)⟩
def RSet (B A : Nat → Prop) (w : World) (v : Value) (p : Nat → Bool) : Prop := ∃ b kv lv, v = .pointer (some ⟨b, 0, none⟩) ∧ RS A w b kv lv p ∧ ∀ k, onw b kv lv k → B k
theorem RSet.ext {B A : Nat → Prop} {w w' : World} {v : Value} {p : Nat → Bool} (h : RSet B A w v p) (e : Ext w w') : RSet B A w' v p := by
  obtain ⟨b, kv, lv, h1, h2, h3⟩ := h
  exact ⟨b, kv, lv, h1, h2.ext e, h3⟩
def rsP (B A : Nat → Prop) (p : Nat → Bool) : AV := ⟨fun v w => RSet B A w v p, fun _ _ _ e h => h.ext e⟩
theorem RSet.mono {B A B' A' : Nat → Prop} {w : World} {v : Value} {p : Nat → Bool} (h : RSet B A w v p) (hB : ∀ k, k < w.heap.size → B k → B' k) (hA : ∀ k, k < w.heap.size → A k → A' k) : RSet B' A' w v p := by
  obtain ⟨b, kv, lv, h1, h2, h3⟩ := h
  exact ⟨b, kv, lv, h1, h2.mono fun k hk ha _ => hA k hk ha, fun k hk => hB k (h2.lt hk) (h3 k hk)⟩
theorem RSet.tt {B A : Nat → Prop} {w : World} {v : Value} {p : Nat → Bool} (h : RSet B A w v p) : RSet TT TT w v p := h.mono (fun _ _ _ => trivial) (fun _ _ _ => trivial)
theorem RSet.fr {B A R : Nat → Prop} {w w' : World} {v : Value} {p : Nat → Bool} (h : RSet B A w v p) (hf : Fr R w w') (hR : Plain A R w) (hB : ∀ k, B k → ¬ R k) : RSet B A w' v p := by
  obtain ⟨b, kv, lv, h1, h2, h3⟩ := h
  exact ⟨b, kv, lv, h1, h2.fr hf hR (fun k hk => hB k (h3 k hk)), h3⟩
def NSet (B A : Nat → Prop) (w : World) (v : Value) (p : Nat → Bool) : Prop := (v = .pointer none ∧ p = fun _ => false) ∨ RSet B A w v p
theorem NSet.ext {B A : Nat → Prop} {w w' : World} {v : Value} {p : Nat → Bool} (h : NSet B A w v p) (e : Ext w w') : NSet B A w' v p := h.imp id (fun h => h.ext e)
theorem RSet.n {B A : Nat → Prop} {w : World} {v : Value} {p : Nat → Bool} (h : RSet B A w v p) : NSet B A w v p := .inr h
theorem iwA (k : Nat) : ne (fun _ => false) k = false := by
  cases h : ne (fun _ => false) k
  · rfl
  · obtain ⟨i, _, h2⟩ := ne_iff.1 h; cases h2
theorem eqA : nk (fun _ => false) = 0 := djA _ (fun i _ => iwA i)
theorem k1A : b7A (fun _ => false) = [] := List.eq_nil_of_length_eq_zero (by rw [brA, eqA])
theorem RS.turned {A : Nat → Prop} {w w' : World} {b : Nat} {kv lv kv' lv' : Value} {p p' : Nat → Bool} {Q' : List Qd} (hS : RS A w b kv lv p) (hf : Fr (onw b kv lv) w w') (hb : w'.heap[b]? = some (.cells #[kv', lv'] tS (0, 0))) (hk : OwnI 0 tK .u16 w' kv' (b7A p'))
    (hn : Q'.length = nk p') (hl : Own 0 tC 4 w' lv' (nk p') (bbA Q')) (htop : ∀ x, TOP ≤ x → p' x = false) (hloc : LocR w kv kv')
    (hC : ∀ i, i < nk p' → Cn (fun k => A k ∧ kv.ownBlock ≠ some k) w (qv (Q'.getD i q0)) (blk p' (kp p' i)) (aqA (blk p' (kp p' i)))) : RS A w' b kv' lv' p' := by
  refine ⟨hb, hk, htop, Q', hn, hl, fun i hi => ?_⟩
  refine Cn.fr ((hC i hi).mono (A' := fun k => A k ∧ kv'.ownBlock ≠ some k ∧ kv.ownBlock ≠ some k) fun k hlt ha => ⟨ha.1, fun h => ?_, ha.2⟩) hf (hS.plainA fun k h1 h2 => h2.2.2 h1) |>.mono fun k _ h => ⟨h.1, h.2.1⟩
  rcases hloc with h' | h'
  · exact ha.2 (h' ▸ h)
  · have := h' k h; omega
theorem RS.new {A : Nat → Prop} {w : World} {b : Nat} (hb : w.heap[b]? = some (.cells #[nilS, nilS] tS (0, 0))) : RS A w b nilS nilS (fun _ => false) :=
  ⟨hb, by rw [k1A]; exact OwnI.nil, fun _ _ => rfl, [], by rw [eqA]; rfl, by rw [eqA]; exact Own.nil, fun i hi => by rw [eqA] at hi; omega⟩
end Go.Proofs.YtfcioiobhpcngaaGreatDoor
end
section
set_option linter.unusedSimpArgs false
set_option linter.unusedVariables false
set_option maxRecDepth 3000
namespace Go.Proofs.YtfcioiobhpcngaaGreatDoor
open Go.LA Go.ArrP Go.RowKit
section
variable {P : Program} {l : List Oper} {N : Nat} {wb : World} {K : List Oper → Env → Prop} {rest : List Oper} {E : Env}
variable {d : Tmp} {ty t t' : TypeId} {pos : String} {after : Array Edge} {g : Option (Nat × Bool)} {x y z : Operand} {k k' : IntKind}
theorem oNc (h : LA P l wb K (⟨some d, .nilCheck x, ty, pos, after, g⟩ :: rest) E) : LA P l wb K (⟨some d, .nilCheck x, ty, pos, after, g⟩ :: rest) E := h
theorem oEq {op : BinOp} (h : LA P l wb K (⟨some d, .binOp op 24 x y t', ty, pos, after, g⟩ :: rest) E) : LA P l wb K (⟨some d, .binOp op 24 x y t', ty, pos, after, g⟩ :: rest) E := h
end
variable {A B : Nat → Prop}
theorem new_c (w : World) (hB : Fsh B w) : Fc Tryz.prog 11 #[] w (Ret w (.pred (rsP B A (fun _ => false)))) := by
  refine Fc.of (args := []) Tryz.func11 rfl rfl Tryz.ntmps11 (Nat.le_of_ble_eq_true rfl) ?_
  repeat' (first|(refine oLA ?_;first|refine a0A rfl ?_|refine htA (c := .agg #[nilS, nilS]) rfl (fun _ => by kernel_rfl) ?_|refine kfA rfl rfl ?_|refine wOp ?_|(refine wCm ?_ ?_<;>intro hc)|(refine wNl hK ?_;clear hK K))|refine wG ?_|(refine wCR ?_;intro K hK)|fail)
  all_goals skip
  refine aoA rfl rfl (Ext.refl _) (fun v w' e hv => ?_)
  obtain ⟨b, hb, rfl, hh⟩ := hv
  exact ⟨b, nilS, nilS, rfl, RS.new hh, fun k hk => by
    rcases hk with rfl | hk | hk
    · exact hB _ hb
    · cases hk
    · cases hk⟩
theorem tyA {w : World} {v : Value} {p : Nat → Bool} (h : NSet B A w v p) {k : Nat} (hk : k < 65536) : Fc Tryz.prog 87 #[v, .int .u16 k] w (Ret w (.tup2 (.val (.int .i64 (cnt (ne p) k))) (.val (.bool (ne p k))))) := by
  rcases h with ⟨rfl, rfl⟩ | ⟨b, kv, lv, rfl, hS, -⟩
  · rw [iwA, djA k (fun i _ => iwA i)]
    refine Fc.of (args := [_, _]) Tryz.func87 rfl rfl Tryz.ntmps87 (Nat.le_of_ble_eq_true rfl) ?_
    repeat' (first|(refine oLA ?_;first|refine a0A rfl ?_|(refine oEq ?_; refine cpA (c := .bool true) rfl rfl rfl (fun _ => rfl) ?_)|refine wOp ?_|(refine wCm ?_ ?_<;>intro hc)|(refine wNl hK ?_;clear hK K))|refine wG ?_|(refine wCR ?_;intro K hK)|fail)
    all_goals skip
    all_goals exact bhA rfl rfl rfl (Ext.refl _) rfl rfl
  · have hn : (b7A p).length ≤ 4611686018427387903 := by rw [brA]; have := fuA p; omega
    have hb : bsS (b7A p) (k : Int) = cnt (ne p) k := hmA (ne p) k (by omega)
    have hf : czA (b7A p) (k : Int) = ne p k := by
      rw [e9A _ (h9A p)]; exact bxA (ne p) hk
    refine Fc.of (args := [_, _]) Tryz.func87 rfl rfl Tryz.ntmps87 (Nat.le_of_ble_eq_true rfl) ?_
    repeat' (first|(refine oLA ?_;first|refine a0A rfl ?_|(refine oEq ?_; refine cpA (c := .bool false) rfl rfl rfl (fun _ => rfl) ?_)|(refine oNc ?_; refine ahA rfl rfl ?_)|(refine oF 0 ?_; refine a2A (a' := ⟨b, 0, none⟩) rfl rfl (fun _ => rfl) ?_)|(refine oF 1 ?_; refine a2A (a' := ⟨b, 1, none⟩) rfl rfl (fun _ => rfl) ?_)|(refine oLt 52 ?_; refine a8A (c := kv) rfl (fun _ => rfl) rfl hS.hb rfl ?_)|(refine oLt 53 ?_; refine a8A (c := lv) rfl (fun _ => rfl) rfl hS.hb rfl ?_)|refine wOp ?_|(refine wCm ?_ ?_<;>intro hc)|(refine oCv ?_;first|(refine oC 128 ?_; refine a3A (f := 128) rfl rfl rfl rfl  (.tup2 (.val (.int .i64 (bsS (b7A p) k))) (.val (.bool (czA (b7A p) k)))) (by intro u1 u2 w e hu1 hu2; (try obtain rfl : u1 = _ := hu1); (try obtain rfl : u2 = _ := hu2); exact bs_c _ _ _ _ (hS.hk.ext e).slI hn) ?_))|(refine wNl hK ?_;clear hK K))|refine wG ?_|(refine wCR ?_;intro K hK)|fail)
    all_goals skip
    all_goals exact bhA rfl rfl rfl (Ext.refl _) (by rw [hb]) (by rw [hf])
theorem kind_none : aqA (fun _ => false) = 1 := by
  unfold aqA
  rw [djA (p := fun _ => false) 65536 (fun i _ => rfl), djA (p := boA fun _ => false) 65536 (fun i _ => rfl)]; decide
theorem vqA {w : World} {v : Value} {p : Nat → Bool} (h : NSet B A w v p) {k : Nat} (hk : k < 65536) : Fc Tryz.prog 47 #[v, .int .u16 k] w (Ret w (.pred (cnP A (blk p k) (aqA (blk p k))))) := by
  have hf : ∀ w', Ext w w' → _ := fun w' e => tyA (h.ext e) hk
  cases hn : ne p k
  · rw [hn] at hf
    have h1 : aqA (blk p k) = 1 := by rw [gpA hn]; exact kind_none
    rw [h1, gpA hn]
    refine Fc.of (args := [_, _]) Tryz.func47 rfl rfl Tryz.ntmps47 (Nat.le_of_ble_eq_true rfl) ?_
    repeat' (first|(refine oLA ?_;first|refine a0A rfl ?_|(refine oAl ?_; refine bcA rfl (fun _ => rfl) ?_)|refine htA (c := .agg #[.int .u8 0, nilS, nilS, nilS]) rfl (fun _ => by kernel_rfl) ?_|(refine a4A (hK _ _ (btA (φ := cnP A (fun _ => false) 1) (w0 := w) rfl rfl rfl b1A (fun v' w' e hv => by obtain rfl : v' = _ := hv; exact Cn.zero) rfl (fun _ => rfl) (Ext.refl _) (fun w' e' => ?_))); clear hK K)|refine wOp ?_|(refine wCm ?_ ?_<;>intro hc)|(refine oCv ?_;first|(refine oC 87 ?_; refine a3A (f := 87) rfl rfl rfl rfl  (.tup2 (.val (.int .i64 (cnt (ne p) k))) (.val (.bool false))) (by intro u1 u2 w e hu1 hu2; (try obtain rfl : u1 = _ := hu1); (try obtain rfl : u2 = _ := hu2); exact hf _ e) ?_))|(refine wNl hK ?_;clear hK K))|refine wG ?_|(refine wCR ?_;intro K hK)|fail)
    all_goals skip
    all_goals exact buA rfl rfl rfl rfl rfl (by assumption)
  · obtain ⟨i1, i2⟩ := viA hk hn
    obtain ⟨i, hi⟩ : ∃ i, i = cnt (ne p) k := ⟨_, rfl⟩
    rw [← hi] at i1 i2
    rw [hn] at hf
    rcases h with ⟨rfl, rfl⟩ | ⟨b, kv, lv, rfl, hS, -⟩
    · rw [iwA] at hn; cases hn
    obtain ⟨Q, q1, q2, q3⟩ := hS.hl
    have hcn := q3 i i1
    rw [i2] at hcn
    replace hcn := hcn.mono (A' := A) (fun k _ h => h.1)
    have hat := hiA Q i (by omega)
    rw [← hi] at hf
    clear hi q3
    refine Fc.of (args := [_, _]) Tryz.func47 rfl rfl Tryz.ntmps47 (Nat.le_of_ble_eq_true rfl) ?_
    repeat' (first|(refine oLA ?_;first|refine a0A rfl ?_|(refine oAl ?_; refine bcA rfl (fun _ => rfl) ?_)|(refine oNc ?_; refine ahA rfl rfl ?_)|(refine oF 0 ?_; refine a2A (a' := ⟨b, 0, none⟩) rfl rfl (fun _ => rfl) ?_)|(refine oF 1 ?_; refine a2A (a' := ⟨b, 1, none⟩) rfl rfl (fun _ => rfl) ?_)|(refine oLt 52 ?_; refine a8A (c := kv) rfl (fun _ => rfl) rfl hS.hb rfl ?_)|(refine oLt 53 ?_; refine a8A (c := lv) rfl (fun _ => rfl) rfl hS.hb rfl ?_)|(refine oI ?_; refine cfA (s := 4) rfl _ rfl (fun _ => rfl) rfl (HasC.ownV q2) rfl i rfl i1 ?_; rw [hat])|(refine oLd ?_; refine apA (cs := qcs _) rfl (fun _ => rfl) (fun _ => rfl) rfl ?_)|(refine a4A (hK _ _ (btA (φ := cnP A (blk p k) (aqA (blk p k))) (w0 := w) rfl rfl rfl b1A (fun v' w' e hv => by obtain rfl : v' = _ := hv; exact hcn.ext e) rfl (fun _ => rfl) (Ext.refl _) (fun w' e' => ?_))); clear hK K)|refine wOp ?_|(refine wCm ?_ ?_<;>intro hc)|(refine oCv ?_;first|(refine oC 87 ?_; refine a3A (f := 87) rfl rfl rfl rfl  (.tup2 (.val (.int .i64 i)) (.val (.bool true))) (by intro u1 u2 w e hu1 hu2; (try obtain rfl : u1 = _ := hu1); (try obtain rfl : u2 = _ := hu2); exact hf _ e) ?_))|(refine wNl hK ?_;clear hK K))|refine wG ?_|(refine wCR ?_;intro K hK)|fail)
    all_goals skip
    all_goals exact buA rfl rfl rfl rfl rfl (by assumption)
end Go.Proofs.YtfcioiobhpcngaaGreatDoor
end
