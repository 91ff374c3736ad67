import Derived.Test.YtfcioiobhpcngaaGreatDoorM1
import Derived.Test.YtfcioiobhpcngaaGreatDoorM2
import Derived.Test.YtfcioiobhpcngaaGreatDoorM3
import Derived.Test.YtfcioiobhpcngaaGreatDoorM4
import Derived.Test.YtfcioiobhpcngaaGreatDoorM5
import Derived.Test.YtfcioiobhpcngaaGreatDoorM6
import Derived.Test.YtfcioiobhpcngaaGreatDoorM7
import Derived.Test.YtfcioiobhpcngaaGreatDoorM8
import Derived.Test.YtfcioiobhpcngaaGreatDoorM9
import Derived.Test.YtfcioiobhpcngaaGreatDoorM10
import Derived.Test.YtfcioiobhpcngaaGreatDoorM11
import Derived.Test.YtfcioiobhpcngaaGreatDoorM12
import Derived.Test.YtfcioiobhpcngaaGreatDoorM13
import Derived.Test.YtfcioiobhpcngaaGreatDoorM14
import Derived.Test.YtfcioiobhpcngaaGreatDoorM15
import Derived.Test.YtfcioiobhpcngaaGreatDoorM16
import Derived.Test.YtfcioiobhpcngaaGreatDoorM17
import Derived.Test.YtfcioiobhpcngaaGreatDoorM18
import Derived.Test.YtfcioiobhpcngaaGreatDoorM19
import Derived.Test.YtfcioiobhpcngaaGreatDoorM20
import Derived.Test.YtfcioiobhpcngaaGreatDoorM21
import Derived.Test.YtfcioiobhpcngaaGreatDoorM22
section
set_option linter.unusedSimpArgs false
set_option linter.unusedVariables false
set_option maxRecDepth 3000
namespace Go.Proofs.YtfcioiobhpcngaaGreatDoor
open Go.LA Go.ArrP Go.RowKit
variable {A B : Nat → Prop}
set_option maxHeartbeats 400000 in
theorem tpA {w0 w : World} {b : Nat} {kv lv va : Value} {p : Nat → Bool} {xs : List Int} {k : Nat} (hx0 : Ext w0 w) (hT : Tab w0) (hB : ∀ k, onw b kv lv k → w0.heap.size ≤ k) (hS : RS A w b kv lv p) (hA : Fsh A w) (hk : k < 65536) (hlast : ∀ j, k ≤ j → ne p j = false) (ha : SlI .u16 w va xs) (hi : Inc xs) (hlo : Low xs) (h0 : 0 < xs.length) :
    Fc Tryz.prog 62 #[.pointer (some ⟨b, 0, none⟩), .int .u16 k, va] w (fun en w' => en = .returned (.tuple #[]) ∧ Mut A w b kv lv (upd p k (bqA xs)) w') := by
  have hF := hS.fsh hA
  have hq1 : ∀ i, 65536 ≤ i → bqA xs i = false := fun i hi' => by
    unfold bqA; exact decide_eq_false fun h => by have := hlo _ h; omega
  have hq0 : 0 < cnt (bqA xs) 65536 := by
    rw [← baA, ibA hi hlo]; exact h0
  have hnkc := fuA p
  obtain ⟨q, hq⟩ : ∃ q, q = bqA xs := ⟨_, rfl⟩
  have hof : ∀ w', Ext w w' → _ := fun w' e => v9A (ha.ext e) hi hlo (hF.ext e)
  rw [← hq] at hq1 hq0 hof ⊢
  clear hq
  refine Fc.of (args := [_, _, _]) Tryz.func62 rfl rfl Tryz.ntmps62 (Nat.le_of_ble_eq_true rfl) ?_
  repeat' (first|(refine oLA ?_;first|refine wBk ?_|(refine oD 6 ?_; refine a4A (hK _ _ (laA (q := 11) (φ := cnP (fun k => A k ∧ kv.ownBlock ≠ some k) q 1) (n := 4) rfl rfl (by decide) rfl rfl b1A (fun _ => rfl) rfl (fun _ => rfl) (fun b11 c11 w11 e11 hb11 hh11 hn11 hc11 => ?_))); clear hK K; refine amA (by kernel_rfl) (fun K hK => ?_))|(refine oD 13 ?_; refine dfA rfl rfl ?_; have hS11 := hS.ext e11; have hcA : Cn (fun j => A j ∧ kv.ownBlock ≠ some j ∧ j < w11.heap.size) w11 (.agg c11) q 1 := Cn.mono hc11 fun j hj ha => ⟨ha.1, ha.2, hj⟩)|(refine oNc ?_; refine ahA rfl rfl ?_)|(refine oF 0 ?_; refine a2A (a' := ⟨b, 0, none⟩) rfl rfl (fun _ => rfl) ?_)|(refine oF 1 ?_; refine a2A (a' := ⟨b, 1, none⟩) rfl rfl (fun _ => rfl) ?_)|(refine oLt 52 ?_; refine a8A (c := kv) rfl (fun _ => rfl) rfl hS11.hb rfl ?_)|(refine oLt 53 ?_; refine a8A (c := lv) rfl (fun _ => rfl) rfl hS11.hb rfl ?_)|(refine oD 20 ?_; refine f2A rfl ctA rfl rfl ?_)|(refine oD 26 ?_; refine crA rfl hh11 hn11 rfl (fun _ => rfl) (fun _ => rfl) ?_)|refine wOp ?_|(refine wCm ?_ ?_<;>intro hc)|(refine oCv ?_;first|(refine oC 32 ?_; refine a1A (f := 32) rfl rfl rfl  (.tup2 (.pred (cnP (fun k => A k ∧ kv.ownBlock ≠ some k) q 1)) (.val (.bool true))) (by intro u1 w e hu1; (try obtain rfl : u1 = _ := hu1); exact hof _ e) ?_))|(refine wNl hK ?_;clear hK K))|(refine oCX ?_;first|refine ajA (id := 1) [8, 16, 19, 22] (by kernel_rfl) (by kernel_rfl) (by kernel_rfl) (a5A ?_))|refine wG ?_|(refine wCR ?_;intro K hK)|refine wPh ?_|fail)
  all_goals skip
  have hplK : ∀ w', Ext w11 w' → Plain (fun j => A j ∧ kv.ownBlock ≠ some j ∧ j < w11.heap.size) (fun j => kv.ownBlock = some j) w' := fun w' x j hj => by
    obtain ⟨cur, hcur⟩ := c3A (hS11.hk.ext x) hj
    exact ⟨cur, _, _, hcur, by decide, by decide, fun ha => absurd hj ha.2.1⟩
  have hplL : ∀ (AA : Nat → Prop) w' n cs, Own 0 tC 4 w' lv n cs → Plain AA (fun j => lv.ownBlock = some j) w' := fun AA w' n cs ho j hj => by
    obtain ⟨cur, hcur⟩ := c3A ho hj
    exact ⟨cur, _, _, hcur, by decide, by decide, fun _ => by decide⟩
  have lkv : ∀ k, kv.ownBlock = some k → k < w11.heap.size := fun k h => hS11.lt (.inr (.inl h))
  have llv : ∀ k, lv.ownBlock = some k → k < w11.heap.size := fun k h => hS11.lt (.inr (.inr h))
  have hsn := slot_ne hS11
  obtain ⟨Q, q1, q2, q3⟩ := hS11.hl
  have hklen := brA p
  have hnkl := fuA p
  refine f8A rfl ctA rfl hS11.hk rfl HasC.own (fun u hu => by rw [List.mem_singleton] at hu; subst hu; rfl) (by unfold maxLen; omega) (by omega) (fun kv' w1' w2 e1 ho' hf hl => ⟨_, fun t u _ hu => c6A t u hu, a5A ?_⟩)
  have hT2 := hT.ext (Fr.ext (hx0.trans (e11.trans e1)) hf (fun j h => hB j (.inr (.inl h)))); have hF3 : Fsh (fun j => A j ∧ kv.ownBlock ≠ some j ∧ kv'.ownBlock ≠ some j) w2 := fun j hj => ⟨hA j (Nat.le_trans (Nat.le_trans e11.size e1.size) (Nat.le_trans hf.size hj)), fun h => by have h1 := lkv j h; have h2 := e1.size; have h3 := hf.size; omega, fun h => by have h1 := (Own.lt ho' j h).2; omega⟩
  have hb2 := hf.at (e1.block hS11.hb) (fun h => hsn.1 h)
  have hh2 := hf.at (e1.block hh11) (fun h => Own.apart hS11.hk hh11 (by decide) h)
  have q22 : Own 0 tC 4 w2 lv (nk p) (bbA Q) := hf.own (q2.ext e1) (fun k h1 h2 => hsn.2.2 k h2 h1)
  have hc2 := (hcA.ext e1).fr hf (hplK _ e1)
  have sz2 := Nat.le_trans e1.size hf.size
  repeat' (first|(refine oLA ?_;first|refine wBk ?_|(refine oNc ?_; refine ahA rfl rfl ?_)|(refine oF 0 ?_; refine a2A (a' := ⟨b, 0, none⟩) rfl rfl (fun _ => rfl) ?_)|(refine oF 1 ?_; refine a2A (a' := ⟨b, 1, none⟩) rfl rfl (fun _ => rfl) ?_)|(refine oLt 52 ?_; refine a8A (c := kv) rfl (fun _ => rfl) rfl hb2 rfl ?_)|(refine oLt 53 ?_; refine a8A (c := lv) rfl (fun _ => rfl) rfl hb2 rfl ?_)|(refine oLt 65 ?_; refine crA (n := 4) rfl hh2 hn11 rfl (fun _ => rfl) (fun _ => rfl) ?_)|(first | (refine oD 27 ?_; refine oC 75 ?_; refine a1A (f := 75) rfl rfl rfl  (.pred (cnP (fun j => A j ∧ kv.ownBlock ≠ some j ∧ kv'.ownBlock ≠ some j) q (aqA q))) (by intro u1 w e hu1; (try obtain rfl : u1 = _ := hu1); exact d7A ((Cn.loc3 hl e1.size hc2).ext e) (hT2.ext e) (hF3.ext e)) ?_) | (refine oD 28 ?_; refine jfA (base := w11.heap.size) sz2 rfl eaA rfl (fun v w e h => h) ?_))|refine wOp ?_|(refine wCm ?_ ?_<;>intro hc)|(refine wNl hK ?_;clear hK K))|refine wG ?_|(refine wCR ?_;intro K hK)|refine wPh ?_|fail)
  refine puA 28 rfl (by decide) rfl (fun v53 w3 e3 h53 => ?_)
  obtain ⟨qc, r1, r2, r3⟩ := h53
  refine f8A rfl eaA rfl (q22.ext e3) rfl (HasC.ownV r1) r3 (by unfold maxLen; omega) (by omega) (fun lv' w3' w4 e3' hol hfl hll => ⟨_, fun t u _ hu => c6A t u hu, a5A ?_⟩)
  have x23 := e3.trans e3'
  have hb4 := hfl.at (x23.block hb2) (fun h => hsn.2.1 h)
  have r14 := hfl.own (ho'.ext x23) (fun k h1 h2 => by
    obtain ⟨cur, hcur⟩ := c3A (ho'.ext x23) h1
    exact Own.apart (q22.ext x23) hcur (by decide) h2)
  have rc4 := (r2.ext e3').fr hfl (hplL _ _ _ _ (q22.ext x23))
  obtain ⟨ck1, ck2⟩ := e5A r14
  obtain ⟨cl1, cl2⟩ := e5A hol
  have hF4 : Fr (onw b kv lv) w11 w4 := (((Fr.of e1).trans (hf.mono fun k h => .inr (.inl h))).trans (Fr.of x23)).trans (hfl.mono fun k h => .inr (.inr h))
  repeat' (first|(refine oLA ?_;first|refine wBk ?_|(refine oNc ?_; refine ahA rfl rfl ?_)|(refine oF 0 ?_; refine a2A (a' := ⟨b, 0, none⟩) rfl rfl (fun _ => rfl) ?_)|(refine oF 1 ?_; refine a2A (a' := ⟨b, 1, none⟩) rfl rfl (fun _ => rfl) ?_)|(refine oLt 52 ?_; refine a8A (c := kv) rfl (fun _ => rfl) rfl hb4 rfl ?_)|(refine oLt 53 ?_; refine a8A (c := lv) rfl (fun _ => rfl) rfl hb4 rfl ?_)|refine wOp ?_|(refine wCm ?_ ?_<;>intro hc)|(refine wNl hK ?_;clear hK K))|refine wG ?_|(refine wCR ?_;intro K hK)|refine wPh ?_|fail)
  refine e3A (news := [kv']) rfl rfl rfl hb4 ck1 (fun _ => rfl) (Nat.le_of_ble_eq_true rfl) (fun u hu => by rw [List.mem_singleton] at hu; subst hu; exact ck2) (fun w6 e6 => ⟨_, fun t u hu => c6A t u hu, a5A ?_⟩)
  have hb6 : (w6.setRow b #[kv', lv]).heap[b]? = _ := setRow_heap w6 b _ _ _ _ (e6.block hb4)
  have rc7 := (rc4.ext e6).setRow (e6.block hb4) ⟨by decide, by decide, by decide⟩ #[kv', lv]
  obtain ⟨w7, hw7⟩ : ∃ w7, w7 = w6.setRow b #[kv', lv] := ⟨_, rfl⟩
  have hF7 : Fr (onw b kv lv) w11 w7 := hw7 ▸ ((hF4.trans (Fr.of e6)).setRow (.inl rfl) _)
  have r17 : Own 0 tK 1 w7 kv' _ _ := hw7 ▸ Own.setRow (r14.ext e6) _ (Own.apart (r14.ext e6) (e6.block hb4) (by decide))
  have s17 : Own 0 tC 4 w7 lv' _ _ := hw7 ▸ Own.setRow (hol.ext e6) _ (Own.apart (hol.ext e6) (e6.block hb4) (by decide))
  rw [show (#[kv, lv].toList.take 0 ++ [kv'] ++ #[kv, lv].toList.drop (0 + [kv'].length)).toArray = #[kv', lv] from rfl]
  rw [← hw7] at hb6 rc7 ⊢
  clear hw7
  repeat' (first|(refine oLA ?_;first|refine wBk ?_|(refine oNc ?_; refine ahA rfl rfl ?_)|(refine oF 0 ?_; refine a2A (a' := ⟨b, 0, none⟩) rfl rfl (fun _ => rfl) ?_)|(refine oF 1 ?_; refine a2A (a' := ⟨b, 1, none⟩) rfl rfl (fun _ => rfl) ?_)|(refine oLt 52 ?_; refine a8A (c := kv) rfl (fun _ => rfl) rfl hb6 rfl ?_)|(refine oLt 53 ?_; refine a8A (c := lv) rfl (fun _ => rfl) rfl hb6 rfl ?_)|refine wOp ?_|(refine wCm ?_ ?_<;>intro hc)|(refine wNl hK ?_;clear hK K))|refine wG ?_|(refine wCR ?_;intro K hK)|refine wPh ?_|fail)
  refine e3A (news := [lv']) rfl rfl rfl hb6 cl1 (fun _ => rfl) (Nat.le_of_ble_eq_true rfl) (fun u hu => by rw [List.mem_singleton] at hu; subst hu; exact cl2) (fun w8 e8 => ⟨_, fun t u hu => c6A t u hu, aiA ?_⟩)
  have hb8 : (w8.setRow b #[kv', lv']).heap[b]? = _ := setRow_heap w8 b _ _ _ _ (e8.block hb6)
  have rc9 := (rc7.ext e8).setRow (e8.block hb6) ⟨by decide, by decide, by decide⟩ #[kv', lv']
  obtain ⟨w9, hw9⟩ : ∃ w9, w9 = w8.setRow b #[kv', lv'] := ⟨_, rfl⟩
  have hF9 : Fr (onw b kv lv) w11 w9 := hw9 ▸ ((hF7.trans (Fr.of e8)).setRow (.inl rfl) _)
  have r19 : Own 0 tK 1 w9 kv' _ _ := hw9 ▸ Own.setRow (r17.ext e8) _ (Own.apart (r17.ext e8) (e8.block hb6) (by decide))
  have s19 : Own 0 tC 4 w9 lv' _ _ := hw9 ▸ Own.setRow (s17.ext e8) _ (Own.apart (s17.ext e8) (e8.block hb6) (by decide))
  rw [show (#[kv', lv].toList.take 1 ++ [lv'] ++ #[kv', lv].toList.drop (1 + [lv'].length)).toArray = #[kv', lv'] from rfl]
  rw [← hw9] at hb8 rc9 ⊢
  clear hw9
  have hkk9 : OwnI 0 tK .u16 w9 kv' (b7A p ++ [(k : Int)]) := by unfold OwnI; rw [List.map_append, List.length_append, List.length_singleton]; exact r19
  have hmut : Mut A w11 b kv lv _ w9 := hS11.app hk hlast hq1 hq0 q1 q3 (rc9.mono fun j _ ha => ⟨ha.1, ha.2.2⟩) hF9 hb8 hkk9 s19 (hl.le e1.size) (hll.le (by have := x23.size; omega))
  repeat' (first|(refine oLA ?_;first|refine wBk ?_|(refine oNc ?_; refine ahA rfl rfl ?_)|(refine oF 0 ?_; refine a2A (a' := ⟨b, 0, none⟩) rfl rfl (fun _ => rfl) ?_)|(refine oF 1 ?_; refine a2A (a' := ⟨b, 1, none⟩) rfl rfl (fun _ => rfl) ?_)|(refine oLt 52 ?_; refine a8A (c := kv) rfl (fun _ => rfl) rfl hb8 rfl ?_)|(refine oLt 53 ?_; refine a8A (c := lv) rfl (fun _ => rfl) rfl hb8 rfl ?_)|refine wOp ?_|(refine wCm ?_ ?_<;>intro hc)|(refine wNl hK ?_;clear hK K))|refine wG ?_|(refine wCR ?_;intro K hK)|refine wPh ?_|fail)
  all_goals skip
  exact b5A rfl (fun w5 e5 => ⟨rfl, (hmut.from e11).ext e5⟩) (.inl rfl)
end Go.Proofs.YtfcioiobhpcngaaGreatDoor
end
section
set_option linter.unusedSimpArgs false
set_option linter.unusedVariables false
set_option maxRecDepth 3000
namespace Go.Proofs.YtfcioiobhpcngaaGreatDoor
open Go.LA Go.ArrP Go.RowKit
variable {A B : Nat → Prop}
theorem u0A : El Tryz.prog 45 39 (.int .u32 0) 1 4 := ⟨rfl, rfl, rfl, by decide⟩
theorem pbA (w : World) (v : Value) (n : Nat) (cs : List Value) (h : SlC w v n 1 cs) (h1 : ∀ u ∈ cs, u.oneCell' = true) (hb : n * 4 ≤ 140737488355328) : Fc Tryz.prog 60 #[v] w (Ret w (.pred (i1A w.heap.size 39 1 n cs))) := by
  obtain ⟨h0, a, cap, rfl, hc, hm, hn, hcs⟩ := id h
  have hlen := h.len
  cases a with
  | none =>
    obtain rfl := hn rfl
    obtain rfl : n = 0 := by omega
    obtain rfl : cs = [] := List.eq_nil_of_length_eq_zero (by omega)
    refine Fc.of (args := [_]) Tryz.func60 rfl rfl Tryz.ntmps60 (Nat.le_of_ble_eq_true rfl) ?_
    repeat' (first|(refine oLA ?_;first|refine a0A rfl ?_|refine cpA (c := .bool true) rfl rfl rfl (fun _ => rfl) ?_|refine wOp ?_|(refine wCm ?_ ?_<;>intro hc)|(refine wNl hK ?_;clear hK K))|refine wG ?_|(refine wCR ?_;intro K hK)|(refine oPX ?_;first|exact aoA rfl rfl (Ext.refl _) (fun u w2 e2 hu => by obtain rfl : u = _ := hu; exact Own.nil))|fail)
  | some a =>
    refine Fc.of (args := [_]) Tryz.func60 rfl rfl Tryz.ntmps60 (Nat.le_of_ble_eq_true rfl) ?_
    repeat' (first|(refine oLA ?_;first|refine a0A rfl ?_|refine cpA (c := .bool false) rfl rfl rfl (fun _ => rfl) ?_|refine jjA 39 (s := 1) rfl (fun _ => by kernel_rfl) ?_|(refine a4A (hK _ _ (c5A 5 rfl (fun v5 w5 e5 h5 => ?_))); clear hK K; have h6 := h.ext e5; have ho : Own w.heap.size _ _ w5 v5 0 [] := h5; refine amA (by kernel_rfl) (fun K hK => ?_))|(refine a4A (hK _ _ (cuA rfl (by decide) u0A rfl ho rfl (HasC.val h6) h1 (by rw [Nat.zero_add]; unfold maxLen; omega) (by rw [Nat.zero_add]; exact hb) e5.size (fun v' w2 w3 he2 ho3 hg3 => ?_))); clear hK K; dsimp only [vals]; refine amA (by kernel_rfl) (fun K hK => ?_))|refine wOp ?_|(refine wCm ?_ ?_<;>intro hc)|(refine wNl hK ?_;clear hK K))|refine wG ?_|(refine wCR ?_;intro K hK)|fail)
    exact aoA rfl rfl ((e5.trans he2).grown hg3 (fun q hq => (Own.lt ho q hq).1)) (fun u w4 e4 hu => by
      obtain rfl : u = _ := hu
      have h9 : Own w.heap.size 39 1 w3 u n cs := by simpa using ho3
      exact h9.ext e4)
theorem RS.beside {w1 wa wb : World} {b : Nat} {kv lv va va' : Value} {p : Nat → Bool} {base n : Nat} {cs : List Value} (hS : RS (fun j => A j ∧ va.ownBlock ≠ some j) w1 b kv lv p) (hn : ∀ k, va.ownBlock = some k → ¬ onw b kv lv k) (hva : Own base tK 1 w1 va n cs) (e : Ext w1 wa) (hf : Fr (fun k => va.ownBlock = some k) wa wb) (hl : LocR wa va va') :
    RS (fun j => A j ∧ va'.ownBlock ≠ some j) wb b kv lv p ∧ ∀ k, va'.ownBlock = some k → ¬ onw b kv lv k := by
  have hSa := hS.ext e
  have h1 : RS (fun j => (A j ∧ va.ownBlock ≠ some j) ∧ va'.ownBlock ≠ some j) wa b kv lv p := hSa.mono fun k hk ha _ => ⟨ha, fun h => by
    rcases hl with h' | h'
    · exact ha.2 (h' ▸ h)
    · have := h' k h; omega⟩
  have h2 : Plain (fun j => (A j ∧ va.ownBlock ≠ some j) ∧ va'.ownBlock ≠ some j) (fun k => va.ownBlock = some k) wa := fun k hk => by
    obtain ⟨cur, hc⟩ := c3A (hva.ext e) hk
    exact ⟨cur, _, _, hc, by decide, by decide, fun ha => absurd hk ha.1.2⟩
  refine ⟨(h1.fr hf h2 (fun k hk h => hn k h hk)).mono fun k _ ha _ => ⟨ha.1.1, ha.2⟩, fun k hk ho => ?_⟩
  rcases hl with h' | h'
  · exact hn k (h' ▸ hk) ho
  · have h3 := h' k hk
    have h4 := hSa.lt ho
    omega
theorem RS.off {w : World} {b : Nat} {kv lv v : Value} {p : Nat → Bool} {base e s n : Nat} {cs : List Value} (hS : RS A w b kv lv p) (ho : Own base e s w v n cs) (he : e ≠ tS ∧ e ≠ tK ∧ e ≠ tC) (k : Nat) (hk : v.ownBlock = some k) : ¬ onw b kv lv k := by
  obtain ⟨Q, h1, h2, h3⟩ := hS.hl
  rintro (rfl | h | h)
  · exact Own.apart ho hS.hb he.1 hk
  · obtain ⟨cur, hc⟩ := c3A hS.hk h
    exact Own.apart ho hc he.2.1 hk
  · obtain ⟨cur, hc⟩ := c3A h2 h
    exact Own.apart ho hc he.2.2 hk
theorem tuA {q : Nat → Bool} (hq : ∀ i, 65536 ≤ i → q i = false) : bqA (adA q 65536) = q := by
  funext i
  by_cases h : i < 65536
  · exact bxA q h
  · rw [hq i (by omega)]
    unfold bqA
    exact decide_eq_false fun hm => by
      obtain ⟨j, h1, _, h3⟩ := (c2A _ _ _).1 hm
      omega
set_option maxHeartbeats 1000000 in
theorem of_s {w : World} {v : Value} {ys : List Int} (h : SlI .u32 w v ys) (hu0 : ∀ x ∈ ys, 0 ≤ x ∧ x < 4294967296) (hn : ys.length ≤ 1000000000) (hT : Tab w) (hB : Fsh B w) (hA : Fsh A w) : Fc Tryz.prog 25 #[v] w (Ret w (.pred (rsP B A (bqA ys)))) := by
  have hcl : ∀ w', Ext w w' → Fc Tryz.prog 60 #[v] w' (Ret w' (.pred (blA w'.heap.size 39 .u32 ys))) := fun w' e => pbA w' v ys.length (ys.map (Value.int .u32)) (h.ext e) (fun u hu => by obtain ⟨z, _, rfl⟩ := List.mem_map.1 hu; rfl) (by omega)
  obtain ⟨xs, hxs⟩ : ∃ xs, xs = ys.mergeSort (fun x y => decide (x ≤ y)) := ⟨_, rfl⟩
  have hs := ogA ys
  have hmm := vcA ys
  have hxl : xs.length = ys.length := by rw [hxs, List.length_mergeSort]
  have hu : ∀ x ∈ xs, 0 ≤ x ∧ x < 4294967296 := fun x hx => hu0 x (by rw [hxs, List.mem_mergeSort] at hx; exact hx)
  rw [← hxs] at hs hmm
  rw [← hmm]
  refine Fc.of (args := [_]) Tryz.func25 rfl rfl Tryz.ntmps25 (Nat.le_of_ble_eq_true rfl) ?_
  repeat' (first|(refine oLA ?_;first|refine a0A rfl ?_|(refine oD 9 ?_; refine a4A (hK _ _ (c5A 0 rfl (fun v8 w8 e8 h8 => ?_))); clear hK K; replace h8 : OwnI w.heap.size 39 .u32 w8 v8 ys := h8; refine amA (by kernel_rfl) (fun K hK => dfA rfl rfl ?_))|(refine oD 10 ?_; refine a4A (hK _ _ (fpA rfl (by decide) rfl rfl (fun v w' => v = .tuple #[] ∧ Ext w w' ∧ OwnI w.heap.size 39 .u32 w' v8 xs) (fun w1 e1 => (Srt.sort32_c (e8.trans e1) (h8.ext e1) (by omega)).mono (fun en w' h => ⟨_, h.1, rfl, h.2.1, hxs ▸ h.2.2⟩)) (fun v w20 hm => ?_))); clear hK K; obtain ⟨rfl, x20, h20⟩ := hm)|(refine oD 12 ?_; refine a4A (hK _ _ (c5A 3 rfl (fun v3 w3 e3 h3 => ?_))); clear hK K; obtain ⟨b, hbb, rfl, h3⟩ := h3; replace h20 := h20.ext e3; refine amA (by kernel_rfl) (fun K hK => dfA rfl rfl ?_))|(refine cxA ?_; refine bmA rfl _ rfl rfl (HasI.ownV h20).c ?_)|refine wOp ?_|(refine wCm ?_ ?_<;>intro hc)|(refine oCv ?_;first|(refine oC 60 ?_; refine a1A (f := 60) rfl rfl rfl  (.pred (blA w.heap.size 39 .u32 ys)) (by intro u1 w e hu1; (try obtain rfl : u1 = _ := hu1); exact (hcl _ e).mono (aaA e.size)) ?_)|(refine oC 11 ?_; refine dkA (f := 11) rfl rfl  (.pred (tqA w.heap.size #[nilS, nilS] tS)) (by intro w e; exact (xrA _).mono (lrA (Nat.le_trans x20.size e.size))) ?_))|(refine wNl hK ?_;clear hK K))|refine wG ?_|(refine wCR ?_;intro K hK)|fail)
  all_goals skip
  have hon0 : ∀ k, onw b nilS nilS k → w.heap.size ≤ k := fun k hk => by
    rcases hk with rfl | hk | hk
    · exact hbb
    · cases hk
    · cases hk
  refine agA (ι := Nat × Value) (fun i => [(0, .val v8), (3, .val (.pointer (some ⟨b, 0, none⟩))), (4, .val i.2), (12, .val v8), (13, .val (.int .i64 xs.length)), (14, .val (.int .i64 i.1))]) (fun i w' => i.1 ≤ xs.length ∧ Ext w w' ∧ OwnI w.heap.size 39 .u32 w' v8 xs ∧ OwnI w.heap.size tK .u16 w' i.2 (ofA xs i.1) ∧ ∃ kv lv, RS (fun j => A j ∧ i.2.ownBlock ≠ some j) w' b kv lv (ofS xs i.1) ∧ (∀ k, onw b kv lv k → w.heap.size ≤ k) ∧ ∀ k, i.2.ownBlock = some k → ¬ onw b kv lv k) (fun i => xs.length - i.1)
    (fun w2 e2 => ⟨(0, nilS), ⟨Nat.zero_le _, x20.trans (e3.trans e2), h20.ext e2, OwnI.nil, nilS, nilS, RS.new (e2.block h3), hon0, fun k hk => by cases hk⟩, (by repeat' (first | exact Sub.nil | refine Sub.val rfl (by first | with_reducible rfl | (congr 1; omega)) ?_ | refine Sub.same rfl ?_))⟩) ?_
  rintro ⟨i, va⟩ w1 ⟨hi, hx1, hv1, hva, kv, lv, hS, hon, hnv⟩
  dsimp only at hi hva hS hnv ⊢
  have hT1 := hT.ext hx1
  have hal : (ofA xs i).length ≤ 65536 := by
    unfold ofA
    split
    · exact Nat.zero_le _
    · rw [baA]; exact cnt_le _ _
  by_cases hil : i < xs.length
  · obtain ⟨c, hc⟩ : ∃ c : Nat, xs.getD i 0 = (c : Int) := ⟨(xs.getD i 0).toNat, by have := i2A hu hil; omega⟩
    have hcb : c < 4294967296 := by have := i2A hu hil; omega
    have hnew := xnA hs hu hil
    have hK2 : ofK xs (i + 1) = c / 65536 := by unfold ofK; rw [Nat.add_sub_cancel, hc, Int.toNat_natCast]
    have ec : IntKind.u16.wrap (c : Int) = ((c % 65536 : Nat) : Int) := by rw [IntKind.wrap_u16]; omega
    rw [hc, Int.toNat_natCast] at hnew
    by_cases hi0 : i = 0
    · rw [if_neg (by omega), if_neg (by omega)] at hnew
      replace hnew := hnew (.inl hi0)
      have hA0 : ofA xs i = [] := by rw [hi0]; rfl
      have hS0 : ofS xs i = fun _ => false := by rw [hi0]; rfl
      have hm0 : bqA (xs.take i) = fun _ => false := by funext x; rw [hi0, List.take_zero]; unfold bqA; exact decide_eq_false (fun h => by cases h)
      rw [hm0] at hnew
      rw [hA0] at hva; rw [hS0] at hS
      repeat' (first|(refine oLA ?_;first|refine a0A rfl ?_|(refine oD 31 ?_; refine bmA (n := 0) rfl _ rfl rfl (HasI.ownV hva).c ?_)|(refine oD 32 ?_; refine g7A rfl rfl rfl rfl (by decide) ?_)|(refine oD 17 ?_; refine atA rfl _ rfl (fun _ => rfl) rfl (HasI.ownV hv1) rfl hil ?_; rw [hc])|(refine oD 56 ?_; refine fjA rfl rfl rfl rfl ?_; rw [ec])|(refine oD 57 ?_; refine f2A rfl ctA rfl rfl ?_)|(refine oD 58 ?_; refine a4A (hK _ _ (dcA (n := 0) (cs := []) rfl (by decide) ctA rfl hva rfl HasC.own (by intro u hu; rw [List.mem_singleton] at hu; subst hu; rfl) (by unfold maxLen; omega) (by omega) (fun v' wa wb' e' ho' hf hl => ?_))); clear hK K; refine amA (by kernel_rfl) (fun K hK => ?_))|refine wOp ?_|(refine wCm ?_ ?_<;>intro hc)|(refine wNl hK ?_;clear hK K))|refine wG ?_|(refine wCR ?_;intro K hK)|fail)
      all_goals skip
      have x4 := hx1.trans e'
      have ho2 : OwnI w.heap.size tK .u16 wb' v' (ofA xs (i + 1)) := by
        rw [hnew.1]; unfold OwnI; rw [List.map_append, List.length_append, List.length_singleton]
        exact Own.rebase ho' (hl.ge (fun k hk => (Own.lt hva k hk).1) x4.size)
      obtain ⟨hS9, hn9⟩ := RS.beside hS hnv hva e' hf hl
      have hv9 := hf.own (hv1.ext e') (fun k h1 h2 => by
        obtain ⟨cur, hcur⟩ := c3A (hv1.ext e') h1
        exact Own.apart (hva.ext e') hcur (by decide) h2)
      have x9 := Fr.ext x4 hf (fun k hk => (Own.lt hva k hk).1)
      exact a7A (i + 1, v') (fun w5 e5 => ⟨hil, x9.trans e5, Own.ext hv9 e5, ho2.ext e5, kv, lv, by dsimp only; rw [hnew.2]; exact hS9.ext e5, hon, hn9⟩) (by dsimp only; omega) (by repeat' (first | exact Sub.nil | refine Sub.val rfl (by first | with_reducible rfl | (congr 1; omega)) ?_ | refine Sub.same rfl ?_))
    · obtain ⟨a, ha⟩ : ∃ a : Nat, xs.getD (i - 1) 0 = (a : Int) := ⟨(xs.getD (i - 1) 0).toNat, by have := i2A hu (i := i - 1) (by omega); omega⟩
      have hab : a < 4294967296 := by have := i2A hu (i := i - 1) (by omega); omega
      have hK1 : ofK xs i = a / 65536 := by unfold ofK; rw [ha, Int.toNat_natCast]
      have hpos := ocA hu (Nat.pos_of_ne_zero hi0) hi
      obtain ⟨K, hKd⟩ : ∃ K, K = ofK xs i := ⟨_, rfl⟩
      have hKlt := trA hu (Nat.pos_of_ne_zero hi0) hi
      have hfull : upd (ofS xs i) (ofK xs i) (bqA (ofA xs i)) = bqA (xs.take i) := by
        have h1 : bqA (ofA xs i) = blk (bqA (xs.take i)) (ofK xs i) := by
          unfold ofA; rw [if_neg hi0]; exact tuA (fun j hj => dtA (by omega))
        rw [h1]; exact obA hs hu (Nat.pos_of_ne_zero hi0) hi
      have hlast : ∀ j, ofK xs i ≤ j → ne (ofS xs i) j = false := fun j hj => by unfold ofS; rw [if_neg hi0]; exact mcA _ hj
      have hAinc : Inc (ofA xs i) := by unfold ofA; rw [if_neg hi0]; exact bdA _ _
      have hAlow : Low (ofA xs i) := by unfold ofA; rw [if_neg hi0]; exact cdA _
      have hFva : Fsh (fun j => A j ∧ va.ownBlock ≠ some j) w1 := fun j hj => ⟨hA j (Nat.le_trans hx1.size hj), fun h => by have := (Own.lt hva j h).2; omega⟩
      have eK : (a : Int) / 65536 = (K : Int) := by rw [hKd, hK1]; omega
      rw [← hKd] at hKlt hfull hlast
      by_cases hac : a = c
      · have hsame := i3A (Nat.pos_of_ne_zero hi0) hil (by rw [ha, hc, hac])
        have hKK : ofK xs (i + 1) = ofK xs i := by rw [hK1, hK2, hac]
        have hA' : ofA xs (i + 1) = ofA xs i := by unfold ofA; rw [if_neg hi0, if_neg (Nat.succ_ne_zero i), hsame, hKK]
        have hS' : ofS xs (i + 1) = ofS xs i := by unfold ofS; rw [if_neg hi0, if_neg (Nat.succ_ne_zero i), hsame, hKK]
        repeat' (first|(refine oLA ?_;first|refine a0A rfl ?_|(refine oD 17 ?_; refine atA rfl _ rfl (fun _ => rfl) rfl (HasI.ownV hv1) rfl hil ?_; rw [hc])|(refine oD 24 ?_; refine a9A rfl rfl rfl (by dsimp only [fits]; omega) ?_; rw [show ((i : Int) - 1) = ((i - 1 : Nat) : Int) by omega])|(refine oD 25 ?_; refine atA rfl _ rfl (fun _ => rfl) rfl (HasI.ownV hv1) rfl (by omega) ?_; rw [ha])|(refine oD 36 ?_; refine a9A rfl rfl rfl (by dsimp only [fits]; omega) ?_; rw [show ((i : Int) - 1) = ((i - 1 : Nat) : Int) by omega])|(refine oD 37 ?_; refine atA rfl _ rfl (fun _ => rfl) rfl (HasI.ownV hv1) rfl (by omega) ?_; rw [ha])|(refine oD 47 ?_; refine a9A rfl rfl rfl (by dsimp only [fits]; omega) ?_; rw [show ((i : Int) - 1) = ((i - 1 : Nat) : Int) by omega])|(refine oD 48 ?_; refine atA rfl _ rfl (fun _ => rfl) rfl (HasI.ownV hv1) rfl (by omega) ?_; rw [ha])|(refine oB .shr ?_; refine f1A rfl rfl rfl (by decide) (by decide) ?_; rw [show (2 : Int) ^ Int.toNat 16 = 65536 by decide])|(refine oD 56 ?_; refine fjA rfl rfl rfl rfl ?_; rw [ec])|(refine oD 57 ?_; refine f2A rfl ctA rfl rfl ?_)|refine wOp ?_|(refine wCm ?_ ?_<;>intro hc)|(refine wNl hK ?_;clear hK K))|refine wG ?_|(refine wCR ?_;intro K hK)|fail)
        all_goals skip
        exact a7A (i + 1, va) (fun w5 e5 => ⟨hil, hx1.trans e5, hv1.ext e5, by dsimp only; rw [hA']; exact hva.ext e5, kv, lv, by dsimp only; rw [hS']; exact hS.ext e5, hon, hnv⟩) (by dsimp only; omega) (by repeat' (first | exact Sub.nil | refine Sub.val rfl (by first | with_reducible rfl | (congr 1; omega)) ?_ | refine Sub.same rfl ?_))
      · replace hnew := hnew (.inr (by rw [ha]; exact fun h => hac (by omega)))
        by_cases hKK : ofK xs i = ofK xs (i + 1)
        · rw [if_pos ⟨Nat.pos_of_ne_zero hi0, hKK⟩, if_pos ⟨Nat.pos_of_ne_zero hi0, hKK⟩] at hnew
          have hk12 : a / 65536 = c / 65536 := by rw [← hK1, hKK, hK2]
          repeat' (first|(refine oLA ?_;first|refine a0A rfl ?_|(refine oD 31 ?_; refine bmA rfl _ rfl rfl (HasI.ownV hva).c ?_)|(refine oD 17 ?_; refine atA rfl _ rfl (fun _ => rfl) rfl (HasI.ownV hv1) rfl hil ?_; rw [hc])|(refine oD 24 ?_; refine a9A rfl rfl rfl (by dsimp only [fits]; omega) ?_; rw [show ((i : Int) - 1) = ((i - 1 : Nat) : Int) by omega])|(refine oD 25 ?_; refine atA rfl _ rfl (fun _ => rfl) rfl (HasI.ownV hv1) rfl (by omega) ?_; rw [ha])|(refine oD 36 ?_; refine a9A rfl rfl rfl (by dsimp only [fits]; omega) ?_; rw [show ((i : Int) - 1) = ((i - 1 : Nat) : Int) by omega])|(refine oD 37 ?_; refine atA rfl _ rfl (fun _ => rfl) rfl (HasI.ownV hv1) rfl (by omega) ?_; rw [ha])|(refine oD 47 ?_; refine a9A rfl rfl rfl (by dsimp only [fits]; omega) ?_; rw [show ((i : Int) - 1) = ((i - 1 : Nat) : Int) by omega])|(refine oD 48 ?_; refine atA rfl _ rfl (fun _ => rfl) rfl (HasI.ownV hv1) rfl (by omega) ?_; rw [ha])|(refine oB .shr ?_; refine f1A rfl rfl rfl (by decide) (by decide) ?_; rw [show (2 : Int) ^ Int.toNat 16 = 65536 by decide])|(refine oD 56 ?_; refine fjA rfl rfl rfl rfl ?_; rw [ec])|(refine oD 57 ?_; refine f2A rfl ctA rfl rfl ?_)|(refine oD 58 ?_; refine a4A (hK _ _ (dcA (n := (ofA xs i).length) (cs := (ofA xs i).map (Value.int .u16)) rfl (by decide) ctA rfl hva rfl HasC.own (by intro u hu; rw [List.mem_singleton] at hu; subst hu; rfl) (by unfold maxLen; omega) (by omega) (fun v' wa wb' e' ho' hf hl => ?_))); clear hK K; refine amA (by kernel_rfl) (fun K hK => ?_))|refine wOp ?_|(refine wCm ?_ ?_<;>intro hc)|(refine wNl hK ?_;clear hK K))|refine wG ?_|(refine wCR ?_;intro K hK)|fail)
          all_goals skip
          have x4 := hx1.trans e'
          have ho2 : OwnI w.heap.size tK .u16 wb' v' (ofA xs (i + 1)) := by
            rw [hnew.1]; unfold OwnI; rw [List.map_append, List.length_append, List.length_singleton]
            exact Own.rebase ho' (hl.ge (fun k hk => (Own.lt hva k hk).1) x4.size)
          obtain ⟨hS9, hn9⟩ := RS.beside hS hnv hva e' hf hl
          have hv9 := hf.own (hv1.ext e') (fun k h1 h2 => by
            obtain ⟨cur, hcur⟩ := c3A (hv1.ext e') h1
            exact Own.apart (hva.ext e') hcur (by decide) h2)
          have x9 := Fr.ext x4 hf (fun k hk => (Own.lt hva k hk).1)
          exact a7A (i + 1, v') (fun w5 e5 => ⟨hil, x9.trans e5, Own.ext hv9 e5, ho2.ext e5, kv, lv, by dsimp only; rw [hnew.2]; exact hS9.ext e5, hon, hn9⟩) (by dsimp only; omega) (by repeat' (first | exact Sub.nil | refine Sub.val rfl (by first | with_reducible rfl | (congr 1; omega)) ?_ | refine Sub.same rfl ?_))
        · rw [if_neg (fun h => hKK h.2), if_neg (fun h => hKK h.2)] at hnew
          have hk12 : a / 65536 ≠ c / 65536 := by rw [← hK1, ← hK2]; exact hKK
          repeat' (first|(refine oLA ?_;first|refine a0A rfl ?_|(refine oD 31 ?_; refine bmA rfl _ rfl rfl (HasI.ownV hva).c ?_)|(refine oD 17 ?_; refine atA rfl _ rfl (fun _ => rfl) rfl (HasI.ownV hv1) rfl hil ?_; rw [hc])|(refine oD 24 ?_; refine a9A rfl rfl rfl (by dsimp only [fits]; omega) ?_; rw [show ((i : Int) - 1) = ((i - 1 : Nat) : Int) by omega])|(refine oD 25 ?_; refine atA rfl _ rfl (fun _ => rfl) rfl (HasI.ownV hv1) rfl (by omega) ?_; rw [ha])|(refine oD 36 ?_; refine a9A rfl rfl rfl (by dsimp only [fits]; omega) ?_; rw [show ((i : Int) - 1) = ((i - 1 : Nat) : Int) by omega])|(refine oD 37 ?_; refine atA rfl _ rfl (fun _ => rfl) rfl (HasI.ownV hv1) rfl (by omega) ?_; rw [ha])|(refine oD 47 ?_; refine a9A rfl rfl rfl (by dsimp only [fits]; omega) ?_; rw [show ((i : Int) - 1) = ((i - 1 : Nat) : Int) by omega])|(refine oD 48 ?_; refine atA rfl _ rfl (fun _ => rfl) rfl (HasI.ownV hv1) rfl (by omega) ?_; rw [ha])|(refine oB .shr ?_; refine f1A rfl rfl rfl (by decide) (by decide) ?_; rw [show (2 : Int) ^ Int.toNat 16 = 65536 by decide])|(refine oD 56 ?_; refine fjA rfl rfl rfl rfl ?_; rw [ec])|(refine oD 57 ?_; refine f2A rfl ctA rfl rfl ?_)|refine wOp ?_|(refine wCm ?_ ?_<;>intro hc)|(refine wNl hK ?_;clear hK K))|refine wG ?_|(refine wCR ?_;intro K hK)|fail)
          all_goals skip
          refine a4A (hK _ _ (caA rfl (by decide) rfl rfl rfl rfl (fun v w' => v = .tuple #[] ∧ ∃ wz, Ext w1 wz ∧ Mut (fun j => A j ∧ va.ownBlock ≠ some j) wz b kv lv (bqA (xs.take i)) w') (fun w8 e8 => ?_) (fun v w2 hm => ?_)))
          · rw [eK]
            exact (tpA (hx1.trans e8) hT hon (hS.ext e8) (hFva.ext e8) hKlt hlast (hva.ext e8).slI hAinc hAlow hpos).mono (fun en w' h => ⟨_, h.1, rfl, _, e8, hfull ▸ h.2⟩)
          clear hK K
          obtain ⟨rfl, wz, ez, kv9, lv9, m1, m2, m3, m4⟩ := hm
          have x2 := Fr.ext (hx1.trans ez) m2 hon
          have hon9 := ivA hon (hx1.trans ez).size m3 m4
          have hv2 : OwnI w.heap.size 39 .u32 w2 v8 xs := m2.own (hv1.ext ez) (RS.off (hS.ext ez) (hv1.ext ez) ⟨by decide, by decide, by decide⟩)
          have hS2 : RS (fun j => A j ∧ nilS.ownBlock ≠ some j) w2 b kv9 lv9 (bqA (xs.take i)) := m1.mono fun j _ ha _ => ⟨ha.1, fun h => by cases h⟩
          repeat' (first|(refine oLA ?_;first|refine a0A rfl ?_|(refine oD 56 ?_; refine fjA rfl rfl rfl rfl ?_; rw [ec])|(refine oD 57 ?_; refine f2A rfl ctA rfl rfl ?_)|(refine oD 58 ?_; refine a4A (hK _ _ (dcA (n := 0) (cs := []) rfl (by decide) ctA rfl (Own.nil (base := w.heap.size) (e := tK) (s := 1)) rfl HasC.own (by intro u hu; rw [List.mem_singleton] at hu; subst hu; rfl) (by unfold maxLen; omega) (by omega) (fun v' wa wb' e' ho' hf hl => ?_))); clear hK K; refine amA (by kernel_rfl) (fun K hK => ?_))|refine wOp ?_|(refine wCm ?_ ?_<;>intro hc)|(refine wNl hK ?_;clear hK K))|refine wG ?_|(refine wCR ?_;intro K hK)|fail)
          all_goals skip
          have hvn : OwnI w.heap.size tK .u16 w2 nilS [] := OwnI.nil
          have x4 := x2.trans e'
          have ho2 : OwnI w.heap.size tK .u16 wb' v' (ofA xs (i + 1)) := by
            rw [hnew.1]; unfold OwnI; rw [List.map_append, List.length_append, List.length_singleton]
            exact Own.rebase ho' (hl.ge (fun k hk => (Own.lt hvn k hk).1) x4.size)
          obtain ⟨hS9, hn9⟩ := RS.beside hS2 (fun k h => by cases h) hvn e' hf hl
          have hv9 := hf.own (hv2.ext e') (fun k h1 h2 => by
            obtain ⟨cur, hcur⟩ := c3A (hv2.ext e') h1
            exact Own.apart (hvn.ext e') hcur (by decide) h2)
          have x9 := Fr.ext x4 hf (fun k hk => (Own.lt hvn k hk).1)
          exact a7A (i + 1, v') (fun w5 e5 => ⟨hil, x9.trans e5, Own.ext hv9 e5, ho2.ext e5, kv9, lv9, by dsimp only; rw [hnew.2]; exact hS9.ext e5, hon9, hn9⟩) (by dsimp only; omega) (by repeat' (first | exact Sub.nil | refine Sub.val rfl (by first | with_reducible rfl | (congr 1; omega)) ?_ | refine Sub.same rfl ?_))
  · have hie : i = xs.length := by omega
    have hmx : bqA (xs.take i) = bqA xs := by rw [hie, List.take_length]
    by_cases hi0 : i = 0
    · have hA0 : ofA xs i = [] := by rw [hi0]; rfl
      have hS0 : ofS xs i = bqA xs := by
        rw [← hmx, hi0, List.take_zero]
        funext x; exact (decide_eq_false (fun h => by cases h) : bqA [] x = false).symm
      rw [hA0] at hva; rw [hS0] at hS
      repeat' (first|(refine oLA ?_;first|refine a0A rfl ?_|(refine oD 61 ?_; refine bmA (n := 0) rfl _ rfl rfl (HasI.ownV hva).c ?_)|(refine oD 62 ?_; refine g7A rfl rfl rfl rfl (by decide) ?_)|refine wOp ?_|(refine wCm ?_ ?_<;>intro hc)|(refine wNl hK ?_;clear hK K))|refine wG ?_|(refine wCR ?_;intro K hK)|fail)
      all_goals skip
      exact aoA rfl rfl hx1 (fun u w5 e5 hu => by obtain rfl : u = _ := hu; exact ⟨b, kv, lv, rfl, (hS.ext e5).mono fun j _ ha _ => ha.1, fun k hk => hB k (hon k hk)⟩)
    · obtain ⟨a, ha⟩ : ∃ a : Nat, xs.getD (i - 1) 0 = (a : Int) := ⟨(xs.getD (i - 1) 0).toNat, by have := i2A hu (i := i - 1) (by omega); omega⟩
      have hab : a < 4294967296 := by have := i2A hu (i := i - 1) (by omega); omega
      have hK1 : ofK xs i = a / 65536 := by unfold ofK; rw [ha, Int.toNat_natCast]
      have hpos := ocA hu (Nat.pos_of_ne_zero hi0) hi
      obtain ⟨K, hKd⟩ : ∃ K, K = ofK xs i := ⟨_, rfl⟩
      have hKlt := trA hu (Nat.pos_of_ne_zero hi0) hi
      have hfull : upd (ofS xs i) (ofK xs i) (bqA (ofA xs i)) = bqA (xs.take i) := by
        have h1 : bqA (ofA xs i) = blk (bqA (xs.take i)) (ofK xs i) := by
          unfold ofA; rw [if_neg hi0]; exact tuA (fun j hj => dtA (by omega))
        rw [h1]; exact obA hs hu (Nat.pos_of_ne_zero hi0) hi
      have hlast : ∀ j, ofK xs i ≤ j → ne (ofS xs i) j = false := fun j hj => by unfold ofS; rw [if_neg hi0]; exact mcA _ hj
      have hAinc : Inc (ofA xs i) := by unfold ofA; rw [if_neg hi0]; exact bdA _ _
      have hAlow : Low (ofA xs i) := by unfold ofA; rw [if_neg hi0]; exact cdA _
      have hFva : Fsh (fun j => A j ∧ va.ownBlock ≠ some j) w1 := fun j hj => ⟨hA j (Nat.le_trans hx1.size hj), fun h => by have := (Own.lt hva j h).2; omega⟩
      have eK : (a : Int) / 65536 = (K : Int) := by rw [hKd, hK1]; omega
      rw [← hKd] at hKlt hfull hlast
      rw [hmx] at hfull
      rw [hie] at ha
      repeat' (first|(refine oLA ?_;first|refine a0A rfl ?_|(refine oD 61 ?_; refine bmA rfl _ rfl rfl (HasI.ownV hva).c ?_)|(refine cxA ?_; refine bmA rfl _ rfl rfl (HasI.ownV hv1).c ?_)|(refine oD 67 ?_; refine a9A rfl rfl rfl (by dsimp only [fits]; omega) ?_; rw [show ((xs.length : Int) - 1) = ((xs.length - 1 : Nat) : Int) by omega])|(refine oD 68 ?_; refine atA rfl _ rfl (fun _ => rfl) rfl (HasI.ownV hv1) rfl (by omega) ?_; rw [ha])|(refine oB .shr ?_; refine f1A rfl rfl rfl (by decide) (by decide) ?_; rw [show (2 : Int) ^ Int.toNat 16 = 65536 by decide])|refine wOp ?_|(refine wCm ?_ ?_<;>intro hc)|(refine wNl hK ?_;clear hK K))|refine wG ?_|(refine wCR ?_;intro K hK)|fail)
      all_goals skip
      refine a4A (hK _ _ (caA rfl (by decide) rfl rfl rfl rfl (fun v w' => v = .tuple #[] ∧ ∃ wz, Ext w1 wz ∧ Mut (fun j => A j ∧ va.ownBlock ≠ some j) wz b kv lv (bqA xs) w') (fun w8 e8 => ?_) (fun v w2 hm => ?_)))
      · rw [eK]
        exact (tpA (hx1.trans e8) hT hon (hS.ext e8) (hFva.ext e8) hKlt hlast (hva.ext e8).slI hAinc hAlow hpos).mono (fun en w' h => ⟨_, h.1, rfl, _, e8, hfull ▸ h.2⟩)
      clear hK K
      obtain ⟨rfl, wz, ez, kv9, lv9, m1, m2, m3, m4⟩ := hm
      have x2 := Fr.ext (hx1.trans ez) m2 hon
      have hon9 := ivA hon (hx1.trans ez).size m3 m4
      repeat' (first|(refine oLA ?_;first|refine a0A rfl ?_|refine wOp ?_|(refine wCm ?_ ?_<;>intro hc)|(refine wNl hK ?_;clear hK K))|refine wG ?_|(refine wCR ?_;intro K hK)|fail)
      all_goals skip
      exact aoA rfl rfl x2 (fun u w5 e5 hu => by obtain rfl : u = _ := hu; exact ⟨b, kv9, lv9, rfl, (m1.ext e5).mono fun j _ ha _ => ha.1, fun k hk => hB k (hon9 k hk)⟩)
end Go.Proofs.YtfcioiobhpcngaaGreatDoor
end
section
set_option linter.unusedSimpArgs false
set_option linter.unusedVariables false
set_option maxRecDepth 3000
namespace Go.Proofs.YtfcioiobhpcngaaGreatDoor
open Go.LA Go.ArrP Go.RowKit
theorem uvA (lo hi : Nat) : rng (fun _ => false) lo hi = itv lo hi := by funext y; unfold rng itv; rw [Bool.false_or]
theorem vkA : b7A (itv 65535 65538) = [0, 1] := by
  refine rmA (by unfold Inc; decide) (fun z => ?_)
  constructor
  · intro h
    simp only [List.mem_cons, List.not_mem_nil, or_false] at h
    rcases h with rfl | rfl
    · exact ⟨0, by decide, ne_iff.2 ⟨65535, by decide, by decide⟩, rfl⟩
    · exact ⟨1, by decide, ne_iff.2 ⟨0, by decide, by decide⟩, rfl⟩
  · rintro ⟨i, h1, h2, rfl⟩
    obtain ⟨j, h3, h4⟩ := ne_iff.1 h2
    have := itv_iff.1 h4
    simp only [List.mem_cons, List.not_mem_nil, or_false]
    omega
theorem xyA : cnt (itv 65535 65538) TOP = 3 := by rw [l6A, e2A]; decide
theorem vjA : cnt (itv 65535 65538) (min 65537 TOP) = 2 := by rw [l6A, e2A]; decide
theorem kn_sp : spL (neA 4 (bqA [5, 1])) TOP = [(0, 1), (2, 4)] := by
  have hm : ∀ x, neA 4 (bqA [5, 1]) x = true ↔ x = 0 ∨ x = 2 ∨ x = 3 := fun x => by
    unfold neA bqA
    rw [Bool.and_eq_true, Bool.not_eq_true', decide_eq_true_iff, decide_eq_false_iff_not, e2A]
    simp only [List.mem_cons, List.not_mem_nil, or_false]
    omega
  have hf : ∀ x, ¬ (x = 0 ∨ x = 2 ∨ x = 3) → neA 4 (bqA [5, 1]) x = false := fun x h => by
    cases h1 : neA 4 (bqA [5, 1]) x
    · rfl
    · exact absurd ((hm x).1 h1) h
  have h1 := nvA (p := neA 4 (bqA [5, 1])) (a := 0) (lo := 0) (hi := 1) (b := 1) (l := []) (ntA _) (.inr ⟨rfl, rfl⟩) (by decide) (by decide) (fun x _ h => by omega) (fun x _ h => (hm x).2 (by omega)) (fun x h1 h2 => by omega)
  exact nvA (lo := 2) (hi := 4) h1 (.inl (by decide)) (by decide) (by rw [e2A]; decide) (fun x h1 h2 => hf x (by omega)) (fun x h1 h2 => (hm x).2 (by omega)) (fun x h1 h2 => hf x (by omega))
theorem h8A (w : World) (hT : Tab w) : Fc Tryz.prog 10 #[] w (Ret w (.val (.bool true))) := by
  have htop := e2A
  refine Fc.of (args := []) Tryz.func10 rfl rfl Tryz.ntmps10 (Nat.le_of_ble_eq_true rfl) ?_
  repeat' (first|(refine oLA ?_;first|refine a0A rfl ?_|(refine oD 5 ?_; refine a4A (hK _ _ (c5A 1 rfl (fun v1 w1 e1 h1 => ?_))); clear hK K; obtain ⟨b, kv0, lv0, rfl, hS0, hB0⟩ := h1; refine amA (by kernel_rfl) (fun K hK => dfA rfl rfl ?_))|(refine oD 6 ?_; refine a4A (hK _ _ (caA rfl (by decide) rfl rfl rfl rfl (fun v w' => v = .tuple #[] ∧ ∃ wz, Ext w1 wz ∧ Mut TT wz b kv0 lv0 (itv 65535 65538) w') (fun w8 e8 => ?_) (fun v w2 hm => ?_))); clear hK K)|refine wOp ?_|(refine wCm ?_ ?_<;>intro hc)|(refine oCv ?_;first|(refine oC 11 ?_; refine dkA (f := 11) rfl rfl  (.pred (rsP (fun k => w.heap.size ≤ k) TT (fun _ => false))) (by intro w e; exact new_c _ (fun k hk => Nat.le_trans e.size hk)) ?_))|(refine wNl hK ?_;clear hK K))|refine wG ?_|(refine wCR ?_;intro K hK)|fail)
  · have := ieA (e1.trans e8) hT hB0 (hS0.ext e8) tt (lo := 65535) (hi := 65538) (by decide) (by decide)
    rw [uvA, show min 65538 TOP = 65538 by omega] at this
    exact this.mono fun en w' h => ⟨_, h.1, rfl, _, e8, h.2⟩
  obtain ⟨rfl, wz, ez, kv, lv, hS, hF, hl1, hl2⟩ := hm
  have x2 := Fr.ext (e1.trans ez) hF hB0
  have hN : NSet TT TT w2 (.pointer (some ⟨b, 0, none⟩)) (itv 65535 65538) := .inr ⟨b, kv, lv, rfl, hS, fun _ _ => trivial⟩
  have hT2 := hT.ext x2
  have hkeys : ∀ w', Ext w2 w' → _ := fun w' e => orA (hN.ext e)
  have hlen : ∀ w', Ext w2 w' → _ := fun w' e => rnA (hN.ext e)
  have hrank : ∀ w', Ext w2 w' → _ := fun w' e => tnA (x := 65537) (hN.ext e) (by decide)
  have hruns : ∀ w', Ext w2 w' → ∀ u, RSet TT TT w' u (neA 4 (bqA [5, 1])) → _ := fun w' e u hu => x9A (B := TT) (A := TT) (.inr hu) (hT2.ext e)
  rw [vkA] at hkeys
  rw [xyA] at hlen
  rw [vjA] at hrank
  rw [kn_sp] at hruns
  clear hS hF htop
  repeat' (first|(refine oLA ?_;first|refine a0A rfl ?_|(refine oD 9 ?_; refine mpA rfl u0A rfl rfl rfl rfl ?_)|(refine oD 23 ?_; refine atA (j := 1) rfl _ rfl (fun _ => rfl) rfl HasI.own rfl (by decide) ?_)|(refine oD 18 ?_; refine bmA (n := 2) rfl _ rfl rfl HasI.own.c ?_)|(refine oD 24 ?_; refine e4A (c := .int .u16 1) rfl (fun _ => rfl) rfl ?_)|(refine oD 36 ?_; refine whA rfl diA rfl rfl ?_)|(refine oD 34 ?_; refine cnA (c := spV .u64 (0, 1)) rfl rfl rfl (fun w => run_build w _ _ _ (by kernel_rfl)) ?_)|(refine oD 35 ?_; refine cnA (c := spV .u64 (2, 4)) rfl rfl rfl (fun w => run_build w _ _ _ (by kernel_rfl)) ?_)|refine wOp ?_|(refine wCm ?_ ?_<;>intro hc)|(refine oCv ?_;first|(refine oC 40 ?_; refine a1A (f := 40) rfl rfl rfl  (.pred (blA w2.heap.size tK .u16 [0, 1])) (by intro u1 w e hu1; (try obtain rfl : u1 = _ := hu1); exact (hkeys _ e).mono (aaA e.size)) ?_)|(refine oC 25 ?_; refine a1A (f := 25) rfl rfl rfl  (.pred (rsP TT TT (bqA [5, 1]))) (by intro u1 w e hu1; (try obtain rfl : u1 = _ := hu1); exact of_s (ys := [5, 1]) (Own.slC hu1) (by intro x hx; simp only [List.mem_cons, List.not_mem_nil, or_false] at hx; omega) (by decide) (hT2.ext e) tt tt) ?_)|(refine oC 30 ?_; refine a3A (f := 30) rfl rfl rfl rfl  (.pred (rsP TT TT (neA 4 (bqA [5, 1])))) (by intro u1 u2 w e hu1 hu2; (try obtain rfl : u1 = _ := hu1); (try obtain rfl : u2 = _ := hu2); exact not_s (n := 4) (B1 := TT) (.inr hu1) (by decide) (hT2.ext e) tt tt) ?_)|(refine oC 19 ?_; refine a1A (f := 19) rfl rfl rfl  (.pred (xiA w2.heap.size tSp .u64 [(0, 1), (2, 4)])) (by intro u1 w e hu1; (try obtain rfl : u1 = _ := hu1); exact (hruns _ e _ hu1).mono (o5A e.size rfl)) ?_)|(refine oC 15 ?_; refine a1A (f := 15) rfl rfl rfl  (.val (.int .i64 3)) (by intro u1 w e hu1; (try obtain rfl : u1 = _ := hu1); exact hlen _ e) ?_)|(refine oC 16 ?_; refine a3A (f := 16) rfl rfl rfl rfl  (.val (.int .i64 2)) (by intro u1 u2 w e hu1 hu2; (try obtain rfl : u1 = _ := hu1); (try obtain rfl : u2 = _ := hu2); exact hrank _ e) ?_)|(refine oC 18 ?_; refine a3A (f := 18) rfl rfl rfl rfl  (.val (.bool true)) (by intro u1 u2 w e hu1 hu2; (try obtain rfl : u1 = _ := hu1); (try obtain rfl : u2 = _ := hu2); exact alA (by rw [decide_eq_true rfl]) (usA _ _ _ [(0, 1), (2, 4)] [(0, 1), (2, 4)] (OwnP.slP hu1) (Own.slC hu2))) ?_))|(refine wNl hK ?_;clear hK K))|refine wG ?_|(refine wCR ?_;intro K hK)|fail)
  all_goals skip
  all_goals exact abA rfl rfl x2 rfl
end Go.Proofs.YtfcioiobhpcngaaGreatDoor
end
section
set_option linter.unusedSimpArgs false
set_option linter.unusedVariables false
set_option maxRecDepth 3000
namespace Go.Proofs.YtfcioiobhpcngaaGreatDoor
open Go.LA Go.ArrP Go.RowKit
def kk (x : Sp) : Int := if x.1 < x.2 ∧ x.1 < 4294967296 then min x.2 4294967296 - x.1 else 0
def p0A (xs : List Sp) : Nat → Int
  | 0 => 0
  | i + 1 => if (xs.getD i (0, 0)).1 < (xs.getD i (0, 0)).2 ∧ (xs.getD i (0, 0)).1 < 4294967296 then IntKind.u64.wrap (p0A xs i + kk (xs.getD i (0, 0))) else p0A xs i
theorem ozA (xs : List Sp) (i : Nat) : p0A xs (i + 1) = if (xs.getD i (0, 0)).1 < (xs.getD i (0, 0)).2 ∧ (xs.getD i (0, 0)).1 < 4294967296 then IntKind.u64.wrap (p0A xs i + kk (xs.getD i (0, 0))) else p0A xs i := rfl
noncomputable def grt (xs : List Sp) : Bool := cdec (∃ j, j < xs.length ∧ 200000 < kk (xs.getD j (0, 0))) || (decide (60 < xs.length) || decide (300000 < p0A xs xs.length))
theorem vpA {w : World} {v : Value} {xs : List Sp} (h : SlP .u64 w v xs) (hx : U64 xs) : Fc Tryz.prog 21 #[v] w (Ret w (.val (.bool (grt xs)))) := by
  have hlen := h.len
  refine Fc.of (args := [_]) Tryz.func21 rfl rfl Tryz.ntmps21 (Nat.le_of_ble_eq_true rfl) ?_
  repeat' (first|(refine oLA ?_;first|refine a0A rfl ?_|(refine cxA ?_; refine ddA rfl _ rfl rfl (HasP.val h) ?_)|refine wOp ?_|(refine wCm ?_ ?_<;>intro hc)|(refine wNl hK ?_;clear hK K))|refine wG ?_|(refine wCR ?_;intro K hK)|fail)
  refine b6A (ι := Nat) (fun i => [(0, .val v), (3, .val (.int .u64 (p0A xs i))), (7, .val (.int .i64 xs.length)), (8, .val (.int .i64 i))]) (fun i => i ≤ xs.length ∧ ∀ j, j < i → kk (xs.getD j (0, 0)) ≤ 200000) (fun i => xs.length - i) 0 ⟨Nat.zero_le _, fun j hj => absurd hj (Nat.not_lt_zero j)⟩ (by repeat' (first | exact Sub.nil | refine Sub.val rfl (by first | with_reducible rfl | (congr 1; omega)) ?_ | refine Sub.same rfl ?_)) ?_
  rintro i ⟨hi, hk0⟩
  by_cases hil : i < xs.length
  · obtain ⟨u1, u2, u3, u4⟩ := hx _ (k4A hil)
    have hg := ozA xs i
    have hb : 200000 < kk (xs.getD i (0, 0)) → grt xs = true := fun h => by unfold grt; rw [cdec_iff.2 ⟨i, hil, h⟩]; rfl
    have hk1 : kk (xs.getD i (0, 0)) ≤ 200000 → ∀ j, j < i + 1 → kk (xs.getD j (0, 0)) ≤ 200000 := fun h j hj => by
      by_cases e : j < i
      · exact hk0 j e
      · obtain rfl : j = i := by omega
        exact h
    have hkk : kk (xs.getD i (0, 0)) = if (xs.getD i (0, 0)).1 < (xs.getD i (0, 0)).2 ∧ (xs.getD i (0, 0)).1 < 4294967296 then min (xs.getD i (0, 0)).2 4294967296 - (xs.getD i (0, 0)).1 else 0 := rfl
    obtain ⟨k, hk⟩ : ∃ k, k = kk (xs.getD i (0, 0)) := ⟨_, rfl⟩
    rw [← hk] at hg hb hk1 hkk
    obtain ⟨lo, hlo⟩ : ∃ lo, (xs.getD i (0, 0)).1 = lo := ⟨_, rfl⟩
    obtain ⟨hi', hhi⟩ : ∃ hi, (xs.getD i (0, 0)).2 = hi := ⟨_, rfl⟩
    rw [hlo, hhi] at hg hkk
    rw [hlo] at u1 u2; rw [hhi] at u3 u4
    obtain ⟨s0, hs0⟩ : ∃ s, s = p0A xs i := ⟨_, rfl⟩
    obtain ⟨s1, hs1⟩ : ∃ s, s = p0A xs (i + 1) := ⟨_, rfl⟩
    rw [← hs0, ← hs1] at hg
    rw [← hs0]
    clear hs0 hk hk0
    by_cases c1 : lo < hi'
    · by_cases c2 : lo < 4294967296
      · rw [if_pos ⟨c1, c2⟩] at hg hkk
        by_cases c3 : 200000 < k
        · rw [hb c3]
          clear hg hb hk1 hs1 hx
          repeat' (first|(refine oLA ?_;first|refine a0A rfl ?_|(refine oI ?_; refine clA rfl _ rfl (fun _ => rfl) rfl (HasP.val h) rfl hil ?_; rw [hlo, hhi])|(refine oF 0 ?_; refine akA (f := 0) (o := 0) rfl rfl (fun _ _ => rfl) ?_)|(refine oF 1 ?_; refine akA (f := 1) (o := 1) rfl rfl (fun _ _ => rfl) ?_)|(refine oL ?_; refine c7A rfl (fun _ => rfl) rfl rfl ?_)|(refine chA rfl rfl rfl ?_)|(refine oD 41 ?_; refine a9A rfl rfl rfl (by dsimp only [fits]; omega) ?_; rw [← hkk])|refine wOp ?_|(refine wCm ?_ ?_<;>intro hc)|(refine wNl hK ?_;clear hK K))|refine wG ?_|(refine wCR ?_;intro K hK)|fail)
          all_goals skip
          exact abA rfl rfl (Ext.refl _) rfl
        · replace hk1 := hk1 (by omega)
          clear hb hx
          repeat' (first|(refine oLA ?_;first|refine a0A rfl ?_|(refine oI ?_; refine clA rfl _ rfl (fun _ => rfl) rfl (HasP.val h) rfl hil ?_; rw [hlo, hhi])|(refine oF 0 ?_; refine akA (f := 0) (o := 0) rfl rfl (fun _ _ => rfl) ?_)|(refine oF 1 ?_; refine akA (f := 1) (o := 1) rfl rfl (fun _ _ => rfl) ?_)|(refine oL ?_; refine c7A rfl (fun _ => rfl) rfl rfl ?_)|(refine chA rfl rfl rfl ?_)|(refine oD 41 ?_; refine a9A rfl rfl rfl (by dsimp only [fits]; omega) ?_; rw [← hkk])|(refine oD 46 ?_; refine jmA rfl rfl rfl ?_; rw [← hg])|refine wOp ?_|(refine wCm ?_ ?_<;>intro hc)|(refine wNl hK ?_;clear hK K))|refine wG ?_|(refine wCR ?_;intro K hK)|fail)
          all_goals skip
          exact bpA (i + 1) ⟨hil, hk1⟩ (by omega) (by rw [← hs1]; (repeat' (first | exact Sub.nil | (refine Sub.val rfl ?_ ?_; first | with_reducible rfl | (congr 1; omega)) | refine Sub.same rfl ?_)); done)
      · rw [if_neg (fun h => c2 h.2)] at hg hkk
        replace hk1 := hk1 (by omega)
        clear hb hx
        subst hg
        repeat' (first|(refine oLA ?_;first|refine a0A rfl ?_|(refine oI ?_; refine clA rfl _ rfl (fun _ => rfl) rfl (HasP.val h) rfl hil ?_; rw [hlo, hhi])|(refine oF 0 ?_; refine akA (f := 0) (o := 0) rfl rfl (fun _ _ => rfl) ?_)|(refine oF 1 ?_; refine akA (f := 1) (o := 1) rfl rfl (fun _ _ => rfl) ?_)|(refine oL ?_; refine c7A rfl (fun _ => rfl) rfl rfl ?_)|(refine chA rfl rfl rfl ?_)|(refine oD 41 ?_; refine a9A rfl rfl rfl (by dsimp only [fits]; omega) ?_; rw [← hkk])|refine wOp ?_|(refine wCm ?_ ?_<;>intro hc)|(refine wNl hK ?_;clear hK K))|refine wG ?_|(refine wCR ?_;intro K hK)|fail)
        all_goals skip
        exact bpA (i + 1) ⟨hil, hk1⟩ (by omega) (by rw [← hs1]; (repeat' (first | exact Sub.nil | (refine Sub.val rfl ?_ ?_; first | with_reducible rfl | (congr 1; omega)) | refine Sub.same rfl ?_)); done)
    · rw [if_neg (fun h => c1 h.1)] at hg hkk
      replace hk1 := hk1 (by omega)
      clear hb hx
      subst hg
      repeat' (first|(refine oLA ?_;first|refine a0A rfl ?_|(refine oI ?_; refine clA rfl _ rfl (fun _ => rfl) rfl (HasP.val h) rfl hil ?_; rw [hlo, hhi])|(refine oF 0 ?_; refine akA (f := 0) (o := 0) rfl rfl (fun _ _ => rfl) ?_)|(refine oF 1 ?_; refine akA (f := 1) (o := 1) rfl rfl (fun _ _ => rfl) ?_)|(refine oL ?_; refine c7A rfl (fun _ => rfl) rfl rfl ?_)|(refine chA rfl rfl rfl ?_)|(refine oD 41 ?_; refine a9A rfl rfl rfl (by dsimp only [fits]; omega) ?_; rw [← hkk])|refine wOp ?_|(refine wCm ?_ ?_<;>intro hc)|(refine wNl hK ?_;clear hK K))|refine wG ?_|(refine wCR ?_;intro K hK)|fail)
      all_goals skip
      exact bpA (i + 1) ⟨hil, hk1⟩ (by omega) (by rw [← hs1]; (repeat' (first | exact Sub.nil | (refine Sub.val rfl ?_ ?_; first | with_reducible rfl | (congr 1; omega)) | refine Sub.same rfl ?_)); done)
  · obtain rfl : i = xs.length := by omega
    have hno : cdec (∃ j, j < xs.length ∧ 200000 < kk (xs.getD j (0, 0))) = false := by
      rw [Bool.eq_false_iff]; intro hc
      obtain ⟨j, h1, h2⟩ := cdec_iff.1 hc
      have := hk0 j h1
      omega
    have hgr : grt xs = (decide (60 < xs.length) || decide (300000 < p0A xs xs.length)) := by unfold grt; rw [hno, Bool.false_or]
    obtain ⟨s, hs⟩ : ∃ s, s = p0A xs xs.length := ⟨_, rfl⟩
    rw [← hs] at hgr ⊢
    clear hno hs hk0
    by_cases c1 : 60 < xs.length
    · rw [decide_eq_true c1, Bool.true_or] at hgr
      rw [hgr]
      repeat' (first|(refine oLA ?_;first|refine a0A rfl ?_|(refine cxA ?_; refine ddA rfl _ rfl rfl (HasP.val h) ?_)|refine wOp ?_|(refine wCm ?_ ?_<;>intro hc)|(refine wNl hK ?_;clear hK K))|refine wG ?_|(refine wCR ?_;intro K hK)|fail)
      exact abA rfl rfl (Ext.refl _) rfl
    · rw [decide_eq_false c1, Bool.false_or] at hgr
      rw [hgr]
      by_cases c2 : 300000 < s
      · rw [decide_eq_true c2]
        repeat' (first|(refine oLA ?_;first|refine a0A rfl ?_|(refine cxA ?_; refine ddA rfl _ rfl rfl (HasP.val h) ?_)|refine wOp ?_|(refine wCm ?_ ?_<;>intro hc)|(refine wNl hK ?_;clear hK K))|refine wG ?_|(refine wCR ?_;intro K hK)|fail)
        exact abA rfl rfl (Ext.refl _) rfl
      · rw [decide_eq_false c2]
        repeat' (first|(refine oLA ?_;first|refine a0A rfl ?_|(refine cxA ?_; refine ddA rfl _ rfl rfl (HasP.val h) ?_)|refine wOp ?_|(refine wCm ?_ ?_<;>intro hc)|(refine wNl hK ?_;clear hK K))|refine wG ?_|(refine wCR ?_;intro K hK)|fail)
        exact abA rfl rfl (Ext.refl _) rfl
end Go.Proofs.YtfcioiobhpcngaaGreatDoor
end
section
set_option linter.unusedSimpArgs false
set_option linter.unusedVariables false
set_option maxRecDepth 3000
namespace Go.Proofs.YtfcioiobhpcngaaGreatDoor
open Go.LA Go.ArrP Go.RowKit
theorem ujA (lo hi : Nat) : spU [((lo : Int), (hi : Int))] = itv lo (min hi TOP) := nuA lo hi
theorem y8A {lo T L x : Nat} (hL : L = min lo T) (h1 : L ≤ x) (h2 : x < T) : lo ≤ x := by omega
theorem y9A {T x : Nat} (hT : T = 4294967296) (h2 : x < T) : x < 18446744073709551616 := by omega
theorem rcuts_s (w : World) (hT : Tab w) {v : Value} {xs : List Sp} (h : SlP .u64 w v xs) (hx : U64 xs) (hby : (1 + xs.length) * 16 ≤ 140737488355328) {lo hi : Nat} (hlo : lo < 18446744073709551616) (hhi : hi < 18446744073709551616) :
    Fc Tryz.prog 7 #[v, .int .u64 lo, .int .u64 hi] w (Ret w (.val (.bool true))) := by
  have htop := e2A
  have hlen := h.len
  have hap : c4A .u64 [((lo : Int), (hi : Int))] ++ c4A .u64 xs = c4A .u64 (((lo : Int), (hi : Int)) :: xs) := rfl
  have hys : U64 (((lo : Int), (hi : Int)) :: xs) := fun x hm => by
    rcases List.mem_cons.1 hm with rfl | hm
    · dsimp only; omega
    · exact hx x hm
  have hcut := p9A (spU xs) lo (min hi TOP) TOP
  rw [show min (min hi TOP) TOP = min hi TOP by omega] at hcut
  have hm1 := cnt_mono (spU xs) (m := min lo TOP) TOP (by omega)
  have hm2 := cnt_mono (spU xs) (m := min hi TOP) TOP (by omega)
  have hm3 : lo < hi → cnt (spU xs) (min lo TOP) ≤ cnt (spU xs) (min hi TOP) := fun h => cnt_mono (spU xs) (m := min lo TOP) _ (by omega)
  have hsel := qvA (spU xs) (L := min lo TOP) (T := TOP)
  have hbd := cnt_le (spU xs) TOP
  rw [show min lo (min hi TOP) = min (min lo TOP) (min hi TOP) by omega] at hcut
  have hmm : (lo < hi → min (min lo TOP) (min hi TOP) = min lo TOP) ∧ (¬ lo < hi → min (min lo TOP) (min hi TOP) = min hi TOP) := ⟨fun _ => by omega, fun _ => by omega⟩
  have hsn : ¬ cnt (spU xs) (min lo TOP) < cnt (spU xs) TOP → qgA (spU xs) TOP (cnt (spU xs) (min lo TOP) : Int) = (0, false) := fun h => klA (.inr (by omega))
  have hpw : ∀ w', Ext w w' → _ := fun w' e => kiA (A := TT) (B := TT) (h.ext e) hx (hT.ext e) tt tt
  obtain ⟨p, hp⟩ : ∃ p, p = spU xs := ⟨_, rfl⟩
  rw [← hp] at hcut hm1 hm2 hm3 hsel hbd hsn hpw
  obtain ⟨m, hm⟩ : ∃ m, m = cnt (two (fun x y => x && y) p (itv lo (min hi TOP))) TOP := ⟨_, rfl⟩
  obtain ⟨L, hL⟩ : ∃ L, L = min lo TOP := ⟨_, rfl⟩
  obtain ⟨H, hH⟩ : ∃ H, H = min hi TOP := ⟨_, rfl⟩
  obtain ⟨n, hn⟩ : ∃ n, n = cnt p TOP := ⟨_, rfl⟩
  rw [← hm] at hcut
  rw [← hL, ← hH] at hcut hmm
  rw [← hH] at hm2 hm3
  rw [← hL] at hm1 hm3 hsel hsn
  rw [← hn] at hm1 hm2 hsel hsn hbd
  have hmL : lo < hi → (m : Int) = (cnt p H : Int) - (cnt p L : Int) := fun h => by
    have := hm3 h
    rw [hmm.1 h] at hcut; omega
  have hm0 : ¬ lo < hi → m = 0 := fun h => by rw [hmm.2 h] at hcut; omega
  refine Fc.of (args := [_, _, _]) Tryz.func7 rfl rfl Tryz.ntmps7 (Nat.le_of_ble_eq_true rfl) ?_
  repeat' (first|(refine oLA ?_;first|refine a0A rfl ?_|(refine oD 14 ?_; refine cnA (c := spV .u64 (lo, hi)) rfl rfl rfl (fun w => run_build w _ _ _ (by kernel_rfl)) ?_)|(refine oD 15 ?_; refine dwA rfl diA rfl rfl (by decide) ?_)|(refine oD 16 ?_; refine a4A (hK _ _ (c5A 15 rfl (fun v1 w1 e1 h1 => ?_))); clear hK K; refine amA (by kernel_rfl) (fun K hK => dfA rfl rfl ?_))|(refine oD 17 ?_; refine a4A (hK _ _ (cuA (base := w.heap.size) (n := 1) (cs := c4A .u64 [((lo : Int), (hi : Int))]) rfl (by decide) diA rfl h1 rfl (HasC.val (h.ext e1)) (idA xs) (by unfold maxLen; omega) hby e1.size (fun v2 wa w2 he ho hgr => ?_))); clear hK K; refine amA (by kernel_rfl) (fun K hK => ?_))|refine wOp ?_|(refine wCm ?_ ?_<;>intro hc)|(refine wNl hK ?_;clear hK K))|refine wG ?_|(refine wCR ?_;intro K hK)|fail)
  all_goals skip
  have x2 : Ext w w2 := (e1.trans he).grown hgr (fun k hk => (Own.lt h1 k hk).1)
  have hv2 : SlP .u64 w2 v2 (((lo : Int), (hi : Int)) :: xs) := by
    have := Own.slC ho
    rw [hap] at this
    unfold SlP
    rw [List.length_cons, Nat.add_comm]
    exact this
  have hgr2 : ∀ w', Ext w2 w' → _ := fun w' e => vpA (hv2.ext e) hys
  obtain ⟨gr, hgr3⟩ : ∃ gr, gr = grt (((lo : Int), (hi : Int)) :: xs) := ⟨_, rfl⟩
  rw [← hgr3] at hgr2
  clear hgr3 hgr ho hys hap
  have hT2 := hT.ext x2
  have hpw2 : ∀ w', Ext w2 w' → _ := fun w' e => hpw w' (x2.trans e)
  cases gr with
  | true =>
    repeat' (first|(refine oLA ?_;first|refine a0A rfl ?_|refine wOp ?_|(refine wCm ?_ ?_<;>intro hc)|(refine oCv ?_;first|(refine oC 21 ?_; refine a1A (f := 21) rfl rfl rfl  (.val (.bool true)) (by intro u1 w e hu1; (try obtain rfl : u1 = _ := hu1); exact hgr2 _ e) ?_)|(refine oC 10 ?_; refine dkA (f := 10) rfl rfl  (.val (.bool true)) (by intro w e; exact h8A _ (hT2.ext e)) ?_))|(refine wNl hK ?_;clear hK K))|refine wG ?_|(refine wCR ?_;intro K hK)|fail)
    all_goals skip
    exact abA rfl rfl x2 rfl
  | false =>
    have hlenC : ∀ w', Ext w2 w' → ∀ u, RSet TT TT w' u (two (fun x y => x && y) p (itv lo (min hi TOP))) → _ := fun w' e u hu => rnA (B := TT) (A := TT) (.inr hu)
    have hlenS : ∀ w', Ext w2 w' → ∀ u, RSet TT TT w' u p → _ := fun w' e u hu => rnA (B := TT) (A := TT) (.inr hu)
    have hrk : ∀ x : Nat, x < 18446744073709551616 → ∀ w', Ext w2 w' → ∀ u, RSet TT TT w' u p → _ := fun x hx w' e u hu => tnA (B := TT) (A := TT) (x := x) (.inr hu) hx
    have hand : ∀ w', Ext w2 w' → ∀ u u', RSet TT TT w' u p → RSet TT TT w' u' (itv lo (min hi TOP)) → _ := fun w' e u u' hu hu' => and_s (A := TT) (B := TT) (B1 := TT) (B2 := TT) (.inr hu) (.inr hu') (hT2.ext e) tt tt
    have hsp : ∀ w', Ext w2 w' → ∀ u, Own w2.heap.size tSp 2 w' u 1 (c4A .u64 [((lo : Int), (hi : Int))]) → _ := fun w' e u hu => kiA (A := TT) (B := TT) (xs := [((lo : Int), (hi : Int))]) (Own.slC hu) (by intro x hx; rw [List.mem_singleton] at hx; subst hx; dsimp only; omega) (hT2.ext e) tt tt
    have hslt : ∀ k : Nat, k ≤ 4294967296 → ∀ w', Ext w2 w' → ∀ u, RSet TT TT w' u p → _ := fun k hk w' e u hu => quA (B := TT) (A := TT) (k := (k : Int)) (.inr hu) (hT2.ext e) (by omega)
    have hrH := hrk hi hhi
    have hrL := hrk lo hlo
    have hrT := hrk 1099511627776 (by decide)
    rw [← hm] at hlenC
    rw [← hn] at hlenS
    rw [← hH] at hrH
    rw [← hL] at hrL
    rw [show min 1099511627776 TOP = TOP by omega, ← hn] at hrT
    rw [ujA] at hsp
    obtain ⟨c, hc⟩ : ∃ c, c = itv lo (min hi TOP) := ⟨_, rfl⟩
    obtain ⟨q, hq⟩ : ∃ q, q = two (fun x y => x && y) p c := ⟨_, rfl⟩
    rw [← hc] at hand hsp
    rw [← hc, ← hq] at hlenC
    rw [← hq] at hand
    have hrx : ∀ x : Nat, L ≤ x → x < TOP → cnt p x = cnt p L → lo ≤ x ∧ ∀ w', Ext w2 w' → ∀ u, RSet TT TT w' u p → Fc Tryz.prog 16 #[u, .int .u64 x] w' (Ret w' (.val (.int .i64 (cnt p L)))) := fun x x1 x2 x3 => by
      refine ⟨y8A hL x1 x2, fun w' e u hu => ?_⟩
      have := hrk x (y9A htop x2) w' e u hu
      rw [Nat.min_eq_left (Nat.le_of_lt x2), x3] at this
      exact this
    have hsl := hslt (cnt p L) (by omega)
    clear hrk hslt hm hn hc hq hcut hmm hpw hp h hv2 hx
    obtain ⟨a, ha⟩ : ∃ a, a = cnt p L := ⟨_, rfl⟩
    obtain ⟨b, hb⟩ : ∃ b, b = cnt p H := ⟨_, rfl⟩
    rw [← ha] at hrL hrx hsl hm1 hm3 hsel hsn hmL
    rw [← hb] at hrH hm2 hm3 hmL
    clear ha hb
    by_cases c1 : lo < hi
    · replace hmL := hmL c1
      replace hm3 := hm3 c1
      by_cases c2 : a < n
      · obtain ⟨x, x1, x2', x3, hs⟩ := hsel c2
        obtain ⟨x4, hrX⟩ := hrx x x1 x2' x3
        rw [hs] at hsl
        clear hrx hsn
        repeat' (first|(refine oLA ?_;first|refine a0A rfl ?_|(refine oD 25 ?_; refine cnA (c := spV .u64 (lo, hi)) rfl rfl rfl (fun w => run_build w _ _ _ (by kernel_rfl)) ?_)|(refine oD 26 ?_; refine dwA rfl diA rfl rfl (by decide) ?_)|(refine oD 38 ?_; refine a9A rfl rfl rfl (by dsimp only [fits]; omega) ?_; rw [← hmL])|refine wOp ?_|(refine wCm ?_ ?_<;>intro hc)|(refine oCv ?_;first|(refine oD 21 ?_; refine oC 14 ?_; refine a1A (f := 14) rfl rfl rfl  (.pred (rsP TT TT p)) (by intro u1 w e hu1; (try obtain rfl : u1 = _ := hu1); exact hpw2 _ e) ?_)|(refine oD 27 ?_; refine oC 14 ?_; refine a1A (f := 14) rfl rfl rfl  (.pred (rsP TT TT c)) (by intro u1 w e hu1; (try obtain rfl : u1 = _ := hu1); exact hsp _ e _ hu1) ?_)|(refine oD 40 ?_; refine oC 15 ?_; refine a1A (f := 15) rfl rfl rfl  (.val (.int .i64 m)) (by intro u1 w e hu1; (try obtain rfl : u1 = _ := hu1); exact hlenC _ e _ hu1) ?_)|(refine oD 34 ?_; refine oC 16 ?_; refine a3A (f := 16) rfl rfl rfl rfl  (.val (.int .i64 b)) (by intro u1 u2 w e hu1 hu2; (try obtain rfl : u1 = _ := hu1); (try obtain rfl : u2 = _ := hu2); exact hrH _ e _ hu1) ?_)|(refine oD 45 ?_; refine oC 16 ?_; refine a3A (f := 16) rfl rfl rfl rfl  (.val (.int .i64 n)) (by intro u1 u2 w e hu1 hu2; (try obtain rfl : u1 = _ := hu1); (try obtain rfl : u2 = _ := hu2); exact hrT _ e _ hu1) ?_)|(refine oD 77 ?_; refine oC 16 ?_; refine a3A (f := 16) rfl rfl rfl rfl  (.val (.int .i64 a)) (by intro u1 u2 w e hu1 hu2; (try obtain rfl : u1 = _ := hu1); (try obtain rfl : u2 = _ := hu2); exact hrX _ e _ hu1) ?_)|(refine oC 21 ?_; refine a1A (f := 21) rfl rfl rfl  (.val (.bool false)) (by intro u1 w e hu1; (try obtain rfl : u1 = _ := hu1); exact hgr2 _ e) ?_)|(refine oC 10 ?_; refine dkA (f := 10) rfl rfl  (.val (.bool true)) (by intro w e; exact h8A _ (hT2.ext e)) ?_)|(refine oC 28 ?_; refine a3A (f := 28) rfl rfl rfl rfl  (.pred (rsP TT TT q)) (by intro u1 u2 w e hu1 hu2; (try obtain rfl : u1 = _ := hu1); (try obtain rfl : u2 = _ := hu2); exact hand _ e _ _ hu1 hu2) ?_)|(refine oC 15 ?_; refine a1A (f := 15) rfl rfl rfl  (.val (.int .i64 n)) (by intro u1 w e hu1; (try obtain rfl : u1 = _ := hu1); exact hlenS _ e _ hu1) ?_)|(refine oC 16 ?_; refine a3A (f := 16) rfl rfl rfl rfl  (.val (.int .i64 a)) (by intro u1 u2 w e hu1 hu2; (try obtain rfl : u1 = _ := hu1); (try obtain rfl : u2 = _ := hu2); exact hrL _ e _ hu1) ?_)|(refine oC 31 ?_; refine a3A (f := 31) rfl rfl rfl rfl  (.tup2 (.val (.int .u32 x)) (.val (.bool true))) (by intro u1 u2 w e hu1 hu2; (try obtain rfl : u1 = _ := hu1); (try obtain rfl : u2 = _ := hu2); exact hsl _ e _ hu1) ?_))|(refine wNl hK ?_;clear hK K))|refine wG ?_|(refine wCR ?_;intro K hK)|fail)
        all_goals skip
        all_goals exact abA rfl rfl x2 rfl
      · have hs := hsn c2
        rw [hs] at hsl
        clear hrx hsel
        repeat' (first|(refine oLA ?_;first|refine a0A rfl ?_|(refine oD 25 ?_; refine cnA (c := spV .u64 (lo, hi)) rfl rfl rfl (fun w => run_build w _ _ _ (by kernel_rfl)) ?_)|(refine oD 26 ?_; refine dwA rfl diA rfl rfl (by decide) ?_)|(refine oD 38 ?_; refine a9A rfl rfl rfl (by dsimp only [fits]; omega) ?_; rw [← hmL])|refine wOp ?_|(refine wCm ?_ ?_<;>intro hc)|(refine oCv ?_;first|(refine oD 21 ?_; refine oC 14 ?_; refine a1A (f := 14) rfl rfl rfl  (.pred (rsP TT TT p)) (by intro u1 w e hu1; (try obtain rfl : u1 = _ := hu1); exact hpw2 _ e) ?_)|(refine oD 27 ?_; refine oC 14 ?_; refine a1A (f := 14) rfl rfl rfl  (.pred (rsP TT TT c)) (by intro u1 w e hu1; (try obtain rfl : u1 = _ := hu1); exact hsp _ e _ hu1) ?_)|(refine oD 40 ?_; refine oC 15 ?_; refine a1A (f := 15) rfl rfl rfl  (.val (.int .i64 m)) (by intro u1 w e hu1; (try obtain rfl : u1 = _ := hu1); exact hlenC _ e _ hu1) ?_)|(refine oD 34 ?_; refine oC 16 ?_; refine a3A (f := 16) rfl rfl rfl rfl  (.val (.int .i64 b)) (by intro u1 u2 w e hu1 hu2; (try obtain rfl : u1 = _ := hu1); (try obtain rfl : u2 = _ := hu2); exact hrH _ e _ hu1) ?_)|(refine oD 45 ?_; refine oC 16 ?_; refine a3A (f := 16) rfl rfl rfl rfl  (.val (.int .i64 n)) (by intro u1 u2 w e hu1 hu2; (try obtain rfl : u1 = _ := hu1); (try obtain rfl : u2 = _ := hu2); exact hrT _ e _ hu1) ?_)|(refine oD 77 ?_; refine oC 16 ?_; refine a3A (f := 16) rfl rfl rfl rfl  (.val (.int .i64 a)) (by intro u1 u2 w e hu1 hu2; (try obtain rfl : u1 = _ := hu1); (try obtain rfl : u2 = _ := hu2); exact hrX _ e _ hu1) ?_)|(refine oC 21 ?_; refine a1A (f := 21) rfl rfl rfl  (.val (.bool false)) (by intro u1 w e hu1; (try obtain rfl : u1 = _ := hu1); exact hgr2 _ e) ?_)|(refine oC 10 ?_; refine dkA (f := 10) rfl rfl  (.val (.bool true)) (by intro w e; exact h8A _ (hT2.ext e)) ?_)|(refine oC 28 ?_; refine a3A (f := 28) rfl rfl rfl rfl  (.pred (rsP TT TT q)) (by intro u1 u2 w e hu1 hu2; (try obtain rfl : u1 = _ := hu1); (try obtain rfl : u2 = _ := hu2); exact hand _ e _ _ hu1 hu2) ?_)|(refine oC 15 ?_; refine a1A (f := 15) rfl rfl rfl  (.val (.int .i64 n)) (by intro u1 w e hu1; (try obtain rfl : u1 = _ := hu1); exact hlenS _ e _ hu1) ?_)|(refine oC 16 ?_; refine a3A (f := 16) rfl rfl rfl rfl  (.val (.int .i64 a)) (by intro u1 u2 w e hu1 hu2; (try obtain rfl : u1 = _ := hu1); (try obtain rfl : u2 = _ := hu2); exact hrL _ e _ hu1) ?_)|(refine oC 31 ?_; refine a3A (f := 31) rfl rfl rfl rfl  (.tup2 (.val (.int .u32 0)) (.val (.bool false))) (by intro u1 u2 w e hu1 hu2; (try obtain rfl : u1 = _ := hu1); (try obtain rfl : u2 = _ := hu2); exact hsl _ e _ hu1) ?_))|(refine wNl hK ?_;clear hK K))|refine wG ?_|(refine wCR ?_;intro K hK)|fail)
        all_goals skip
        all_goals exact abA rfl rfl x2 rfl
    · replace hm0 := hm0 c1
      by_cases c2 : a < n
      · obtain ⟨x, x1, x2', x3, hs⟩ := hsel c2
        obtain ⟨x4, hrX⟩ := hrx x x1 x2' x3
        rw [hs] at hsl
        clear hrx hsn
        repeat' (first|(refine oLA ?_;first|refine a0A rfl ?_|(refine oD 25 ?_; refine cnA (c := spV .u64 (lo, hi)) rfl rfl rfl (fun w => run_build w _ _ _ (by kernel_rfl)) ?_)|(refine oD 26 ?_; refine dwA rfl diA rfl rfl (by decide) ?_)|(refine oD 38 ?_; refine a9A rfl rfl rfl (by dsimp only [fits]; omega) ?_; rw [← hmL])|refine wOp ?_|(refine wCm ?_ ?_<;>intro hc)|(refine oCv ?_;first|(refine oD 21 ?_; refine oC 14 ?_; refine a1A (f := 14) rfl rfl rfl  (.pred (rsP TT TT p)) (by intro u1 w e hu1; (try obtain rfl : u1 = _ := hu1); exact hpw2 _ e) ?_)|(refine oD 27 ?_; refine oC 14 ?_; refine a1A (f := 14) rfl rfl rfl  (.pred (rsP TT TT c)) (by intro u1 w e hu1; (try obtain rfl : u1 = _ := hu1); exact hsp _ e _ hu1) ?_)|(refine oD 40 ?_; refine oC 15 ?_; refine a1A (f := 15) rfl rfl rfl  (.val (.int .i64 m)) (by intro u1 w e hu1; (try obtain rfl : u1 = _ := hu1); exact hlenC _ e _ hu1) ?_)|(refine oD 34 ?_; refine oC 16 ?_; refine a3A (f := 16) rfl rfl rfl rfl  (.val (.int .i64 b)) (by intro u1 u2 w e hu1 hu2; (try obtain rfl : u1 = _ := hu1); (try obtain rfl : u2 = _ := hu2); exact hrH _ e _ hu1) ?_)|(refine oD 45 ?_; refine oC 16 ?_; refine a3A (f := 16) rfl rfl rfl rfl  (.val (.int .i64 n)) (by intro u1 u2 w e hu1 hu2; (try obtain rfl : u1 = _ := hu1); (try obtain rfl : u2 = _ := hu2); exact hrT _ e _ hu1) ?_)|(refine oD 77 ?_; refine oC 16 ?_; refine a3A (f := 16) rfl rfl rfl rfl  (.val (.int .i64 a)) (by intro u1 u2 w e hu1 hu2; (try obtain rfl : u1 = _ := hu1); (try obtain rfl : u2 = _ := hu2); exact hrX _ e _ hu1) ?_)|(refine oC 21 ?_; refine a1A (f := 21) rfl rfl rfl  (.val (.bool false)) (by intro u1 w e hu1; (try obtain rfl : u1 = _ := hu1); exact hgr2 _ e) ?_)|(refine oC 10 ?_; refine dkA (f := 10) rfl rfl  (.val (.bool true)) (by intro w e; exact h8A _ (hT2.ext e)) ?_)|(refine oC 28 ?_; refine a3A (f := 28) rfl rfl rfl rfl  (.pred (rsP TT TT q)) (by intro u1 u2 w e hu1 hu2; (try obtain rfl : u1 = _ := hu1); (try obtain rfl : u2 = _ := hu2); exact hand _ e _ _ hu1 hu2) ?_)|(refine oC 15 ?_; refine a1A (f := 15) rfl rfl rfl  (.val (.int .i64 n)) (by intro u1 w e hu1; (try obtain rfl : u1 = _ := hu1); exact hlenS _ e _ hu1) ?_)|(refine oC 16 ?_; refine a3A (f := 16) rfl rfl rfl rfl  (.val (.int .i64 a)) (by intro u1 u2 w e hu1 hu2; (try obtain rfl : u1 = _ := hu1); (try obtain rfl : u2 = _ := hu2); exact hrL _ e _ hu1) ?_)|(refine oC 31 ?_; refine a3A (f := 31) rfl rfl rfl rfl  (.tup2 (.val (.int .u32 x)) (.val (.bool true))) (by intro u1 u2 w e hu1 hu2; (try obtain rfl : u1 = _ := hu1); (try obtain rfl : u2 = _ := hu2); exact hsl _ e _ hu1) ?_))|(refine wNl hK ?_;clear hK K))|refine wG ?_|(refine wCR ?_;intro K hK)|fail)
        all_goals skip
        all_goals exact abA rfl rfl x2 rfl
      · have hs := hsn c2
        rw [hs] at hsl
        clear hrx hsel
        repeat' (first|(refine oLA ?_;first|refine a0A rfl ?_|(refine oD 25 ?_; refine cnA (c := spV .u64 (lo, hi)) rfl rfl rfl (fun w => run_build w _ _ _ (by kernel_rfl)) ?_)|(refine oD 26 ?_; refine dwA rfl diA rfl rfl (by decide) ?_)|(refine oD 38 ?_; refine a9A rfl rfl rfl (by dsimp only [fits]; omega) ?_; rw [← hmL])|refine wOp ?_|(refine wCm ?_ ?_<;>intro hc)|(refine oCv ?_;first|(refine oD 21 ?_; refine oC 14 ?_; refine a1A (f := 14) rfl rfl rfl  (.pred (rsP TT TT p)) (by intro u1 w e hu1; (try obtain rfl : u1 = _ := hu1); exact hpw2 _ e) ?_)|(refine oD 27 ?_; refine oC 14 ?_; refine a1A (f := 14) rfl rfl rfl  (.pred (rsP TT TT c)) (by intro u1 w e hu1; (try obtain rfl : u1 = _ := hu1); exact hsp _ e _ hu1) ?_)|(refine oD 40 ?_; refine oC 15 ?_; refine a1A (f := 15) rfl rfl rfl  (.val (.int .i64 m)) (by intro u1 w e hu1; (try obtain rfl : u1 = _ := hu1); exact hlenC _ e _ hu1) ?_)|(refine oD 34 ?_; refine oC 16 ?_; refine a3A (f := 16) rfl rfl rfl rfl  (.val (.int .i64 b)) (by intro u1 u2 w e hu1 hu2; (try obtain rfl : u1 = _ := hu1); (try obtain rfl : u2 = _ := hu2); exact hrH _ e _ hu1) ?_)|(refine oD 45 ?_; refine oC 16 ?_; refine a3A (f := 16) rfl rfl rfl rfl  (.val (.int .i64 n)) (by intro u1 u2 w e hu1 hu2; (try obtain rfl : u1 = _ := hu1); (try obtain rfl : u2 = _ := hu2); exact hrT _ e _ hu1) ?_)|(refine oD 77 ?_; refine oC 16 ?_; refine a3A (f := 16) rfl rfl rfl rfl  (.val (.int .i64 a)) (by intro u1 u2 w e hu1 hu2; (try obtain rfl : u1 = _ := hu1); (try obtain rfl : u2 = _ := hu2); exact hrX _ e _ hu1) ?_)|(refine oC 21 ?_; refine a1A (f := 21) rfl rfl rfl  (.val (.bool false)) (by intro u1 w e hu1; (try obtain rfl : u1 = _ := hu1); exact hgr2 _ e) ?_)|(refine oC 10 ?_; refine dkA (f := 10) rfl rfl  (.val (.bool true)) (by intro w e; exact h8A _ (hT2.ext e)) ?_)|(refine oC 28 ?_; refine a3A (f := 28) rfl rfl rfl rfl  (.pred (rsP TT TT q)) (by intro u1 u2 w e hu1 hu2; (try obtain rfl : u1 = _ := hu1); (try obtain rfl : u2 = _ := hu2); exact hand _ e _ _ hu1 hu2) ?_)|(refine oC 15 ?_; refine a1A (f := 15) rfl rfl rfl  (.val (.int .i64 n)) (by intro u1 w e hu1; (try obtain rfl : u1 = _ := hu1); exact hlenS _ e _ hu1) ?_)|(refine oC 16 ?_; refine a3A (f := 16) rfl rfl rfl rfl  (.val (.int .i64 a)) (by intro u1 u2 w e hu1 hu2; (try obtain rfl : u1 = _ := hu1); (try obtain rfl : u2 = _ := hu2); exact hrL _ e _ hu1) ?_)|(refine oC 31 ?_; refine a3A (f := 31) rfl rfl rfl rfl  (.tup2 (.val (.int .u32 0)) (.val (.bool false))) (by intro u1 u2 w e hu1 hu2; (try obtain rfl : u1 = _ := hu1); (try obtain rfl : u2 = _ := hu2); exact hsl _ e _ hu1) ?_))|(refine wNl hK ?_;clear hK K))|refine wG ?_|(refine wCR ?_;intro K hK)|fail)
        all_goals skip
        all_goals exact abA rfl rfl x2 rfl
end Go.Proofs.YtfcioiobhpcngaaGreatDoor
end
