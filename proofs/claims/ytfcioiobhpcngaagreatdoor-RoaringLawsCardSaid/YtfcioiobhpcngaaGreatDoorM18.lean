import Derived.Test.YtfcioiobhpcngaaGreatDoorM17
section
set_option linter.unusedSimpArgs false
set_option linter.unusedVariables false
set_option maxRecDepth 3000
namespace Go.Proofs.YtfcioiobhpcngaaGreatDoor
namespace Srt
open Go.LA Go.ArrP Go.RowKit
end Srt
end Go.Proofs.YtfcioiobhpcngaaGreatDoor
namespace Go.LA
structure CXh (P : Program) (N : Nn) (wb : World) (c : Code) (E : Env) (Q : Exit → Act → World → Prop) : Prop where
  out : CX P N wb c E Q
theorem CX_hold {P : Program} {N : Nn} {wb : World} {E : Env} {Q : Exit → Act → World → Prop} {id : Nat} {l : Array Oper} {m : Bool} {c1 c' : Code} (h : CXh P N wb (.seq (.seq (.region id l m) c1) c') E Q) : CX P N wb (.seq (.seq (.region id l m) c1) c') E Q := h.out
theorem CXh_out {P : Program} {N : Nn} {wb : World} {E : Env} {Q : Exit → Act → World → Prop} {c : Code} (h : CX P N wb c E Q) : CXh P N wb c E Q := ⟨h⟩
end Go.LA
namespace Go.Proofs.YtfcioiobhpcngaaGreatDoor
namespace Srt
open Go.LA Go.ArrP Go.RowKit
set_option maxHeartbeats 16000000 in
theorem pdq16_c (m : Nat) : ∀ {w0 w : World} {b cap n : Nat} {D0 : Array Int} (he0 : Ext w0 w) (ho0 : Rw16 w0 w b cap n D0) (hn : n = D0.size) (hb : D0.size < 4611686018427387904) (lo hi lim : Nat) (hm : hi - lo ≤ m) (h1 : lo ≤ hi) (h2 : hi ≤ D0.size) (hB0 : Go.Sort.Below Go.Sort.ltInt lo hi D0) (hl0 : lim < 4611686018427387904),
    Fc Tryz.prog 149 #[(.slice (some ⟨b, 0, none⟩) n cap), .int .i64 lo, .int .i64 hi, .int .i64 lim] w (fun e w' => e = .returned (.tuple #[]) ∧ Ext w0 w' ∧ ∃ D', Go.Sort.PermIn lo hi D0 D' ∧ Go.Sort.SortedIn Go.Sort.ltInt lo hi D' ∧ Rw16 w0 w' b cap n D') := by
  induction m using Nat.strongRecOn with
  | ind m ih =>
  intro w0 w b cap n D0 he0 ho0 hn hb lo hi lim hm h1 h2 hB0 hl0
  have swo : Go.Sort.SWO Go.Sort.ltInt := Go.Sort.swo_ltInt
  refine Fc.of (args := [_, _, _, _]) Tryz.func149 rfl rfl Tryz.ntmps149 (Nat.le_of_ble_eq_true rfl) ?_
  repeat' (first|(refine oLA ?_;first|refine LA_pass rfl ?_|refine wOp ?_|(refine wCm ?_ ?_<;>intro hc)|(refine wNl hK ?_;clear hK K))|refine wG ?_|(refine wCR ?_;intro K hK)|fail)
  refine CX_loopV (ι := Nat × Nat × Nat × Bool × Bool × Array Int) (fun i => [(0, .val (.slice (some ⟨b, 0, none⟩) n cap)), (1, .val (.int .i64 ((i.1 : Nat) : Int))), (2, .val (.int .i64 ((i.2.1 : Nat) : Int))), (3, .val (.int .i64 ((i.2.2.1 : Nat) : Int))), (8, .val (.bool i.2.2.2.1)), (9, .val (.bool i.2.2.2.2.1))])
    (fun i w' => Ext w0 w' ∧ i.1 ≤ i.2.1 ∧ i.2.1 ≤ D0.size ∧ i.2.2.2.2.2.size = D0.size ∧ i.2.1 - i.1 ≤ hi - lo ∧ i.2.2.1 < 4611686018427387904 ∧ Go.Sort.Below Go.Sort.ltInt i.1 i.2.1 i.2.2.2.2.2 ∧ (∀ R, Go.Sort.PermIn i.1 i.2.1 i.2.2.2.2.2 R → Go.Sort.SortedIn Go.Sort.ltInt i.1 i.2.1 R → Go.Sort.PermIn lo hi D0 R ∧ Go.Sort.SortedIn Go.Sort.ltInt lo hi R) ∧ Rw16 w0 w' b cap n i.2.2.2.2.2) (fun i => i.2.1 - i.1)
    (fun w2 e2 => ⟨(lo, hi, lim, true, true, D0), ⟨he0.trans e2, h1, h2, rfl, Nat.le_refl _, hl0, hB0, fun R p s => ⟨p, s⟩, ho0.ext e2⟩, by dsimp only; exact (by repeat' (first | exact Sub.nil | refine Sub.val rfl (by first | with_reducible rfl | (congr 1; omega)) ?_ | refine Sub.same rfl ?_))⟩) ?_
  rintro ⟨a, z, l, wb, wp, D⟩ w1 ⟨he1, haz, hz, hs1, hza, hl1, hB1, hG1, ho1⟩
  dsimp only at haz hz hs1 hza hl1 hB1 hG1 ho1 ⊢
  by_cases h12 : z - a ≤ 12
  · have q0 : True := trivial
    repeat' (first|(refine oLA ?_;first|refine LA_pass rfl ?_|(refine oD 21 ?_; refine LA_subF rfl rfl rfl (by dsimp only [fits]; omega) ?_; rw [show ((z : Int) - a) = ((z - a : Nat) : Int) by omega])|(refine oD 27 ?_; refine LA_stop (hK _ _ (LX_do3 (f := 184) (fun w' => Ext w0 w' ∧ Rw16 w0 w' b cap n (Go.Sort.insertionSort Go.Sort.ltInt D a z)) (fun w' e => ins16_c (he1.trans e) (ho1.ext e) (hn.trans hs1.symm) a z haz (by omega) (by omega)) rfl (by decide) rfl rfl rfl rfl (fun w2 hw2 => ?_))); clear hK K; obtain ⟨he2, ho2⟩ := hw2)|refine wOp ?_|(refine wCm ?_ ?_<;>intro hc)|(refine wNl hK ?_;clear hK K))|refine wG ?_|(refine wCR ?_;intro K hK)|fail)
    have hh := Go.Sort.insertionSort_holds (lt := Go.Sort.ltInt) swo D a z haz (by omega)
    have hg := hG1 _ hh.1 hh.2
    exact PX_end0 rfl (fun w5 e5 => ⟨rfl, he2.trans e5, _, hg.1, hg.2, ho2.ext e5⟩) (.inr rfl)
  by_cases hlz : l = 0
  · have q0 : True := trivial
    repeat' (first|(refine oLA ?_;first|refine LA_pass rfl ?_|(refine oD 21 ?_; refine LA_subF rfl rfl rfl (by dsimp only [fits]; omega) ?_; rw [show ((z : Int) - a) = ((z - a : Nat) : Int) by omega])|(refine oD 33 ?_; refine LA_stop (hK _ _ (LX_do3 (f := 185) (fun w' => Ext w0 w' ∧ Rw16 w0 w' b cap n (Go.Sort.heapSort Go.Sort.ltInt D a z)) (fun w' e => heap16_c (he1.trans e) (ho1.ext e) (hn.trans hs1.symm) a z haz (by omega) (by omega)) rfl (by decide) rfl rfl rfl rfl (fun w2 hw2 => ?_))); clear hK K; obtain ⟨he2, ho2⟩ := hw2)|refine wOp ?_|(refine wCm ?_ ?_<;>intro hc)|(refine wNl hK ?_;clear hK K))|refine wG ?_|(refine wCR ?_;intro K hK)|fail)
    have hh := Go.Sort.heapSort_holds (lt := Go.Sort.ltInt) swo D a z haz (by omega)
    have hg := hG1 _ hh.1 hh.2
    exact PX_end0 rfl (fun w5 e5 => ⟨rfl, he2.trans e5, _, hg.1, hg.2, ho2.ext e5⟩) (.inr rfl)
  repeat' (first|(refine oLA ?_;first|refine LA_pass rfl ?_|(refine oD 21 ?_; refine LA_subF rfl rfl rfl (by dsimp only [fits]; omega) ?_; rw [show ((z : Int) - a) = ((z - a : Nat) : Int) by omega])|refine wOp ?_|(refine wCm ?_ ?_<;>intro hc)|(refine wNl hK ?_;clear hK K))|(refine oCX ?_;first|refine CX_hold (id := 7) ?_)|refine wG ?_|(refine wCR ?_;intro K hK)|fail)
  refine CXh_out (CX_seqW (id := 7) (ι := Nat × Array Int) (fun i => [(0, .val (.slice (some ⟨b, 0, none⟩) n cap)), (1, .val (.int .i64 ((a : Nat) : Int))), (2, .val (.int .i64 ((z : Nat) : Int))), (3, .val (.int .i64 ((i.1 : Nat) : Int))), (8, .val (.bool wb)), (9, .val (.bool wp)), (10, .val (.int .i64 ((z - a : Nat) : Int)))]) (fun i w' => i.1 < 4611686018427387904 ∧ Go.Sort.PermIn a z D i.2 ∧ Ext w0 w' ∧ Rw16 w0 w' b cap n i.2) ?_ ?_)
  · cases wb
    · have q0 : True := trivial
      repeat' (first|(refine oLA ?_;first|refine LA_pass rfl ?_|(refine oD 39 ?_; refine LA_stop (hK _ _ (LX_do3 (f := 186) (fun w' => Ext w0 w' ∧ ∃ D', Go.Sort.PermIn a z D D' ∧ Rw16 w0 w' b cap n D') (fun w' e => brk16_c (he1.trans e) (ho1.ext e) (hn.trans hs1.symm) a z haz (by omega) (by omega)) rfl (by decide) rfl rfl rfl rfl (fun w2 hw2 => ?_))); clear hK K; obtain ⟨he2, D2, hp2, ho2⟩ := hw2)|(refine oD 41 ?_; refine LA_subF rfl rfl rfl (by dsimp only [fits]; omega) ?_; rw [show ((l : Int) - 1) = ((l - 1 : Nat) : Int) by omega])|refine wOp ?_|(refine wCm ?_ ?_<;>intro hc)|(refine wNl hK ?_;clear hK K))|refine wG ?_|(refine wCR ?_;intro K hK)|fail)
      exact PX_rndV (l - 1, D2) (fun w6 e6 => ⟨by dsimp only; omega, hp2, he2.trans e6, ho2.ext e6⟩) (by omega) (by dsimp only; exact (by repeat' (first | exact Sub.nil | refine Sub.val rfl (by first | with_reducible rfl | (congr 1; omega)) ?_ | refine Sub.same rfl ?_)))
    · have q0 : True := trivial
      repeat' (first|(refine oLA ?_;first|refine LA_pass rfl ?_|refine wOp ?_|(refine wCm ?_ ?_<;>intro hc)|(refine wNl hK ?_;clear hK K))|refine wG ?_|(refine wCR ?_;intro K hK)|fail)
      exact PX_rndV (l, D) (fun w6 e6 => ⟨hl1, Go.Sort.permIn_refl _ _ _, he1.trans e6, ho1.ext e6⟩) (by omega) (by dsimp only; exact (by repeat' (first | exact Sub.nil | refine Sub.val rfl (by first | with_reducible rfl | (congr 1; omega)) ?_ | refine Sub.same rfl ?_)))
  rintro ⟨l2, D2⟩ w2 ⟨hl2, hp2, he2, ho2⟩
  dsimp only at hl2 hp2 ho2 ⊢
  have hs2 : D2.size = D0.size := hp2.1.trans hs1
  repeat' (first|(refine oLA ?_;first|refine LA_pass rfl ?_|(refine oD 46 ?_; refine LA_stop (hK _ _ (LX_call3 (f := 187) rfl (by decide) rfl rfl rfl rfl (fun v w' => ∃ (p : Nat) (h : Int), v = .tuple #[.int .i64 p, .int .i64 h] ∧ (a ≤ p ∧ p < z) ∧ Ext w0 w' ∧ Rw16 w0 w' b cap n D2) (fun w' e => (chp16_c (he2.trans e) (ho2.ext e) (hn.trans hs2.symm) (by omega) a z (by omega) (by omega)).mono (by rintro e5 w5 ⟨p, h, h1, h2⟩; exact ⟨_, h1, p, h, rfl, h2⟩)) (fun v w3 hv => ?_))); clear hK K; obtain ⟨pv, hint, rfl, bpv, he3, ho3⟩ := hv)|(refine oD 54 ?_; refine LA_stop (hK _ _ (LX_do3 (f := 188) (fun w' => Ext w0 w' ∧ Rw16 w0 w' b cap n (Go.Sort.reverseRange D2 a z)) (fun w' e => rev16_c (he3.trans e) (ho3.ext e) (hn.trans hs2.symm) a z (by omega) (by omega) (by omega)) rfl (by decide) rfl rfl rfl rfl (fun w4 hw4 => ?_))); clear hK K; obtain ⟨he4, ho4⟩ := hw4)|(refine oD 60 ?_; refine LA_subF rfl rfl rfl (by dsimp only [fits]; omega) ?_; rw [show ((z : Int) - 1 - ((pv : Int) - a)) = ((z - 1 - (pv - a) : Nat) : Int) by omega])|(refine LA_extV0 rfl rfl ?_)|(refine LA_extV1 rfl rfl ?_)|refine wOp ?_|(refine wCm ?_ ?_<;>intro hc)|(refine wNl hK ?_;clear hK K))|(refine oCX ?_;first|refine CX_hold (id := 15) ?_|refine CX_seqW (id := 11) (ι := Nat × Int × Array Int) (fun i => [(0, .val (.slice (some ⟨b, 0, none⟩) n cap)), (1, .val (.int .i64 ((a : Nat) : Int))), (2, .val (.int .i64 ((z : Nat) : Int))), (3, .val (.int .i64 ((l2 : Nat) : Int))), (8, .val (.bool wb)), (9, .val (.bool wp)), (10, .val (.int .i64 ((z - a : Nat) : Int))), (11, .val (.int .i64 ((i.1 : Nat) : Int))), (12, .val (.int .i64 i.2.1))]) (fun i w' => (a ≤ i.1 ∧ i.1 < z) ∧ Go.Sort.PermIn a z D i.2.2 ∧ Ext w0 w' ∧ Rw16 w0 w' b cap n i.2.2) ?_ ?_)|refine wG ?_|(refine wCR ?_;intro K hK)|(refine oLX ?_;first|(refine LX_la rfl ?_; intro K hK))|fail)
  · exact PX_rndV (z - 1 - (pv - a), 1, Go.Sort.reverseRange D2 a z) (fun w6 e6 => ⟨by dsimp only; omega, Go.Sort.permIn_trans _ _ _ _ _ hp2 (Go.Sort.reverseRange_holds D2 a z haz (by omega)), he4.trans e6, ho4.ext e6⟩) (by omega) (by dsimp only; exact (by repeat' (first | exact Sub.nil | refine Sub.val rfl (by first | with_reducible rfl | (congr 1; omega)) ?_ | refine Sub.same rfl ?_)))
  · exact PX_rndV (pv, hint, D2) (fun w6 e6 => ⟨bpv, hp2, he3.trans e6, ho3.ext e6⟩) (by omega) (by dsimp only; exact (by repeat' (first | exact Sub.nil | refine Sub.val rfl (by first | with_reducible rfl | (congr 1; omega)) ?_ | refine Sub.same rfl ?_)))
  rintro ⟨p3, hint3, D3⟩ w3 ⟨bp3, hp3, he3, ho3⟩
  dsimp only at bp3 hp3 ho3 ⊢
  clear ho2 he2 hp2 hs2
  have hs3 : D3.size = D0.size := hp3.1.trans hs1
  have hB3 : Go.Sort.Below Go.Sort.ltInt a z D3 := hB1.perm (by omega) hp3
  have hpi := Go.Sort.partialInsertionSort_holds (lt := Go.Sort.ltInt) swo D3 a z (by omega) (by omega) hB3
  refine CX_seqW (id := 15) (ι := Array Int) (fun i => [(0, .val (.slice (some ⟨b, 0, none⟩) n cap)), (1, .val (.int .i64 ((a : Nat) : Int))), (2, .val (.int .i64 ((z : Nat) : Int))), (3, .val (.int .i64 ((l2 : Nat) : Int))), (8, .val (.bool wb)), (9, .val (.bool wp)), (10, .val (.int .i64 ((z - a : Nat) : Int))), (11, .val (.int .i64 ((p3 : Nat) : Int)))]) (fun i w' => Go.Sort.PermIn a z D i ∧ Ext w0 w' ∧ Rw16 w0 w' b cap n i) ?_ ?_
  · by_cases hh1 : hint3 = 1
    · cases hpb : (Go.Sort.partialInsertionSort Go.Sort.ltInt D3 a z).2 <;> cases wb <;> cases wp
      all_goals
        repeat' (first|(refine oLA ?_;first|refine LA_pass rfl ?_|(refine oD 72 ?_; refine LA_stop (hK _ _ (LX_call3 (f := 189) rfl (by decide) rfl rfl rfl rfl (fun v w' => v = .bool (Go.Sort.partialInsertionSort Go.Sort.ltInt D3 a z).2 ∧ Ext w0 w' ∧ Rw16 w0 w' b cap n (Go.Sort.partialInsertionSort Go.Sort.ltInt D3 a z).1) (fun w' e => (pins16_c (he3.trans e) (ho3.ext e) (hn.trans hs3.symm) a z (by omega) (by omega) (by omega)).mono (by rintro e5 w5 ⟨h1, h2⟩; exact ⟨_, h1, rfl, h2⟩)) (fun v w5 hv => ?_))); clear hK K; obtain ⟨rfl, he5, ho5⟩ := hv; rw [hpb])|(refine LA_extV0 rfl rfl ?_)|(refine LA_extV1 rfl rfl ?_)|refine wOp ?_|(refine wCm ?_ ?_<;>intro hc)|(refine wNl hK ?_;clear hK K))|refine wG ?_|(refine wCR ?_;intro K hK)|(refine oLX ?_;first|(refine LX_la rfl ?_; intro K hK))|fail)
      all_goals first
        | (have hg := hG1 _ (Go.Sort.permIn_trans _ _ _ _ _ hp3 hpi.1) (hpi.2 hpb); exact PX_end0 rfl (fun w6 e6 => ⟨rfl, he5.trans e6, _, hg.1, hg.2, ho5.ext e6⟩) (.inr rfl))
        | exact PX_rndV (Go.Sort.partialInsertionSort Go.Sort.ltInt D3 a z).1 (fun w6 e6 => ⟨Go.Sort.permIn_trans _ _ _ _ _ hp3 hpi.1, he5.trans e6, ho5.ext e6⟩) (by omega) (by repeat' (first | exact Sub.nil | refine Sub.val rfl (by first | with_reducible rfl | (congr 1; omega)) ?_ | refine Sub.same rfl ?_))
        | exact PX_rndV D3 (fun w6 e6 => ⟨hp3, he3.trans e6, ho3.ext e6⟩) (by omega) (by repeat' (first | exact Sub.nil | refine Sub.val rfl (by first | with_reducible rfl | (congr 1; omega)) ?_ | refine Sub.same rfl ?_))
    · cases wb <;> cases wp
      all_goals
        repeat' (first|(refine oLA ?_;first|refine LA_pass rfl ?_|refine wOp ?_|(refine wCm ?_ ?_<;>intro hc)|(refine wNl hK ?_;clear hK K))|refine wG ?_|(refine wCR ?_;intro K hK)|fail)
      all_goals exact PX_rndV D3 (fun w6 e6 => ⟨hp3, he3.trans e6, ho3.ext e6⟩) (by omega) (by repeat' (first | exact Sub.nil | refine Sub.val rfl (by first | with_reducible rfl | (congr 1; omega)) ?_ | refine Sub.same rfl ?_))
  intro D4 w4 ⟨hp4, he4, ho4⟩
  clear hpi hB3 hs3 hp3 ho3 he3
  have hs4 : D4.size = D0.size := hp4.1.trans hs1
  have hl4 := len_toL D4
  have hB4 : Go.Sort.Below Go.Sort.ltInt a z D4 := hB1.perm (by omega) hp4
  by_cases hc : 0 < a ∧ Go.Sort.ltInt D4[a - 1]! D4[p3]! = false
  · obtain ⟨mid, D5, hx⟩ : ∃ mid D5, Go.Sort.partitionEqual Go.Sort.ltInt D4 a z p3 = (mid, D5) := ⟨_, _, rfl⟩
    obtain ⟨r1, r2, r3, r4, r5⟩ := Go.Sort.round_eq swo (Go.Sort.partitionEqual_holds Go.Sort.ltInt) hc.1 bp3.1 bp3.2 (by omega) hB4 hc.2 hx
    repeat' (first|(refine oLA ?_;first|refine LA_pass rfl ?_|(refine oD 79 ?_; refine LA_ixD rfl rfl (fun _ => rfl) rfl rfl (a - 1) (by omega) (by omega) ?_)|(refine oI ?_; refine LA_ixD rfl rfl (fun _ => rfl) rfl rfl _ rfl (by omega) ?_)|(refine oL ?_; refine LA_ldD ho4 rfl (fun _ => rfl) rfl (by omega) ?_; rw [getA])|(refine oD 92 ?_; refine LA_stop (hK _ _ (LX_call4 (f := 190) rfl (by decide) rfl rfl rfl rfl rfl (fun v w' => v = .int .i64 (mid : Int) ∧ Ext w0 w' ∧ Rw16 w0 w' b cap n D5) (fun w' e => (partE16_c (he4.trans e) (ho4.ext e) (hn.trans hs4.symm) a z p3 (by omega) (by omega) (by omega) (by omega)).mono (by rw [hx]; rintro e5 w5 ⟨h1, h2⟩; exact ⟨_, h1, rfl, h2⟩)) (fun v w6 hv => ?_))); clear hK K; obtain ⟨rfl, he6, ho6⟩ := hv)|(refine LA_extV0 rfl rfl ?_)|(refine LA_extV1 rfl rfl ?_)|refine wOp ?_|(refine wCm ?_ ?_<;>intro hc)|(refine oCv ?_;first|(refine oC 177 ?_; refine LA_call2 (f := 177) rfl rfl rfl rfl  (.val (.bool false)) (by intro u1 u2 w e hu1 hu2; (try obtain rfl : u1 = _ := hu1); (try obtain rfl : u2 = _ := hu2); exact ret_eq (by rw [hc.2]) (less16_c _ _ _)) ?_))|(refine wNl hK ?_;clear hK K))|refine wG ?_|(refine wCR ?_;intro K hK)|(refine oLX ?_;first|(refine LX_la rfl ?_; intro K hK))|fail)
    exact PX_rndV (mid, z, l2, wb, wp, D5) (fun w7 e7 => ⟨he6.trans e7, by dsimp only; omega, by dsimp only; omega, by dsimp only; exact r3.trans hs4, by dsimp only; omega, hl2, r4, fun R p s => hG1 R (Go.Sort.permIn_trans _ _ _ _ _ hp4 (r5 R p s).1) (r5 R p s).2, ho6.ext e7⟩) (by dsimp only; omega) (by dsimp only; exact (by repeat' (first | exact Sub.nil | refine Sub.val rfl (by first | with_reducible rfl | (congr 1; omega)) ?_ | refine Sub.same rfl ?_)))
  refine CX_seqW (id := 17) (ι := Unit) (fun _ => [(0, .val (.slice (some ⟨b, 0, none⟩) n cap)), (1, .val (.int .i64 ((a : Nat) : Int))), (2, .val (.int .i64 ((z : Nat) : Int))), (3, .val (.int .i64 ((l2 : Nat) : Int))), (8, .val (.bool wb)), (9, .val (.bool wp)), (10, .val (.int .i64 ((z - a : Nat) : Int))), (11, .val (.int .i64 ((p3 : Nat) : Int)))]) (fun _ w' => Ext w0 w' ∧ Rw16 w0 w' b cap n D4) ?_ ?_
  · by_cases ha0 : 0 < a
    · cases hp : Go.Sort.ltInt D4[a - 1]! D4[p3]!
      · exact absurd ⟨ha0, hp⟩ hc
      · have q0 : True := trivial
        repeat' (first|(refine oLA ?_;first|refine LA_pass rfl ?_|(refine oD 79 ?_; refine LA_ixD rfl rfl (fun _ => rfl) rfl rfl (a - 1) (by omega) (by omega) ?_)|(refine oI ?_; refine LA_ixD rfl rfl (fun _ => rfl) rfl rfl _ rfl (by omega) ?_)|(refine oL ?_; refine LA_ldD ho4 rfl (fun _ => rfl) rfl (by omega) ?_; rw [getA])|refine wOp ?_|(refine wCm ?_ ?_<;>intro hc)|(refine oCv ?_;first|(refine oC 177 ?_; refine LA_call2 (f := 177) rfl rfl rfl rfl  (.val (.bool true)) (by intro u1 u2 w e hu1 hu2; (try obtain rfl : u1 = _ := hu1); (try obtain rfl : u2 = _ := hu2); exact ret_eq (by rw [hp]) (less16_c _ _ _)) ?_))|(refine wNl hK ?_;clear hK K))|refine wG ?_|(refine wCR ?_;intro K hK)|fail)
        exact PX_rndV () (fun w7 e7 => ⟨he4.trans e7, ho4.ext e7⟩) (by omega) (by repeat' (first | exact Sub.nil | refine Sub.val rfl (by first | with_reducible rfl | (congr 1; omega)) ?_ | refine Sub.same rfl ?_))
    · have q0 : True := trivial
      repeat' (first|(refine oLA ?_;first|refine LA_pass rfl ?_|refine wOp ?_|(refine wCm ?_ ?_<;>intro hc)|(refine wNl hK ?_;clear hK K))|refine wG ?_|(refine wCR ?_;intro K hK)|fail)
      exact PX_rndV () (fun w7 e7 => ⟨he4.trans e7, ho4.ext e7⟩) (by omega) (by repeat' (first | exact Sub.nil | refine Sub.val rfl (by first | with_reducible rfl | (congr 1; omega)) ?_ | refine Sub.same rfl ?_))
  · intro _ w5 ⟨he5, ho5⟩
    obtain ⟨mid, ap, D5, hx⟩ : ∃ mid ap D5, Go.Sort.partition Go.Sort.ltInt D4 a z p3 = (mid, ap, D5) := ⟨_, _, _, rfl⟩
    obtain ⟨r1, r2, r3, hBa, hBr, hleft, hright⟩ := Go.Sort.round_part swo (Go.Sort.partition_holds Go.Sort.ltInt) bp3.1 bp3.2 (by omega) hB4 hx
    repeat' (first|(refine oLA ?_;first|refine LA_pass rfl ?_|(refine oD 99 ?_; refine LA_stop (hK _ _ (LX_call4 (f := 191) rfl (by decide) rfl rfl rfl rfl rfl (fun v w' => v = .tuple #[.int .i64 (mid : Int), .bool ap] ∧ Ext w0 w' ∧ Rw16 w0 w' b cap n D5) (fun w' e => (part16_c (he5.trans e) (ho5.ext e) (hn.trans hs4.symm) a z p3 (by omega) (by omega) (by omega) (by omega)).mono (by rw [hx]; rintro e5 w5 ⟨h1, h2⟩; exact ⟨_, h1, rfl, h2⟩)) (fun v wA hv => ?_))); clear hK K; obtain ⟨rfl, heA, hoA⟩ := hv)|(refine oD 105 ?_; refine LA_subF rfl rfl rfl (by dsimp only [fits]; omega) ?_; rw [show ((mid : Int) - a) = ((mid - a : Nat) : Int) by omega])|(refine oD 108 ?_; refine LA_subF rfl rfl rfl (by dsimp only [fits]; omega) ?_; rw [show ((z : Int) - mid) = ((z - mid : Nat) : Int) by omega])|(refine oD 123 ?_; refine LA_addF rfl rfl rfl (by dsimp only [fits]; omega) ?_; rw [show ((mid : Int) + 1) = ((mid + 1 : Nat) : Int) by omega])|(refine oD 129 ?_; refine LA_addF rfl rfl rfl (by dsimp only [fits]; omega) ?_; rw [show ((mid : Int) + 1) = ((mid + 1 : Nat) : Int) by omega])|(refine oD 121 ?_; refine LA_stop (hK _ _ (LX_do4 (f := 149) (fun w' => Ext w0 w' ∧ ∃ D', Go.Sort.PermIn a mid D5 D' ∧ Go.Sort.SortedIn Go.Sort.ltInt a mid D' ∧ Rw16 w0 w' b cap n D') (fun w' e => ih (m - 1) (by omega) (heA.trans e) (hoA.ext e) (hn.trans (r3.trans hs4).symm) (by omega) a mid l2 (by omega) (by omega) (by omega) hBa hl2) rfl (by decide) rfl rfl rfl rfl rfl (fun w6 hw6 => ?_))); clear hK K; obtain ⟨he6, D6, hp6, hs6, ho6⟩ := hw6)|(refine oD 132 ?_; refine LA_stop (hK _ _ (LX_do4 (f := 149) (fun w' => Ext w0 w' ∧ ∃ D', Go.Sort.PermIn (mid + 1) z D5 D' ∧ Go.Sort.SortedIn Go.Sort.ltInt (mid + 1) z D' ∧ Rw16 w0 w' b cap n D') (fun w' e => ih (m - 1) (by omega) (heA.trans e) (hoA.ext e) (hn.trans (r3.trans hs4).symm) (by omega) (mid + 1) z l2 (by omega) (by omega) (by omega) hBr hl2) rfl (by decide) rfl rfl rfl rfl rfl (fun w6 hw6 => ?_))); clear hK K; obtain ⟨he6, D6, hp6, hs6, ho6⟩ := hw6)|(refine LA_extV0 rfl rfl ?_)|(refine LA_extV1 rfl rfl ?_)|refine wOp ?_|(refine wCm ?_ ?_<;>intro hc)|(refine wNl hK ?_;clear hK K))|refine wG ?_|(refine wCR ?_;intro K hK)|(refine oLX ?_;first|(refine LX_la rfl ?_; intro K hK))|fail)
    · exact PX_rndV (mid + 1, z, l2, true, ap, D6) (fun w7 e7 => ⟨he6.trans e7, by dsimp only; omega, by dsimp only; omega, by dsimp only; exact hp6.1.trans (r3.trans hs4), by dsimp only; omega, hl2, (hleft D6 hp6 hs6).1, fun R p s => hG1 R (Go.Sort.permIn_trans _ _ _ _ _ hp4 ((hleft D6 hp6 hs6).2 R p s).1) ((hleft D6 hp6 hs6).2 R p s).2, ho6.ext e7⟩) (by dsimp only; omega) (by dsimp only; exact (by repeat' (first | exact Sub.nil | refine Sub.val rfl (by first | with_reducible rfl | (congr 1; omega)) ?_ | refine Sub.same rfl ?_)))
    · exact PX_rndV (mid + 1, z, l2, false, ap, D6) (fun w7 e7 => ⟨he6.trans e7, by dsimp only; omega, by dsimp only; omega, by dsimp only; exact hp6.1.trans (r3.trans hs4), by dsimp only; omega, hl2, (hleft D6 hp6 hs6).1, fun R p s => hG1 R (Go.Sort.permIn_trans _ _ _ _ _ hp4 ((hleft D6 hp6 hs6).2 R p s).1) ((hleft D6 hp6 hs6).2 R p s).2, ho6.ext e7⟩) (by dsimp only; omega) (by dsimp only; exact (by repeat' (first | exact Sub.nil | refine Sub.val rfl (by first | with_reducible rfl | (congr 1; omega)) ?_ | refine Sub.same rfl ?_)))
    · exact PX_rndV (a, mid, l2, true, ap, D6) (fun w7 e7 => ⟨he6.trans e7, by dsimp only; omega, by dsimp only; omega, by dsimp only; exact hp6.1.trans (r3.trans hs4), by dsimp only; omega, hl2, (hright D6 hp6 hs6).1, fun R p s => hG1 R (Go.Sort.permIn_trans _ _ _ _ _ hp4 ((hright D6 hp6 hs6).2 R p s).1) ((hright D6 hp6 hs6).2 R p s).2, ho6.ext e7⟩) (by dsimp only; omega) (by dsimp only; exact (by repeat' (first | exact Sub.nil | refine Sub.val rfl (by first | with_reducible rfl | (congr 1; omega)) ?_ | refine Sub.same rfl ?_)))
    · exact PX_rndV (a, mid, l2, false, ap, D6) (fun w7 e7 => ⟨he6.trans e7, by dsimp only; omega, by dsimp only; omega, by dsimp only; exact hp6.1.trans (r3.trans hs4), by dsimp only; omega, hl2, (hright D6 hp6 hs6).1, fun R p s => hG1 R (Go.Sort.permIn_trans _ _ _ _ _ hp4 ((hright D6 hp6 hs6).2 R p s).1) ((hright D6 hp6 hs6).2 R p s).2, ho6.ext e7⟩) (by dsimp only; omega) (by dsimp only; exact (by repeat' (first | exact Sub.nil | refine Sub.val rfl (by first | with_reducible rfl | (congr 1; omega)) ?_ | refine Sub.same rfl ?_)))
end Srt
end Go.Proofs.YtfcioiobhpcngaaGreatDoor
end
section
set_option linter.unusedSimpArgs false
set_option linter.unusedVariables false
set_option maxRecDepth 3000
namespace Go.Proofs.YtfcioiobhpcngaaGreatDoor
namespace Srt
open Go.LA Go.ArrP Go.RowKit
set_option maxHeartbeats 1000000 in
theorem insN16_c {w : World} : Fc Tryz.prog 184 #[.slice none 0 0, .int .i64 0, .int .i64 0] w (fun e w' => e = .returned (.tuple #[]) ∧ Ext w w') := by
  refine Fc.of (args := [_, _, _]) Tryz.func184 rfl rfl Tryz.ntmps184 (Nat.le_of_ble_eq_true rfl) ?_
  repeat' (first|(refine oLA ?_;first|refine LA_pass rfl ?_|refine wOp ?_|(refine wCm ?_ ?_<;>intro hc)|(refine wNl hK ?_;clear hK K))|refine wG ?_|(refine wCR ?_;intro K hK)|fail)
  refine CX_loop (ι := Unit) (fun i => [(0, .val (.slice none 0 0)), (2, .val (.int .i64 0)), (6, .val (.int .i64 1))]) (fun _ => True) (fun _ => 0) () trivial (by repeat' (first | exact Sub.nil | refine Sub.val rfl (by first | with_reducible rfl | (congr 1; omega)) ?_ | refine Sub.same rfl ?_)) ?_
  rintro _ -
  repeat' (first|(refine oLA ?_;first|refine LA_pass rfl ?_|refine wOp ?_|(refine wCm ?_ ?_<;>intro hc)|(refine wNl hK ?_;clear hK K))|refine wG ?_|(refine wCR ?_;intro K hK)|fail)
  exact PX_end0 rfl (fun w5 e5 => ⟨rfl, e5⟩) (.inl rfl)
theorem pdqN16_c {w : World} (lim : Nat) (hl : lim < 4611686018427387904) : Fc Tryz.prog 149 #[.slice none 0 0, .int .i64 0, .int .i64 0, .int .i64 lim] w (fun e w' => e = .returned (.tuple #[]) ∧ Ext w w') := by
  refine Fc.of (args := [_, _, _, _]) Tryz.func149 rfl rfl Tryz.ntmps149 (Nat.le_of_ble_eq_true rfl) ?_
  repeat' (first|(refine oLA ?_;first|refine LA_pass rfl ?_|refine wOp ?_|(refine wCm ?_ ?_<;>intro hc)|(refine wNl hK ?_;clear hK K))|refine wG ?_|(refine wCR ?_;intro K hK)|fail)
  refine CX_loop (ι := Unit) (fun i => [(0, .val (.slice none 0 0)), (1, .val (.int .i64 0)), (2, .val (.int .i64 0)), (3, .val (.int .i64 lim))]) (fun _ => True) (fun _ => 0) () trivial (by repeat' (first | exact Sub.nil | refine Sub.val rfl (by first | with_reducible rfl | (congr 1; omega)) ?_ | refine Sub.same rfl ?_)) ?_
  rintro _ -
  repeat' (first|(refine oLA ?_;first|refine LA_pass rfl ?_|(refine oD 27 ?_; refine LA_stop (hK _ _ (LX_do3 (f := 184) (fun w' => Ext w w') (fun w' e => insN16_c.mono (by rintro e5 w5 ⟨h1, h2⟩; exact ⟨h1, e.trans h2⟩)) rfl (by decide) rfl rfl rfl rfl (fun w2 hw2 => ?_))); clear hK K)|refine wOp ?_|(refine wCm ?_ ?_<;>intro hc)|(refine wNl hK ?_;clear hK K))|refine wG ?_|(refine wCR ?_;intro K hK)|fail)
  exact PX_end0 rfl (fun w5 e5 => ⟨rfl, hw2.trans e5⟩) (.inr rfl)
set_option maxHeartbeats 1000000 in
theorem sort16_c {w0 w : World} {v : Value} {xs : List Int} (he0 : Ext w0 w) (ho : OwnI w0.heap.size 72 .u16 w v xs) (hb : xs.length < 4611686018427387904) :
    Fc Tryz.prog 105 #[v] w (fun e w' => e = .returned (.tuple #[]) ∧ Ext w0 w' ∧ OwnI w0.heap.size 72 .u16 w' v (xs.mergeSort (fun x y => decide (x ≤ y)))) := by
  rcases ho.2 with ⟨rfl, h0⟩ | ⟨b, cap, cur, rfl, hx⟩
  · have hx0 : xs = [] := List.eq_nil_of_length_eq_zero h0
    subst hx0
    refine Fc.of (args := [_]) Tryz.func105 rfl rfl Tryz.ntmps105 (Nat.le_of_ble_eq_true rfl) ?_
    repeat' (first|(refine oLA ?_;first|refine LA_pass rfl ?_|(refine oLen ?_; refine LA_len rfl _ rfl rfl (by exact (HasI.val (OwnI.slI ho)).c) ?_)|(refine oD 10 ?_; refine LA_stop (hK _ _ (LX_do4 (f := 149) (fun w' => Ext w0 w') (fun w' e => (pdqN16_c (Go.Sort.bitsLen 0) (by decide)).mono (by rintro e5 w5 ⟨h1, h2⟩; exact ⟨h1, (he0.trans e).trans h2⟩)) rfl (by decide) rfl rfl rfl rfl rfl (fun w2 hw2 => ?_))); clear hK K)|refine wOp ?_|(refine wCm ?_ ?_<;>intro hc)|(refine oCv ?_;first|(refine oC 113 ?_; refine LA_call1 (f := 113) rfl rfl rfl  (.val (.int .i64 (Go.Sort.bitsLen 0 : Nat))) (by intro u1 w e hu1; (try obtain rfl : u1 = _ := hu1); exact len_c 0 (by omega)) ?_))|(refine wNl hK ?_;clear hK K))|refine wG ?_|(refine wCR ?_;intro K hK)|fail)
    exact PX_end0 rfl (fun w5 e5 => ⟨rfl, hw2.trans e5, by rw [List.mergeSort_nil]; exact OwnI.nil⟩) (.inl rfl)
  · have hk : Go.Sort.bitsLen xs.length ≤ 62 := (Go.Sort.bitsLen_le_iff _ 62).2 (by omega)
    have ho1 : Rw16 w0 w b cap xs.length xs.toArray := ho
    refine Fc.of (args := [_]) Tryz.func105 rfl rfl Tryz.ntmps105 (Nat.le_of_ble_eq_true rfl) ?_
    repeat' (first|(refine oLA ?_;first|refine LA_pass rfl ?_|(refine oLen ?_; refine LA_len rfl _ rfl rfl (by exact (HasI.val (OwnI.slI ho)).c) ?_)|(refine oD 10 ?_; refine LA_stop (hK _ _ (LX_do4 (f := 149) (fun w' => Ext w0 w' ∧ ∃ D', Go.Sort.PermIn 0 xs.length xs.toArray D' ∧ Go.Sort.SortedIn Go.Sort.ltInt 0 xs.length D' ∧ Rw16 w0 w' b cap xs.length D') (fun w' e => pdq16_c xs.length (he0.trans e) (ho1.ext e) (by simp) (by simpa using hb) 0 xs.length (Go.Sort.bitsLen xs.length) (by omega) (by omega) (by simp) (.inl rfl) (by omega)) rfl (by decide) rfl rfl rfl rfl rfl (fun w2 hw2 => ?_))); clear hK K; obtain ⟨he2, D', hp, hs, ho2⟩ := hw2)|refine wOp ?_|(refine wCm ?_ ?_<;>intro hc)|(refine oCv ?_;first|(refine oC 113 ?_; refine LA_call1 (f := 113) rfl rfl rfl  (.val (.int .i64 (Go.Sort.bitsLen xs.length : Nat))) (by intro u1 w e hu1; (try obtain rfl : u1 = _ := hu1); exact len_c xs.length (by omega)) ?_))|(refine wNl hK ?_;clear hK K))|refine wG ?_|(refine wCR ?_;intro K hK)|fail)
    have hu := Go.Sort.sorted_unique_holds (lt := Go.Sort.ltInt) Go.Sort.swo_ltInt (by intro x y h1 h2; simp [Go.Sort.ltInt] at h1 h2; omega) xs.toArray D' (by simpa using hp) (by simpa using hs)
    have hle : (fun x y : Int => !Go.Sort.ltInt y x) = (fun x y => decide (x ≤ y)) := by
      funext x y; unfold Go.Sort.ltInt; by_cases h : x ≤ y <;> simp [h] <;> omega
    rw [hle] at hu
    exact PX_end0 rfl (fun w5 e5 => ⟨rfl, he2.trans e5, by have h3 := OwnI.ext ho2 e5; rw [hu] at h3; exact h3⟩) (.inl rfl)
end Srt
end Go.Proofs.YtfcioiobhpcngaaGreatDoor
end
