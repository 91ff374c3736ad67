import Derived.Test.YtfcioiobhpcngaaGreatDoorProg
import Derived.WalkKit
import Derived.KernelRfl
import Derived.Laws.AppendOwnNone
import Derived.Scope
import Derived.Lib.Overlaps
import Derived.Laws.Externs
import Derived.Laws.OwnMore
import Init
import Derived.Laws.Tables
import Derived.Lib.TrailingZeros
import Derived.Laws.Bits64b
import Derived.ChangeSame
import Derived.ChangeSlices
import Derived.Laws.StructEq
import Derived.Maps.AppendAt
import Derived.Sort.AssemblyPlain
import Derived.Laws.Bits64
import Derived.Test.YtfcioiobhpcngaaGreatDoorM3
section
set_option linter.unusedSimpArgs false
set_option linter.unusedVariables false
set_option maxRecDepth 3000
namespace Go.Proofs.YtfcioiobhpcngaaGreatDoor
open Go.LA Go.ArrP Go.RowKit
variable {A B : Nat → Prop}
theorem e9A : El Tryz.prog 27 32 (.agg #[.int .u64 0, .int .u64 0]) 2 16 := ⟨rfl, rfl, rfl, by decide⟩
abbrev tSp : Nat := 32
set_option maxHeartbeats 1000000 in
theorem laA {w : World} {v : Value} {p : Nat → Bool} (h : NSet B A w v p) (hT : Tab w) : Fc Tryz.prog 19 #[v] w (Ret w (.pred (lkA w.heap.size tSp .u64 (spL p TOP)))) := by
  obtain ⟨lv, Q, hP, hL⟩ := oaA h
  have hnk := gbA p
  have htop := dwA
  refine Fc.of (args := [_]) Tryz.func19 rfl rfl Tryz.ntmps19 (Nat.le_of_ble_eq_true rfl) ?_
  repeat' (first|(refine oLA ?_;first|refine a0A rfl ?_|(refine cyA ?_; refine bmA rfl _ rfl rfl (HasC.ownV hP.own) ?_)|refine wOp ?_|(refine wCm ?_ ?_<;>intro hc)|(refine oCv ?_;first|(refine oC 50 ?_; refine a1A (f := 50) rfl rfl rfl  (.val lv) (by intro u1 w e hu1; (try obtain rfl : u1 = _ := hu1); exact hL _ e) ?_))|(refine wNl hK ?_;clear hK K))|refine wG ?_|(refine wCR ?_;intro K hK)|fail)
  refine ahA (ι := Nat × Value) (fun i => [(0, .val v), (3, .val i.2), (13, .val lv), (14, .val (.int .i64 (nk p))), (15, .val (.int .i64 i.1))]) (fun i w' => i.1 ≤ nk p ∧ Ext w w' ∧ OwnP w.heap.size tSp .u64 w' i.2 (spL p (kp p i.1 * 65536))) (fun i => nk p - i.1)
    (fun w2 e2 => ⟨(0, .slice none 0 0), ⟨Nat.zero_le _, e2, by dsimp only; rw [feA (p := p) (Nat.zero_le _) (fun x _ hx => m0A hx), i8A]; exact OwnP.nil⟩, (by repeat' (first | exact Sub.nil | refine Sub.val rfl (by first | with_reducible rfl | (congr 1; omega)) ?_ | refine Sub.same rfl ?_))⟩) ?_
  rintro ⟨i, so⟩ w1 ⟨hi, he, ho⟩
  dsimp only at hi ho ⊢
  have hP1 := hP.ext he
  by_cases hil : i < nk p
  · obtain ⟨hat, hcn, h1⟩ := hP1.at hil
    obtain ⟨b, kv, rfl, hb, hkv⟩ := hP1.set (by omega)
    obtain ⟨k1, k2, k3, k4⟩ := jnA hil
    have hkl := bnA p
    have hown := hP1.own
    have hru : ∀ w', Ext w1 w' → _ := fun w' e => kqA (hcn.ext e) ((hT.ext he).ext e)
    obtain ⟨gE, hE1, hE2, hE3⟩ := mnA hil
    have hrun := fun j hj => weA (p := p) (i := i) (j := j) hj
    have hsl := fun T => Nat.le_trans (sxA p T) (cnt_le p T)
    have hsb := fun T => sp_bd p T
    obtain ⟨rs, hrs⟩ : ∃ rs, rs = aoA (blk p (kp p i)) := ⟨_, rfl⟩
    have hrl := d1A (blk p (kp p i))
    rw [← hrs] at hru hrun hE1 hrl
    obtain ⟨K0, hK0⟩ : ∃ K0, K0 = kp p i := ⟨_, rfl⟩
    rw [← hK0] at k1 k4 hE3 hrun ho
    have e4 : IntKind.u64.wrap ((K0 : Int) * 65536) = ((K0 * 65536 : Nat) : Int) := by rw [ddA .u64 _ (by dsimp only [fits]; omega)]; omega
    repeat' (first|(refine oLA ?_;first|refine a0A rfl ?_|(refine oNc ?_; refine akA rfl rfl ?_)|(refine oF 0 ?_; refine a2A (a' := ⟨b, 0, none⟩) rfl rfl (fun _ => rfl) ?_)|(refine oF 1 ?_; refine a2A (a' := ⟨b, 1, none⟩) rfl rfl (fun _ => rfl) ?_)|(refine oLt 52 ?_; refine a8A (c := kv) rfl (fun _ => rfl) rfl hb rfl ?_)|(refine oLt 53 ?_; refine a8A (c := lv) rfl (fun _ => rfl) rfl hb rfl ?_)|(refine oI ?_; refine cnA (s := 4) rfl _ rfl (fun _ => rfl) rfl (HasC.ownV hown) rfl i rfl (by omega) ?_; rw [hat])|(refine oLt 65 ?_; refine anA (cs := qcs _) rfl (fun _ => rfl) (fun _ => rfl) rfl ?_)|(refine oD 5 ?_; refine a4A (hK _ _ (pgA rfl rfl rfl (by decide) (by decide) (fun _ => rfl) (fun _ => rfl) rfl (fun _ => rfl) (fun _ => rfl) rfl h1 (fun bx wx ex hbx hbc => ?_))); clear hK K; replace hb := ex.block hb; replace hkv := hkv.ext ex; refine amA (by kernel_rfl) (fun K hK => ?_))|(refine oD 25 ?_; refine asA rfl _ rfl (fun _ => rfl) rfl (HasI.ownV hkv) rfl (by omega) ?_; rw [k4])|(refine oD 28 ?_; refine hbA rfl rfl rfl (by decide) (by decide) ?_; rw [show (2 : Int) ^ Int.toNat 16 = 65536 by decide, e4])|(refine oLt 65 ?_; refine cvA (n := 4) rfl hbc rfl rfl (fun _ => rfl) (fun _ => rfl) ?_)|(refine cyA ?_; refine bzA rfl _ rfl rfl HasR.own ?_)|refine wOp ?_|(refine wCm ?_ ?_<;>intro hc)|(refine oCv ?_;first|(refine oC 36 ?_; refine a1A (f := 36) rfl rfl rfl  (.pred (ekA w.heap.size 96 rs)) (by intro u1 w e hu1; (try obtain rfl : u1 = _ := hu1); exact (hru _ (ex.trans e)).mono (azA (Nat.le_trans he.size (Nat.le_trans ex.size e.size)) rfl)) ?_))|(refine wNl hK ?_;clear hK K))|refine wG ?_|(refine wCR ?_;intro K hK)|fail)
    all_goals skip
    refine g6A 30 rfl (fun vr w2 e2 hvr => ?_)
    have hvr : OwnR w.heap.size 96 w2 vr rs := hvr
    obtain ⟨KB, hKB⟩ : ∃ KB, KB = K0 * 65536 := ⟨_, rfl⟩
    rw [← hKB] at hE3 hrun ho
    rw [show ((K0 * 65536 : Nat) : Int) = (KB : Int) by rw [hKB]]
    have hKB2 : KB + 65536 ≤ 4294967296 := by omega
    clear hrs hK0 e4 hKB hat hcn h1 hb hkv hru hP1 hP hL h hown
    have x12 := ex.trans e2
    refine ahA (ι := Nat × Value) (fun j => [(0, .val (.pointer (some ⟨b, 0, none⟩))), (3, .val j.2), (6, .val (.int .u64 KB)), (13, .val lv), (14, .val (.int .i64 (nk p))), (15, .val (.int .i64 i)), (30, .val vr), (31, .val (.int .i64 rs.length)), (32, .val (.int .i64 j.1))]) (fun j w' => j.1 ≤ rs.length ∧ Ext w w' ∧ OwnR w.heap.size 96 w' vr rs ∧ OwnP w.heap.size tSp .u64 w' j.2 (spL p (KB + (itA rs j.1).toNat))) (fun j => rs.length - j.1)
      (fun w3 e3 => ⟨(0, so), ⟨Nat.zero_le _, he.trans (x12.trans e3), hvr.ext e3, ho.ext (x12.trans e3)⟩, (by repeat' (first | exact Sub.nil | refine Sub.val rfl (by first | with_reducible rfl | (congr 1; omega)) ?_ | refine Sub.same rfl ?_))⟩) ?_
    rintro ⟨j, so⟩ w3 ⟨hj, x03, hr3, ho⟩
    dsimp only at hj ho ⊢
    by_cases hjl : j < rs.length
    · obtain ⟨f, m, g, q1, q2, q3, q4, q5, q6, q7, q8⟩ := hrun j hjl
      rw [q3, Int.toNat_natCast, ← q7] at ho
      have hst := tuA (p := p) (a := KB + f) (b := KB + (f + m + 1)) (by omega) (fun x h1 h2 => q8 x h1 h2)
      have hend : spL p (KB + (itA rs (j + 1)).toNat) = spL p (KB + (f + m + 1)) := by rw [q4, Int.toNat_natCast]
      have hSl := hsl (KB + f)
      obtain ⟨S, hS⟩ : ∃ S, S = spL p (KB + f) := ⟨_, rfl⟩
      rw [← hS] at ho hst hSl
      clear hrun hsl hsb hS q3 q4 q7 q8 hE3
      rcases hst with ⟨s1, s2, s3⟩ | ⟨s1, s3⟩
      · obtain ⟨gb, cap, cur, rfl, r1, r2, r3, r4, r5, r6⟩ := ho.row s1
        have hgl : S.getD (S.length - 1) (0, 0) = ((S.getD (S.length - 1) (0, 0)).1, ((KB + f : Nat) : Int)) := by rw [← s2]
        repeat' (first|(refine oLA ?_;first|refine a0A rfl ?_|(refine oD 34 ?_; refine b7A rfl _ rfl (fun _ => rfl) rfl (HasR.ownV hr3) rfl hjl ?_; rw [q1, q2])|(refine oLt 96 ?_; refine anA (cs := [.int .u16 f, .int .u16 m]) rfl (fun _ => rfl) (fun _ => rfl) rfl ?_)|(refine oD 8 ?_; refine a4A (hK _ _ (c7A rfl rfl (by decide) (fun _ => rfl) (fun _ => rfl) (fun _ => rfl) rfl (by intro u hu; simp [Value.cells] at hu; rcases hu with rfl | rfl <;> rfl) (fun bx wx ex hbx hbc => ?_))); clear hK K; replace r2 := ex.block r2; replace ho := ho.ext ex; refine amA (by kernel_rfl) (fun K hK => ?_))|(refine oD 37 ?_; refine a2A (a' := ⟨bx, 0, none⟩) rfl rfl (fun _ => rfl) ?_)|(refine oD 42 ?_; refine a2A (a' := ⟨bx, 0, none⟩) rfl rfl (fun _ => rfl) ?_)|(refine oD 46 ?_; refine a2A (a' := ⟨bx, 1, none⟩) rfl rfl (fun _ => rfl) ?_)|(refine oLt 72 ?_; refine a8A rfl (fun _ => rfl) rfl hbc rfl ?_)|(refine cyA ?_; refine d6A rfl _ rfl rfl (HasP.ownV ho) ?_)|(refine oD 58 ?_; refine a9A rfl rfl rfl (by dsimp only [fits]; omega) ?_; rw [show ((S.length : Int) - 1) = ((S.length - 1 : Nat) : Int) by omega])|(refine oD 60 ?_; refine arA (o := 1) rfl rfl (fun _ _ => rfl) ?_)|(refine oD 61 ?_; refine cwA rfl (fun _ => rfl) rfl rfl ?_)|(refine oD 67 ?_; refine a9A rfl rfl rfl (by dsimp only [fits]; omega) ?_; rw [show ((S.length : Int) - 1) = ((S.length - 1 : Nat) : Int) by omega])|(refine oD 59 ?_; refine c8A rfl _ rfl (fun _ => rfl) rfl (HasP.ownV ho) rfl (by omega) ?_; rw [s2])|(refine oD 69 ?_; refine cuA (s := 2) rfl rfl (fun _ => rfl) rfl rfl (by omega) (by omega) ?_; rw [Int.toNat_natCast, Nat.zero_add])|(refine oD 70 ?_; refine a2A (a' := ⟨gb, (S.length - 1) * 2 + 1, none⟩) rfl rfl (fun _ => rfl) ?_)|(refine oSt ?_; refine a4A (hK _ _ (deA rfl rfl rfl r2 (fun _ => rfl) (by omega) rfl rfl (fun w7 e7 => ?_))); clear hK K)|refine wOp ?_|(refine wCm ?_ ?_<;>intro hc)|(refine wNl hK ?_;clear hK K))|refine wG ?_|(refine wCR ?_;intro K hK)|fail)
        all_goals skip
        have hr7 := Own.setRow (hr3.ext (ex.trans e7)) (cur.setIfInBounds ((S.length - 1) * 2 + 1) (.int .u64 ((KB : Int) + f + m + 1))) (Own.apart (hr3.ext (ex.trans e7)) (e7.block r2) (by decide))
        have ho7 := OwnP.set2 r1 (e7.block r2) r3 r4 r5 r6 (S.length - 1) ((KB : Int) + f + m + 1)
        have x7 := (x03.trans (ex.trans e7)).setRow r1 (cur.setIfInBounds ((S.length - 1) * 2 + 1) (.int .u64 ((KB : Int) + f + m + 1)))
        rw [show ((KB + (f + m + 1) : Nat) : Int) = (KB : Int) + f + m + 1 by omega] at s3
        exact a7A (j + 1, _) (fun w5 e5 => ⟨hjl, x7.trans e5, Own.ext hr7 e5, by dsimp only; rw [hend, s3]; exact ho7.ext e5⟩) (by dsimp only; omega) (by repeat' (first | exact Sub.nil | refine Sub.val rfl (by first | with_reducible rfl | (congr 1; omega)) ?_ | refine Sub.same rfl ?_))
      · have hpair : (((KB + f : Nat) : Int), ((KB + (f + m + 1) : Nat) : Int)) = ((KB : Int) + f, (KB : Int) + f + m + 1) := Prod.ext (by omega) (by dsimp only; omega)
        by_cases h0 : S.length = 0
        · skip
          repeat' (first|(refine oLA ?_;first|refine a0A rfl ?_|(refine oD 34 ?_; refine b7A rfl _ rfl (fun _ => rfl) rfl (HasR.ownV hr3) rfl hjl ?_; rw [q1, q2])|(refine oLt 96 ?_; refine anA (cs := [.int .u16 f, .int .u16 m]) rfl (fun _ => rfl) (fun _ => rfl) rfl ?_)|(refine oD 8 ?_; refine a4A (hK _ _ (c7A rfl rfl (by decide) (fun _ => rfl) (fun _ => rfl) (fun _ => rfl) rfl (by intro u hu; simp [Value.cells] at hu; rcases hu with rfl | rfl <;> rfl) (fun bx wx ex hbx hbc => ?_))); clear hK K; replace ho := ho.ext ex; refine amA (by kernel_rfl) (fun K hK => ?_))|(refine oD 37 ?_; refine a2A (a' := ⟨bx, 0, none⟩) rfl rfl (fun _ => rfl) ?_)|(refine oD 42 ?_; refine a2A (a' := ⟨bx, 0, none⟩) rfl rfl (fun _ => rfl) ?_)|(refine oD 46 ?_; refine a2A (a' := ⟨bx, 1, none⟩) rfl rfl (fun _ => rfl) ?_)|(refine oLt 72 ?_; refine a8A rfl (fun _ => rfl) rfl hbc rfl ?_)|(refine cyA ?_; refine d6A rfl _ rfl rfl (HasP.ownV ho) ?_)|(refine oD 58 ?_; refine a9A rfl rfl rfl (by dsimp only [fits]; omega) ?_; rw [show ((S.length : Int) - 1) = ((S.length - 1 : Nat) : Int) by omega])|(refine oD 60 ?_; refine arA (o := 1) rfl rfl (fun _ _ => rfl) ?_)|(refine oD 61 ?_; refine cwA rfl (fun _ => rfl) rfl rfl ?_)|(refine oD 74 ?_; refine cfA (c := spV .u64 ((KB : Int) + f, (KB : Int) + f + m + 1)) rfl rfl rfl (fun w => run_build w _ _ _ (by kernel_rfl)) ?_)|(refine oD 75 ?_; refine drA rfl e9A rfl rfl (by decide) ?_)|(refine oD 76 ?_; refine a4A (hK _ _ (daA (n := S.length) (cs := ciA .u64 S) rfl (by decide) e9A rfl ho rfl HasC.own (by intro u hu; simp [spV, Value.cells] at hu; rcases hu with rfl | rfl <;> rfl) (by unfold maxLen; omega) (by omega) (fun v' wa wb' e' ho' hf hl => ?_))); clear hK K; refine amA (by kernel_rfl) (fun K hK => ?_))|refine wOp ?_|(refine wCm ?_ ?_<;>intro hc)|(refine wNl hK ?_;clear hK K))|refine wG ?_|(refine wCR ?_;intro K hK)|fail)
          all_goals skip
          have x4 := x03.trans (ex.trans e')
          have ho'' : OwnP w.heap.size tSp .u64 wb' v' (S ++ [((KB : Int) + f, (KB : Int) + f + m + 1)]) := by
            unfold OwnP; rw [g0A, List.length_append, List.length_singleton]
            exact Own.rebase ho' (hl.ge (fun k hk => (Own.lt ho k hk).1) x4.size)
          have hr' := hf.own (hr3.ext (ex.trans e')) (fun k h1 h2 => by
            obtain ⟨cur, hcur⟩ := bwA (hr3.ext (ex.trans e')) h1
            exact Own.apart (ho.ext e') hcur (by decide) h2)
          exact a7A (j + 1, v') (fun w5 e5 => ⟨hjl, (Fr.ext x4 hf (fun k hk => (Own.lt ho k hk).1)).trans e5, Own.ext hr' e5, by dsimp only; rw [hend, s3, hpair]; exact ho''.ext e5⟩) (by dsimp only; omega) (by repeat' (first | exact Sub.nil | refine Sub.val rfl (by first | with_reducible rfl | (congr 1; omega)) ?_ | refine Sub.same rfl ?_))
        · have s1' : (S.getD (S.length - 1) (0, 0)).2 ≠ ((KB + f : Nat) : Int) := s1.resolve_left h0
          repeat' (first|(refine oLA ?_;first|refine a0A rfl ?_|(refine oD 59 ?_; refine c8A rfl _ rfl (fun _ => rfl) rfl (HasP.ownV ho) rfl (by omega) ?_)|(refine oD 34 ?_; refine b7A rfl _ rfl (fun _ => rfl) rfl (HasR.ownV hr3) rfl hjl ?_; rw [q1, q2])|(refine oLt 96 ?_; refine anA (cs := [.int .u16 f, .int .u16 m]) rfl (fun _ => rfl) (fun _ => rfl) rfl ?_)|(refine oD 8 ?_; refine a4A (hK _ _ (c7A rfl rfl (by decide) (fun _ => rfl) (fun _ => rfl) (fun _ => rfl) rfl (by intro u hu; simp [Value.cells] at hu; rcases hu with rfl | rfl <;> rfl) (fun bx wx ex hbx hbc => ?_))); clear hK K; replace ho := ho.ext ex; refine amA (by kernel_rfl) (fun K hK => ?_))|(refine oD 37 ?_; refine a2A (a' := ⟨bx, 0, none⟩) rfl rfl (fun _ => rfl) ?_)|(refine oD 42 ?_; refine a2A (a' := ⟨bx, 0, none⟩) rfl rfl (fun _ => rfl) ?_)|(refine oD 46 ?_; refine a2A (a' := ⟨bx, 1, none⟩) rfl rfl (fun _ => rfl) ?_)|(refine oLt 72 ?_; refine a8A rfl (fun _ => rfl) rfl hbc rfl ?_)|(refine cyA ?_; refine d6A rfl _ rfl rfl (HasP.ownV ho) ?_)|(refine oD 58 ?_; refine a9A rfl rfl rfl (by dsimp only [fits]; omega) ?_; rw [show ((S.length : Int) - 1) = ((S.length - 1 : Nat) : Int) by omega])|(refine oD 60 ?_; refine arA (o := 1) rfl rfl (fun _ _ => rfl) ?_)|(refine oD 61 ?_; refine cwA rfl (fun _ => rfl) rfl rfl ?_)|(refine oD 74 ?_; refine cfA (c := spV .u64 ((KB : Int) + f, (KB : Int) + f + m + 1)) rfl rfl rfl (fun w => run_build w _ _ _ (by kernel_rfl)) ?_)|(refine oD 75 ?_; refine drA rfl e9A rfl rfl (by decide) ?_)|(refine oD 76 ?_; refine a4A (hK _ _ (daA (n := S.length) (cs := ciA .u64 S) rfl (by decide) e9A rfl ho rfl HasC.own (by intro u hu; simp [spV, Value.cells] at hu; rcases hu with rfl | rfl <;> rfl) (by unfold maxLen; omega) (by omega) (fun v' wa wb' e' ho' hf hl => ?_))); clear hK K; refine amA (by kernel_rfl) (fun K hK => ?_))|refine wOp ?_|(refine wCm ?_ ?_<;>intro hc)|(refine wNl hK ?_;clear hK K))|refine wG ?_|(refine wCR ?_;intro K hK)|fail)
          all_goals skip
          have x4 := x03.trans (ex.trans e')
          have ho'' : OwnP w.heap.size tSp .u64 wb' v' (S ++ [((KB : Int) + f, (KB : Int) + f + m + 1)]) := by
            unfold OwnP; rw [g0A, List.length_append, List.length_singleton]
            exact Own.rebase ho' (hl.ge (fun k hk => (Own.lt ho k hk).1) x4.size)
          have hr' := hf.own (hr3.ext (ex.trans e')) (fun k h1 h2 => by
            obtain ⟨cur, hcur⟩ := bwA (hr3.ext (ex.trans e')) h1
            exact Own.apart (ho.ext e') hcur (by decide) h2)
          exact a7A (j + 1, v') (fun w5 e5 => ⟨hjl, (Fr.ext x4 hf (fun k hk => (Own.lt ho k hk).1)).trans e5, Own.ext hr' e5, by dsimp only; rw [hend, s3, hpair]; exact ho''.ext e5⟩) (by dsimp only; omega) (by repeat' (first | exact Sub.nil | refine Sub.val rfl (by first | with_reducible rfl | (congr 1; omega)) ?_ | refine Sub.same rfl ?_))
    · obtain rfl : j = rs.length := by omega
      rw [hE1, Int.toNat_natCast, ← hE3] at ho
      repeat' (first|(refine oLA ?_;first|refine a0A rfl ?_|refine wOp ?_|(refine wCm ?_ ?_<;>intro hc)|(refine wNl hK ?_;clear hK K))|refine wG ?_|(refine wCR ?_;intro K hK)|fail)
      exact a7A (i + 1, so) (fun w5 e5 => ⟨hil, x03.trans e5, ho.ext e5⟩) (by dsimp only; omega) (by repeat' (first | exact Sub.nil | refine Sub.val rfl (by first | with_reducible rfl | (congr 1; omega)) ?_ | refine Sub.same rfl ?_))
  · obtain rfl : i = nk p := by omega
    rw [kfA] at ho
    repeat' (first|(refine oLA ?_;first|refine a0A rfl ?_|refine wOp ?_|(refine wCm ?_ ?_<;>intro hc)|(refine wNl hK ?_;clear hK K))|refine wG ?_|(refine wCR ?_;intro K hK)|fail)
    exact alA rfl rfl he (fun u w5 e5 hu => by obtain rfl : u = _ := hu; exact ho.ext e5)
theorem whA {w : World} {v u : Value} {p q : Nat → Bool} (h : NSet B A w v p) (h' : NSet B A w u q) (hT : Tab w) : Fc Tryz.prog 17 #[v, u] w (Ret w (.val (.bool (decide (spL p TOP = spL q TOP))))) := by
  have hr1 : ∀ w', Ext w w' → _ := fun w' e => laA (h.ext e) (hT.ext e)
  have hr2 : ∀ w', Ext w w' → _ := fun w' e => laA (h'.ext e) (hT.ext e)
  obtain ⟨xs, hxs⟩ : ∃ xs, xs = spL p TOP := ⟨_, rfl⟩
  obtain ⟨ys, hys⟩ : ∃ ys, ys = spL q TOP := ⟨_, rfl⟩
  rw [← hxs] at hr1; rw [← hys] at hr2
  rw [← hxs, ← hys]
  refine Fc.of (args := [_, _]) Tryz.func17 rfl rfl Tryz.ntmps17 (Nat.le_of_ble_eq_true rfl) ?_
  repeat' (first|(refine oLA ?_;first|refine a0A rfl ?_|(refine oD 6 ?_; refine oC 19 ?_; refine a1A (f := 19) rfl rfl rfl  (.pred (lkA w.heap.size tSp .u64 xs)) (by intro u1 w e hu1; (try obtain rfl : u1 = _ := hu1); exact (hr1 _ e).mono (d2A e.size rfl)) ?_)|(refine oD 8 ?_; refine oC 19 ?_; refine a1A (f := 19) rfl rfl rfl  (.pred (lkA w.heap.size tSp .u64 ys)) (by intro u1 w e hu1; (try obtain rfl : u1 = _ := hu1); exact (hr2 _ e).mono (d2A e.size rfl)) ?_)|refine wOp ?_|(refine wCm ?_ ?_<;>intro hc)|(refine oCv ?_;first|(refine oC 53 ?_; refine a3A (f := 53) rfl rfl rfl rfl  (.val (.bool (decide (xs = ys)))) (by intro u1 u2 w e hu1 hu2; (try obtain rfl : u1 = _ := hu1); (try obtain rfl : u2 = _ := hu2); exact v6A _ _ _ _ _ (OwnP.slP hu1) (OwnP.slP hu2)) ?_))|(refine wNl hK ?_;clear hK K))|refine wG ?_|(refine wCR ?_;intro K hK)|fail)
  all_goals skip
  exact abA rfl rfl (Ext.refl _) rfl
end Go.Proofs.YtfcioiobhpcngaaGreatDoor
end
section
set_option linter.unusedSimpArgs false
set_option linter.unusedVariables false
set_option maxRecDepth 3000
namespace Go.Proofs.YtfcioiobhpcngaaGreatDoor
open Go.LA Go.ArrP Go.RowKit
variable {A B : Nat → Prop}
theorem x8A (w : World) (n : Nat) (hn : n ≤ 1000000) : Fc Tryz.prog 148 #[nilS, .int .i64 n] w (Ret w (.pred (bjA w.heap.size tK .u16 []))) := by
  by_cases h0 : n = 0
  · subst h0
    refine Fc.of (args := [_, _]) Tryz.func148 rfl rfl Tryz.ntmps148 (Nat.le_of_ble_eq_true rfl) ?_
    repeat' (first|(refine oLA ?_;first|refine a0A rfl ?_|(refine oD 10 ?_; refine hdA rfl rfl rfl ?_)|(refine cyA ?_; refine bmA (n := 0) (s := 1) (cs := []) rfl _ rfl rfl (HasC.ownV (base := 0) (e := 0) Own.nil) ?_)|refine wOp ?_|(refine wCm ?_ ?_<;>intro hc)|(refine wNl hK ?_;clear hK K))|refine wG ?_|(refine wCR ?_;intro K hK)|fail)
    all_goals skip
    exact alA rfl rfl (Ext.refl _) (fun v _ _ hv => by obtain rfl : v = _ := hv; exact OwnI.nil)
  · refine Fc.of (args := [_, _]) Tryz.func148 rfl rfl Tryz.ntmps148 (Nat.le_of_ble_eq_true rfl) ?_
    repeat' (first|(refine oLA ?_;first|refine a0A rfl ?_|(refine oD 10 ?_; refine hdA rfl rfl rfl ?_)|(refine oD 19 ?_; refine hdA rfl rfl rfl ?_)|(refine cyA ?_; refine bmA (n := 0) (s := 1) (cs := []) rfl _ rfl rfl (HasC.ownV (base := 0) (e := 0) Own.nil) ?_)|(refine oD 20 ?_; refine exA (n := 0) (s := 1) (cs := []) rfl _ rfl rfl (HasC.ownV (base := 0) (e := 0) Own.nil) rfl (by decide) (by decide) (fun _ => rfl) ?_)|(refine oD 22 ?_; refine a4A (hK _ _ (efA (n := 0) (kn := n) (cs := []) (cap := 0) (a := none) rfl (by decide) clA rfl rfl rfl (Own.nil (base := 0) (e := 0)).slC (by omega) (by omega) (by omega) (by decide) (by omega) (by omega) (fun v' w1 w2 zs e1 hz1 hz2 ho e2 => ?_))); clear hK K; refine amA (by kernel_rfl) (fun K hK => ?_))|refine wOp ?_|(refine wCm ?_ ?_<;>intro hc)|(refine wNl hK ?_;clear hK K))|refine wG ?_|(refine wCR ?_;intro K hK)|fail)
    all_goals skip
    refine alA rfl rfl (e1.trans e2) (fun v w3 e3 hv => ?_)
    obtain rfl : v = _ := hv
    rcases ho.2 with ⟨_, h1⟩ | ⟨gb, cap, cur, rfl, hx⟩
    · omega
    · have h2 := igA ho 0 (Nat.zero_le _)
      have hcap : 0 < cap := by have := hx.2.2.1; omega
      have h3 : dyA (.slice (some ⟨gb, 0, none⟩) (0 + n) cap) 0 0 Tryz.prog.types[72].size = .slice (some ⟨gb, 0, none⟩) 0 cap := e8A hcap
      rw [h3]
      exact Own.base (h2.ext e3) e1.size
def rl2 (xs ys : List Int) (i : Nat) : List Int := if i = 0 then [] else if i = 1 then xs else xs ++ ys
theorem rlA {w : World} {v ka kb : Value} {xs ys : List Int} (hv : SlC w v 2 1 [ka, kb]) (ha : SlI .u16 w ka xs) (hb : SlI .u16 w kb ys) (hx : xs.length ≤ 65536) (hy : ys.length ≤ 65536) :
    Fc Tryz.prog 104 #[v] w (Ret w (.pred (bjA w.heap.size tK .u16 (xs ++ ys)))) := by
  have hgr : ∀ w', Ext w w' → _ := fun w' e => x8A w' (xs.length + ys.length) (by omega)
  refine Fc.of (args := [_]) Tryz.func104 rfl rfl Tryz.ntmps104 (Nat.le_of_ble_eq_true rfl) ?_
  repeat' (first|(refine oLA ?_;first|refine a0A rfl ?_|(refine cyA ?_; refine bmA rfl _ rfl rfl (HasC.val hv) ?_)|refine wOp ?_|(refine wCm ?_ ?_<;>intro hc)|(refine wNl hK ?_;clear hK K))|refine wG ?_|(refine wCR ?_;intro K hK)|fail)
  refine b8A (ι := Nat) (fun i => [(0, .val v), (3, .val (.int .i64 ((rl2 xs ys i).length : Nat))), (9, .val v), (10, .val (.int .i64 2)), (11, .val (.int .i64 i))]) (fun i => i ≤ 2) (fun i => 2 - i) 0 (by decide) (by repeat' (first | exact Sub.nil | refine Sub.val rfl (by first | with_reducible rfl | (congr 1; omega)) ?_ | refine Sub.same rfl ?_)) ?_
  intro i hi
  obtain rfl | rfl | rfl : i = 0 ∨ i = 1 ∨ i = 2 := by omega
  · skip
    repeat' (first|(refine oLA ?_;first|refine a0A rfl ?_|(refine oD 13 ?_; refine cnA (s := 1) rfl _ rfl (fun _ => rfl) rfl (HasC.val hv) rfl 0 rfl (by decide) ?_)|(refine oD 14 ?_; refine dzA (c := ka) rfl (fun _ => rfl) rfl ?_)|(refine cyA ?_; refine bmA rfl _ rfl rfl (HasI.val ha).c ?_)|(refine oD 18 ?_; refine ayA rfl rfl rfl (by show -9223372036854775808 ≤ (0 : Int) + xs.length ∧ (0 : Int) + xs.length ≤ 9223372036854775807; omega) ?_)|(refine oD 20 ?_; refine g4A rfl rfl rfl rfl (by show ¬ ((0 : Int) + xs.length < 0); omega) ?_)|refine wOp ?_|(refine wCm ?_ ?_<;>intro hc)|(refine wNl hK ?_;clear hK K))|refine wG ?_|(refine wCR ?_;intro K hK)|fail)
    all_goals skip
    exact bpA 1 (by decide) (by decide) (Sub.same rfl (Sub.val rfl (by show Value.int .i64 ((0 : Int) + xs.length) = .int .i64 xs.length; rw [Int.zero_add]) (Sub.same rfl (Sub.same rfl (Sub.same rfl Sub.nil)))))
  · skip
    repeat' (first|(refine oLA ?_;first|refine a0A rfl ?_|(refine oD 13 ?_; refine cnA (s := 1) rfl _ rfl (fun _ => rfl) rfl (HasC.val hv) rfl 1 rfl (by decide) ?_)|(refine oD 14 ?_; refine dzA (c := kb) rfl (fun _ => rfl) rfl ?_)|(refine cyA ?_; refine bmA rfl _ rfl rfl (HasI.val hb).c ?_)|(refine oD 18 ?_; refine ayA (a := (xs.length : Int)) rfl rfl rfl (by dsimp only [fits]; omega) ?_)|refine wOp ?_|(refine wCm ?_ ?_<;>intro hc)|(refine wNl hK ?_;clear hK K))|refine wG ?_|(refine wCR ?_;intro K hK)|fail)
    all_goals skip
    exact bpA 2 (by decide) (by decide) (Sub.same rfl (Sub.val rfl (by show Value.int .i64 ((xs.length : Int) + ys.length) = .int .i64 ((xs ++ ys).length : Nat); rw [List.length_append, Int.natCast_add]) (Sub.same rfl (Sub.same rfl (Sub.same rfl Sub.nil)))))
  · skip
    repeat' (first|(refine oLA ?_;first|refine a0A rfl ?_|(refine oD 23 ?_; refine dbA (c := .int .i64 ((xs.length + ys.length : Nat) : Int)) rfl (by show AD.val (Value.int .i64 ((xs ++ ys).length : Nat)) = _; rw [List.length_append]) ?_)|(refine cyA ?_; refine bmA rfl _ rfl rfl (HasC.val hv) ?_)|refine wOp ?_|(refine wCm ?_ ?_<;>intro hc)|(refine oCv ?_;first|(refine oC 148 ?_; refine a3A (f := 148) rfl rfl rfl rfl  (.pred (bjA w.heap.size tK .u16 [])) (by intro u1 u2 w e hu1 hu2; (try obtain rfl : u1 = _ := hu1); (try obtain rfl : u2 = _ := hu2); exact (hgr _ e).mono (aaA e.size)) ?_))|(refine wNl hK ?_;clear hK K))|refine wG ?_|(refine wCR ?_;intro K hK)|fail)
    all_goals skip
    refine g6A 6 rfl (fun v6 w6 e6 h6 => ?_)
    refine ahA (ι := Nat × Value) (fun i => [(6, .val i.2), (25, .val v), (26, .val (.int .i64 2)), (27, .val (.int .i64 i.1))]) (fun i w' => i.1 ≤ 2 ∧ Ext w w' ∧ OwnI w.heap.size tK .u16 w' i.2 (rl2 xs ys i.1)) (fun i => 2 - i.1)
      (fun w2 e2 => ⟨(0, v6), ⟨Nat.zero_le 2, e6.trans e2, OwnI.ext h6 e2⟩, (by repeat' (first | exact Sub.nil | refine Sub.val rfl (by first | with_reducible rfl | (congr 1; omega)) ?_ | refine Sub.same rfl ?_))⟩) ?_
    rintro ⟨i, so⟩ w1 ⟨hi, he, ho⟩
    dsimp only at hi ho ⊢
    have ha1 := ha.ext he
    have hb1 := hb.ext he
    have hv1 := hv.ext he
    obtain rfl | rfl | rfl : i = 0 ∨ i = 1 ∨ i = 2 := by omega
    · skip
      repeat' (first|(refine oLA ?_;first|refine a0A rfl ?_|(refine oD 29 ?_; refine cnA (s := 1) rfl _ rfl (fun _ => rfl) rfl (HasC.val hv1) rfl 0 rfl (by decide) ?_)|(refine oD 30 ?_; refine dzA (c := ka) rfl (fun _ => rfl) rfl ?_)|(refine oD 33 ?_; refine a4A (hK _ _ (ctA (n := 0) (cs := []) rfl (by decide) clA rfl ho rfl (HasI.val ha1).c (by intro u hu; obtain ⟨z, _, rfl⟩ := List.mem_map.1 hu; rfl) (by unfold maxLen; omega) (by omega) he.size (fun v' wa wb' e' ho' hg' => ?_))); clear hK K; refine amA (by kernel_rfl) (fun K hK => ?_))|refine wOp ?_|(refine wCm ?_ ?_<;>intro hc)|(refine wNl hK ?_;clear hK K))|refine wG ?_|(refine wCR ?_;intro K hK)|fail)
      all_goals skip
      have ho2 : OwnI w.heap.size tK .u16 wb' v' (rl2 xs ys 1) := by
        show Own _ _ _ _ _ xs.length (xs.map _)
        simpa using ho'
      exact a7A (1, v') (fun w5 e5 => ⟨(by decide : 1 ≤ 2), ((he.trans e').grown hg' (fun q hq => (Own.lt ho q hq).1)).trans e5, ho2.ext e5⟩) (by dsimp only; omega) (by repeat' (first | exact Sub.nil | refine Sub.val rfl (by first | with_reducible rfl | (congr 1; omega)) ?_ | refine Sub.same rfl ?_))
    · skip
      repeat' (first|(refine oLA ?_;first|refine a0A rfl ?_|(refine oD 29 ?_; refine cnA (s := 1) rfl _ rfl (fun _ => rfl) rfl (HasC.val hv1) rfl 1 rfl (by decide) ?_)|(refine oD 30 ?_; refine dzA (c := kb) rfl (fun _ => rfl) rfl ?_)|(refine oD 33 ?_; refine a4A (hK _ _ (ctA (n := xs.length) (cs := xs.map (Value.int .u16)) rfl (by decide) clA rfl ho rfl (HasI.val hb1).c (by intro u hu; obtain ⟨z, _, rfl⟩ := List.mem_map.1 hu; rfl) (by unfold maxLen; omega) (by omega) he.size (fun v' wa wb' e' ho' hg' => ?_))); clear hK K; refine amA (by kernel_rfl) (fun K hK => ?_))|refine wOp ?_|(refine wCm ?_ ?_<;>intro hc)|(refine wNl hK ?_;clear hK K))|refine wG ?_|(refine wCR ?_;intro K hK)|fail)
      all_goals skip
      have ho2 : OwnI w.heap.size tK .u16 wb' v' (rl2 xs ys 2) := by
        show Own _ _ _ _ _ (xs ++ ys).length ((xs ++ ys).map _)
        rw [List.length_append, List.map_append]; exact ho'
      exact a7A (2, v') (fun w5 e5 => ⟨(by decide : 2 ≤ 2), ((he.trans e').grown hg' (fun q hq => (Own.lt ho q hq).1)).trans e5, ho2.ext e5⟩) (by dsimp only; omega) (by repeat' (first | exact Sub.nil | refine Sub.val rfl (by first | with_reducible rfl | (congr 1; omega)) ?_ | refine Sub.same rfl ?_))
    · skip
      repeat' (first|(refine oLA ?_;first|refine a0A rfl ?_|refine wOp ?_|(refine wCm ?_ ?_<;>intro hc)|(refine wNl hK ?_;clear hK K))|refine wG ?_|(refine wCR ?_;intro K hK)|fail)
      all_goals skip
      exact alA rfl rfl he (fun u w5 e5 hu => by obtain rfl : u = _ := hu; exact OwnI.ext (xs := xs ++ ys) ho e5)
end Go.Proofs.YtfcioiobhpcngaaGreatDoor
end
section
set_option linter.unusedSimpArgs false
set_option linter.unusedVariables false
set_option maxRecDepth 3000
namespace Go.Proofs.YtfcioiobhpcngaaGreatDoor
open Go.LA Go.ArrP Go.RowKit
variable {A B : Nat → Prop}
theorem getD_drop {xs : List Int} {k i : Nat} : (xs.drop k).getD i 0 = xs.getD (k + i) 0 := by
  rw [List.getD_eq_getElem?_getD, List.getD_eq_getElem?_getD, List.getElem?_drop]
theorem knA {xs : List Int} {k : Nat} (h : k < xs.length) : xs.take (k + 1) = xs.take k ++ [xs.getD k 0] := by
  rw [List.getD_eq_getElem?_getD, List.getElem?_eq_getElem h, List.take_add_one, List.getElem?_eq_getElem h]; rfl
structure MidD (xs ys : List Int) (k j : Nat) : Prop where
  len : ys.length = xs.length
  lo : 0 < k
  le : k < j
  hi : j ≤ xs.length
  pre : ys.take k = ddN xs j
  rest : ∀ i, j ≤ i + 1 → ys.getD i 0 = xs.getD i 0
theorem MidD.skip {xs ys : List Int} {k j : Nat} (h : MidD xs ys k j) (hj : j < xs.length) (he : xs.getD j 0 = xs.getD (j - 1) 0) : MidD xs ys k (j + 1) :=
  ⟨h.len, h.lo, by have := h.le; omega, hj, by rw [koA (by have := h.le; omega) he]; exact h.pre, fun i hi => h.rest i (by omega)⟩
theorem MidD.put {xs ys : List Int} {k j : Nat} (h : MidD xs ys k j) (hj : j < xs.length) (he : xs.getD j 0 ≠ xs.getD (j - 1) 0) : MidD xs (ys.set k (xs.getD j 0)) (k + 1) (j + 1) := by
  have h1 := h.le
  have h2 := h.len
  refine ⟨by rw [List.length_set]; exact h.len, by omega, by omega, hj, ?_, fun i hi => ?_⟩
  · rw [kpA he, ← h.pre, knA (by rw [List.length_set]; omega), List.take_set_of_le (Nat.le_refl _)]
    congr 2
    rw [List.getD_eq_getElem?_getD, List.getElem?_set_self (by omega)]; rfl
  · rw [List.getD_eq_getElem?_getD, List.getElem?_set_ne (by omega), ← List.getD_eq_getElem?_getD]
    exact h.rest i (by omega)
set_option maxHeartbeats 1000000 in
theorem otA {w0 w : World} {v : Value} {xs : List Int} (he0 : Ext w0 w) (ho0 : OwnI w0.heap.size tK .u16 w v xs) (hx : xs.length ≤ 1000000) :
    Fc Tryz.prog 106 #[v] w (fun en w' => ∃ v', en = .returned v' ∧ Ext w0 w' ∧ OwnI w0.heap.size tK .u16 w' v' (ddN xs xs.length)) := by
  by_cases hlt : xs.length < 2
  · have hd : ddN xs xs.length = xs := by
      rcases xs with _ | ⟨a, _ | ⟨b, r⟩⟩
      · rfl
      · rfl
      · simp at hlt; omega
    rw [hd]
    refine Fc.of (args := [_]) Tryz.func106 rfl rfl Tryz.ntmps106 (Nat.le_of_ble_eq_true rfl) ?_
    repeat' (first|(refine oLA ?_;first|refine a0A rfl ?_|(refine cyA ?_; refine bmA rfl _ rfl rfl (HasI.ownV ho0).c ?_)|refine wOp ?_|(refine wCm ?_ ?_<;>intro hc)|(refine wNl hK ?_;clear hK K))|refine wG ?_|(refine wCR ?_;intro K hK)|fail)
    all_goals skip
    exact blA rfl (fun u w5 e5 hu => by obtain rfl : u = _ := hu; exact ⟨_, rfl, he0.trans e5, ho0.ext e5⟩)
  · obtain ⟨b, cap, cur, rfl, hb, hg, hnc, hm, hsz, ht⟩ := ho0.row (by omega)
    refine Fc.of (args := [_]) Tryz.func106 rfl rfl Tryz.ntmps106 (Nat.le_of_ble_eq_true rfl) ?_
    repeat' (first|(refine oLA ?_;first|refine a0A rfl ?_|(refine cyA ?_; refine bmA rfl _ rfl rfl (HasI.ownV ho0).c ?_)|refine wOp ?_|(refine wCm ?_ ?_<;>intro hc)|(refine wNl hK ?_;clear hK K))|refine wG ?_|(refine wCR ?_;intro K hK)|fail)
    refine b8A (ι := Nat) (fun k => [(0, .val (.slice (some ⟨b, 0, none⟩) xs.length cap)), (3, .val (.int .i64 k))]) (fun k => 1 ≤ k ∧ k ≤ xs.length ∧ ddN xs k = xs.take k) (fun k => xs.length - k) 1 ⟨Nat.le_refl _, by omega, by rw [osA, knA (by omega)]; rfl⟩ (by repeat' (first | exact Sub.nil | refine Sub.val rfl (by first | with_reducible rfl | (congr 1; omega)) ?_ | refine Sub.same rfl ?_)) ?_
    rintro k ⟨hk1, hk2, hkd⟩
    by_cases hkl : k < xs.length
    · by_cases heq : xs.getD k 0 = xs.getD (k - 1) 0
      · skip
        repeat' (first|(refine oLA ?_;first|refine a0A rfl ?_|(refine cyA ?_; refine bmA rfl _ rfl rfl (HasI.ownV ho0).c ?_)|(refine oD 18 ?_; refine asA rfl _ rfl (fun _ => rfl) rfl (HasI.ownV ho0) rfl hkl ?_)|(refine oD 22 ?_; refine a9A rfl rfl rfl (by dsimp only [fits]; omega) ?_; rw [show ((k : Int) - 1) = ((k - 1 : Nat) : Int) by omega])|(refine oD 23 ?_; refine asA rfl _ rfl (fun _ => rfl) rfl (HasI.ownV ho0) rfl (by omega) ?_; rw [← heq])|(refine oD 28 ?_; refine cdA rfl _ rfl rfl (HasC.ownV ho0) rfl (by omega) (by omega) (by exact fun _ => rfl) ?_; rw [Int.toNat_natCast, e8A (show k < cap by omega)])|refine wOp ?_|(refine wCm ?_ ?_<;>intro hc)|(refine wNl hK ?_;clear hK K))|refine wG ?_|(refine wCR ?_;intro K hK)|fail)
        all_goals skip
        have hm0 : MidD xs xs k (k + 1) := ⟨rfl, hk1, Nat.lt_succ_self k, hkl, by rw [koA hk1 heq]; exact hkd.symm, fun _ _ => rfl⟩
        refine ahA (ι := Nat × Nat × List Int) (fun i => [(0, .val (.slice (some ⟨b, 0, none⟩) xs.length cap)), (3, .val (.int .i64 i.1)), (4, .val (.slice (some ⟨b, k * 1, none⟩) (xs.length - k) (cap - k))), (5, .val (.int .i64 i.2.1))]) (fun i w' => Ext w0 w' ∧ 1 ≤ i.2.1 ∧ MidD xs i.2.2 i.1 (k + i.2.1) ∧ OwnI w0.heap.size tK .u16 w' (.slice (some ⟨b, 0, none⟩) xs.length cap) i.2.2) (fun i => xs.length - i.2.1)
          (fun w2 e2 => ⟨(k, 1, xs), ⟨he0.trans e2, Nat.le_refl _, hm0, ho0.ext e2⟩, (by repeat' (first | exact Sub.nil | refine Sub.val rfl (by first | with_reducible rfl | (congr 1; omega)) ?_ | refine Sub.same rfl ?_))⟩) ?_
        rintro ⟨k', k2, ys⟩ w1 ⟨he, h1, hM, ho⟩
        dsimp only at h1 hM ho ⊢
        have hyl := hM.len
        have hle := hM.le
        have hhi := hM.hi
        have hs4 : SlI .u16 w1 (.slice (some ⟨b, k * 1, none⟩) (xs.length - k) (cap - k)) (ys.drop k) := by
          have := SlI.drop ho.slI (l := k) (by omega)
          rwa [e8A (show k < cap by omega), hyl] at this
        have hdl : (ys.drop k).length = xs.length - k := by rw [List.length_drop, hyl]
        by_cases h2 : k2 < xs.length - k
        · have g1 : (ys.drop k).getD k2 0 = xs.getD (k + k2) 0 := by rw [getD_drop]; exact hM.rest _ (by omega)
          have g2 : (ys.drop k).getD (k2 - 1) 0 = xs.getD (k + k2 - 1) 0 := by
            rw [getD_drop, show k + (k2 - 1) = k + k2 - 1 by omega]; exact hM.rest _ (by omega)
          by_cases he2 : xs.getD (k + k2) 0 = xs.getD (k + k2 - 1) 0
          · skip
            repeat' (first|(refine oLA ?_;first|refine a0A rfl ?_|(refine cyA ?_; refine bmA rfl _ rfl rfl (HasI.val hs4).c ?_; rw [hdl])|(refine oD 37 ?_; refine asA rfl _ rfl (fun _ => rfl) rfl (HasI.val hs4) rfl (by omega) ?_; rw [g1])|(refine oD 41 ?_; refine a9A rfl rfl rfl (by dsimp only [fits]; omega) ?_; rw [show ((k2 : Int) - 1) = ((k2 - 1 : Nat) : Int) by omega])|(refine oD 42 ?_; refine asA rfl _ rfl (fun _ => rfl) rfl (HasI.val hs4) rfl (by omega) ?_; rw [g2, ← he2])|refine wOp ?_|(refine wCm ?_ ?_<;>intro hc)|(refine wNl hK ?_;clear hK K))|refine wG ?_|(refine wCR ?_;intro K hK)|fail)
            all_goals skip
            exact a7A (k', k2 + 1, ys) (fun w5 e5 => ⟨he.trans e5, by dsimp only; omega, hM.skip (by omega) he2, ho.ext e5⟩) (by dsimp only; omega) (by repeat' (first | exact Sub.nil | refine Sub.val rfl (by first | with_reducible rfl | (congr 1; omega)) ?_ | refine Sub.same rfl ?_))
          · obtain ⟨b', cap', cur', hv', hb', hg', hnc', hm', hsz', ht'⟩ := ho.row (by omega)
            injection hv' with h5 h6 h7
            injection h5 with h5
            injection h5 with h5
            subst h5; subst h7
            have hlk : k' < ys.length := by omega
            repeat' (first|(refine oLA ?_;first|refine a0A rfl ?_|(refine cyA ?_; refine bmA rfl _ rfl rfl (HasI.val hs4).c ?_; rw [hdl])|(refine oD 37 ?_; refine asA rfl _ rfl (fun _ => rfl) rfl (HasI.val hs4) rfl (by omega) ?_; rw [g1])|(refine oD 41 ?_; refine a9A rfl rfl rfl (by dsimp only [fits]; omega) ?_; rw [show ((k2 : Int) - 1) = ((k2 - 1 : Nat) : Int) by omega])|(refine oD 42 ?_; refine asA rfl _ rfl (fun _ => rfl) rfl (HasI.val hs4) rfl (by omega) ?_; rw [g2])|(refine oD 44 ?_; refine kzA rfl rfl rfl rfl he2 ?_)|(refine oD 49 ?_; refine asA rfl _ rfl (fun _ => rfl) rfl (HasI.val hs4) rfl (by omega) ?_; rw [g1])|(refine oD 51 ?_; refine cuA (s := 1) rfl rfl (fun _ => rfl) rfl rfl (by omega) (by omega) ?_; rw [Int.toNat_natCast, Nat.zero_add, Nat.mul_one])|(refine oSt ?_; refine a4A (hK _ _ (deA rfl rfl rfl hg' (fun _ => rfl) (by omega) rfl rfl (fun w7 e7 => ?_))); clear hK K)|refine wOp ?_|(refine wCm ?_ ?_<;>intro hc)|(refine wNl hK ?_;clear hK K))|refine wG ?_|(refine wCR ?_;intro K hK)|fail)
            all_goals skip
            have hset := OwnI.set hb' (e7.block hg') hnc' hm' hsz' ht' k' hlk (xs.getD (k + k2) 0)
            rw [hyl] at hset
            have x7 := (he.trans e7).setRow hb' (cur'.setIfInBounds k' (.int .u16 (xs.getD (k + k2) 0)))
            exact a7A (k' + 1, k2 + 1, ys.set k' (xs.getD (k + k2) 0)) (fun w5 e5 => ⟨x7.trans e5, by dsimp only; omega, hM.put (by omega) he2, hset.ext e5⟩) (by dsimp only; omega) (by repeat' (first | exact Sub.nil | refine Sub.val rfl (by first | with_reducible rfl | (congr 1; omega)) ?_ | refine Sub.same rfl ?_))
        · obtain ⟨b', cap', cur', hv', hb', hg', hnc', hm', hsz', ht'⟩ := ho.row (by omega)
          injection hv' with h5 h6 h7
          injection h5 with h5
          injection h5 with h5
          subst h5; subst h7
          have hkc : k' < cap := by omega
          repeat' (first|(refine oLA ?_;first|refine a0A rfl ?_|(refine cyA ?_; refine bmA rfl _ rfl rfl (HasI.val hs4).c ?_; rw [hdl])|(refine oD 56 ?_; refine cdA (s := 1) rfl _ rfl rfl (HasC.ownV ho) rfl (by omega) (by omega) (by exact fun _ => rfl) ?_; rw [Int.toNat_natCast, hyl, e8A hkc])|(refine a4A (hK _ _ (mdA rfl rfl (fun _ => rfl) rfl rfl rfl hg' (by omega) (fun w7 cur2 e7 hs2 ht2 => ?_))); clear hK K)|(refine oD 59 ?_; refine eyA (s := 1) rfl _ rfl rfl rfl (by omega) (by omega) (by omega) (fun _ => rfl) ?_; rw [Int.toNat_natCast])|refine wOp ?_|(refine wCm ?_ ?_<;>intro hc)|(refine wNl hK ?_;clear hK K))|refine wG ?_|(refine wCR ?_;intro K hK)|fail)
          all_goals skip
          have hown : OwnI w0.heap.size tK .u16 (w7.setRow b cur2) (.slice (some ⟨b, 0, none⟩) k' cap) (ys.take k') := by
            have hl : (ys.take k').length = k' := by rw [List.length_take]; omega
            refine ⟨by rw [List.length_map, hl, Nat.mul_one], .inr ⟨b, cap, cur2, by rw [hl], hb', setRow_heap w7 b cur' _ tK _ (e7.block hg'), by rw [hl]; omega, hm', by rw [hs2]; omega, ?_⟩⟩
            rw [hl, Nat.mul_one, List.map_take, ← ht', List.take_take, Nat.min_eq_left (by omega)]
            rwa [Nat.mul_one] at ht2
          rw [hM.pre, show k + k2 = xs.length by omega] at hown
          exact blA rfl (fun u w5 e5 hu => by obtain rfl : u = _ := hu; exact ⟨_, rfl, ((he.trans e7).setRow hb' cur2).trans e5, hown.ext e5⟩)
      · skip
        repeat' (first|(refine oLA ?_;first|refine a0A rfl ?_|(refine cyA ?_; refine bmA rfl _ rfl rfl (HasI.ownV ho0).c ?_)|(refine oD 18 ?_; refine asA rfl _ rfl (fun _ => rfl) rfl (HasI.ownV ho0) rfl hkl ?_)|(refine oD 22 ?_; refine a9A rfl rfl rfl (by dsimp only [fits]; omega) ?_; rw [show ((k : Int) - 1) = ((k - 1 : Nat) : Int) by omega])|(refine oD 23 ?_; refine asA rfl _ rfl (fun _ => rfl) rfl (HasI.ownV ho0) rfl (by omega) ?_)|(refine oD 25 ?_; refine g4A rfl rfl rfl rfl heq ?_)|refine wOp ?_|(refine wCm ?_ ?_<;>intro hc)|(refine wNl hK ?_;clear hK K))|refine wG ?_|(refine wCR ?_;intro K hK)|fail)
        all_goals skip
        exact bpA (k + 1) ⟨by omega, hkl, by rw [kpA heq, hkd, knA hkl]⟩ (by omega) (by repeat' (first | exact Sub.nil | refine Sub.val rfl (by first | with_reducible rfl | (congr 1; omega)) ?_ | refine Sub.same rfl ?_))
    · obtain rfl : k = xs.length := by omega
      repeat' (first|(refine oLA ?_;first|refine a0A rfl ?_|(refine cyA ?_; refine bmA rfl _ rfl rfl (HasI.ownV ho0).c ?_)|refine wOp ?_|(refine wCm ?_ ?_<;>intro hc)|(refine wNl hK ?_;clear hK K))|refine wG ?_|(refine wCR ?_;intro K hK)|fail)
      all_goals skip
      exact blA rfl (fun u w5 e5 hu => by obtain rfl : u = _ := hu; exact ⟨_, rfl, he0.trans e5, by rw [hkd, List.take_length]; exact ho0.ext e5⟩)
end Go.Proofs.YtfcioiobhpcngaaGreatDoor
end
section
set_option linter.unusedSimpArgs false
set_option linter.unusedVariables false
set_option maxRecDepth 3000
namespace Go.Proofs.YtfcioiobhpcngaaGreatDoor
namespace Srt
open Go.LA Go.ArrP Go.RowKit
theorem ulA (w : World) (a : Int) : Fc Tryz.prog 199 #[.int .u16 a] w (Ret w (.val (.bool false))) := by
  refine Fc.of (args := [_]) Tryz.func199 rfl rfl Tryz.ntmps199 (Nat.le_of_ble_eq_true rfl) ?_
  repeat' (first|(refine oLA ?_;first|refine a0A rfl ?_|refine wOp ?_|(refine wCm ?_ ?_<;>intro hc)|(refine wNl hK ?_;clear hK K))|refine wG ?_|(refine wCR ?_;intro K hK)|fail)
  exact abA rfl rfl (Ext.refl _) rfl
theorem avA (w : World) (a b : Int) : Fc Tryz.prog 177 #[.int .u16 a, .int .u16 b] w (Ret w (.val (.bool (Go.Sort.ltInt a b)))) := by
  refine Fc.of (args := [_, _]) Tryz.func177 rfl rfl Tryz.ntmps177 (Nat.le_of_ble_eq_true rfl) ?_
  repeat' (first|(refine oLA ?_;first|refine a0A rfl ?_|refine wOp ?_|(refine wCm ?_ ?_<;>intro hc)|(refine oCv ?_;first|(refine oC 199 ?_; refine a1A (f := 199) rfl rfl rfl  (.val (.bool false)) (by intro u1 w e hu1; (try obtain rfl : u1 = _ := hu1); exact ulA _ _) ?_))|(refine wNl hK ?_;clear hK K))|refine wG ?_|(refine wCR ?_;intro K hK)|fail)
  all_goals (refine abA rfl rfl (Ext.refl _) ?_; unfold Go.Sort.ltInt; simp [hc])
abbrev cpA (w0 w : World) (b cap n : Nat) (D : Array Int) : Prop := OwnI w0.heap.size 72 .u16 w (.slice (some ⟨b, 0, none⟩) n cap) D.toList
def s1A (w0 : World) (b cap n : Nat) (D : Array Int) : Ending → World → Prop := fun e w' => e = .returned (.tuple #[]) ∧ Ext w0 w' ∧ cpA w0 w' b cap n D
set_option maxHeartbeats 4000000 in
theorem v0A {w0 w : World} {b cap n : Nat} {D : Array Int} (he0 : Ext w0 w) (ho0 : cpA w0 w b cap n D) (hn : n = D.size) (lo hi : Nat) (h1 : lo ≤ hi) (h2 : hi ≤ D.size) (hb : D.size < 4611686018427387904) :
    Fc Tryz.prog 184 #[.slice (some ⟨b, 0, none⟩) n cap, .int .i64 lo, .int .i64 hi] w (s1A w0 b cap n (Go.Sort.insertionSort Go.Sort.ltInt D lo hi)) := by
  refine Fc.of (args := [_, _, _]) Tryz.func184 rfl rfl Tryz.ntmps184 (Nat.le_of_ble_eq_true rfl) ?_
  repeat' (first|(refine oLA ?_;first|refine a0A rfl ?_|refine wOp ?_|(refine wCm ?_ ?_<;>intro hc)|(refine wNl hK ?_;clear hK K))|refine wG ?_|(refine wCR ?_;intro K hK)|fail)
  refine ahA (ι := Nat × Array Int) (fun i => [(0, .val (.slice (some ⟨b, 0, none⟩) n cap)), (1, .val (.int .i64 lo)), (2, .val (.int .i64 hi)), (6, .val (.int .i64 (i.1 : Int)))])
    (fun i w' => Ext w0 w' ∧ lo + 1 ≤ i.1 ∧ i.1 ≤ hi + 1 ∧ i.2.size = D.size ∧ cpA w0 w' b cap n i.2 ∧ Go.Sort.insOuter Go.Sort.ltInt lo hi i.1 i.2 = Go.Sort.insertionSort Go.Sort.ltInt D lo hi) (fun i => hi + 1 - i.1)
    (fun w2 e2 => ⟨(lo + 1, D), ⟨he0.trans e2, Nat.le_refl _, by dsimp only; omega, rfl, ho0.ext e2, rfl⟩, (by repeat' (first | exact Sub.nil | refine Sub.val rfl (by first | with_reducible rfl | (congr 1; omega)) ?_ | refine Sub.same rfl ?_))⟩) ?_
  rintro ⟨i, D1⟩ w1 ⟨he1, hi1, hi2, hs1, ho1, hr1⟩
  dsimp only at hi1 hi2 hs1 ho1 hr1 ⊢
  by_cases hlt : i < hi
  · rw [Go.Sort.insOuter, if_pos hlt] at hr1
    repeat' (first|(refine oLA ?_;first|refine a0A rfl ?_|refine wOp ?_|(refine wCm ?_ ?_<;>intro hc)|(refine wNl hK ?_;clear hK K))|refine wG ?_|(refine wCR ?_;intro K hK)|fail)
    refine ahA (ι := Nat × Array Int) (fun j => [(0, .val (.slice (some ⟨b, 0, none⟩) n cap)), (1, .val (.int .i64 lo)), (2, .val (.int .i64 hi)), (6, .val (.int .i64 (i : Int))), (7, .val (.int .i64 (j.1 : Int)))])
      (fun j w' => Ext w0 w' ∧ j.1 ≤ i ∧ j.2.size = D.size ∧ cpA w0 w' b cap n j.2 ∧ Go.Sort.insOuter Go.Sort.ltInt lo hi (i + 1) (Go.Sort.insInner Go.Sort.ltInt lo j.1 j.2) = Go.Sort.insertionSort Go.Sort.ltInt D lo hi) (fun j => j.1)
      (fun w2 e2 => ⟨(i, D1), ⟨he1.trans e2, Nat.le_refl _, hs1, ho1.ext e2, hr1⟩, (by repeat' (first | exact Sub.nil | refine Sub.val rfl (by first | with_reducible rfl | (congr 1; omega)) ?_ | refine Sub.same rfl ?_))⟩) ?_
    rintro ⟨j, D2⟩ w2 ⟨he2, hj1, hs2, ho2, hr2⟩
    dsimp only at hj1 hs2 ho2 hr2 ⊢
    have hl2 := apA D2
    cases j with
    | zero =>
      repeat' (first|(refine oLA ?_;first|refine a0A rfl ?_|refine wOp ?_|(refine wCm ?_ ?_<;>intro hc)|(refine wNl hK ?_;clear hK K))|refine wG ?_|(refine wCR ?_;intro K hK)|fail)
      exact a7A (i + 1, D2) (fun w5 e5 => ⟨he2.trans e5, by dsimp only; omega, by dsimp only; omega, hs2, ho2.ext e5, hr2⟩) (by dsimp only; omega) (by repeat' (first | exact Sub.nil | refine Sub.val rfl (by first | with_reducible rfl | (congr 1; omega)) ?_ | refine Sub.same rfl ?_))
    | succ j =>
      by_cases hjl : lo < j + 1
      · cases hl : Go.Sort.ltInt D2[j + 1]! D2[j]!
        · have hr3 : Go.Sort.insInner Go.Sort.ltInt lo (j + 1) D2 = D2 := by rw [Go.Sort.insInner, hl]; simp
          rw [hr3] at hr2
          repeat' (first|(refine oLA ?_;first|refine a0A rfl ?_|(refine oI ?_; refine a6A rfl rfl (fun _ => rfl) rfl rfl _ rfl (by omega) ?_)|(refine oL ?_; refine aeA ho2 rfl (fun _ => rfl) rfl (by omega) ?_; rw [cbA])|(refine oD 27 ?_; refine a6A rfl rfl (fun _ => rfl) rfl rfl j (by omega) (by omega) ?_)|refine wOp ?_|(refine wCm ?_ ?_<;>intro hc)|(refine oCv ?_;first|(refine oC 177 ?_; refine a3A (f := 177) rfl rfl rfl rfl  (.val (.bool false)) (by intro u1 u2 w e hu1 hu2; (try obtain rfl : u1 = _ := hu1); (try obtain rfl : u2 = _ := hu2); exact agA (by rw [hl]) (avA _ _ _)) ?_))|(refine wNl hK ?_;clear hK K))|refine wG ?_|(refine wCR ?_;intro K hK)|fail)
          exact a7A (i + 1, D2) (fun w5 e5 => ⟨he2.trans e5, by dsimp only; omega, by dsimp only; omega, hs2, ho2.ext e5, hr2⟩) (by dsimp only; omega) (by repeat' (first | exact Sub.nil | refine Sub.val rfl (by first | with_reducible rfl | (congr 1; omega)) ?_ | refine Sub.same rfl ?_))
        · have hr3 : Go.Sort.insInner Go.Sort.ltInt lo (j + 1) D2 = Go.Sort.insInner Go.Sort.ltInt lo j (Go.Sort.swp D2 (j + 1) j) := by rw [Go.Sort.insInner, hl]; simp [hjl]
          rw [hr3] at hr2
          repeat' (first|(refine oLA ?_;first|refine wBk ?_|(refine oI ?_; refine a6A rfl rfl (fun _ => rfl) rfl rfl _ rfl (by omega) ?_)|(refine oL ?_; refine aeA ho2 rfl (fun _ => rfl) rfl (by omega) ?_; rw [cbA])|(refine oD 27 ?_; refine a6A rfl rfl (fun _ => rfl) rfl rfl j (by omega) (by omega) ?_)|(refine oD 41 ?_; refine a6A rfl rfl (fun _ => rfl) rfl rfl j (by omega) (by omega) ?_)|refine wOp ?_|(refine wCm ?_ ?_<;>intro hc)|(refine oCv ?_;first|(refine oC 177 ?_; refine a3A (f := 177) rfl rfl rfl rfl  (.val (.bool true)) (by intro u1 u2 w e hu1 hu2; (try obtain rfl : u1 = _ := hu1); (try obtain rfl : u2 = _ := hu2); exact agA (by rw [hl]) (avA _ _ _)) ?_))|(refine wNl hK ?_;clear hK K))|(refine oCX ?_;first|refine ajA (id := 6) [15, 17] (by kernel_rfl) (by kernel_rfl) (by kernel_rfl) (a5A ?_))|refine wG ?_|(refine wCR ?_;intro K hK)|refine wPh ?_|fail)
          refine afA (j := j + 1) rfl he2 ho2 rfl rfl (by omega) (fun _ => rfl) (fun wS1 heS1 hoS1 => ?_)
          refine a5A ?_
          repeat' (first|(refine oLA ?_;first|refine wBk ?_|(refine oD 48 ?_; refine a6A rfl rfl (fun _ => rfl) rfl rfl (j) (by omega) (by omega) ?_)|refine wOp ?_|(refine wCm ?_ ?_<;>intro hc)|(refine wNl hK ?_;clear hK K))|refine wG ?_|(refine wCR ?_;intro K hK)|refine wPh ?_|fail)
          refine afA (j := j) rfl heS1 hoS1 rfl rfl (by rw [List.length_set]; omega) (fun _ => rfl) (fun wS heS hoS => ?_)
          rw [atA] at hoS
          refine aiA ?_
          repeat' (first|(refine oLA ?_;first|refine wBk ?_|refine wOp ?_|(refine wCm ?_ ?_<;>intro hc)|(refine wNl hK ?_;clear hK K))|refine wG ?_|(refine wCR ?_;intro K hK)|refine wPh ?_|fail)
          exact a7A (j, Go.Sort.swp D2 (j + 1) j) (fun w5 e5 => ⟨heS.trans e5, by dsimp only; omega, by dsimp only; rw [swp_size]; exact hs2, hoS.ext e5, hr2⟩) (by dsimp only; omega) (by repeat' (first | exact Sub.nil | refine Sub.val rfl (by first | with_reducible rfl | (congr 1; omega)) ?_ | refine Sub.same rfl ?_))
      · have hr3 : Go.Sort.insInner Go.Sort.ltInt lo (j + 1) D2 = D2 := by rw [Go.Sort.insInner]; simp [hjl]
        rw [hr3] at hr2
        repeat' (first|(refine oLA ?_;first|refine a0A rfl ?_|refine wOp ?_|(refine wCm ?_ ?_<;>intro hc)|(refine wNl hK ?_;clear hK K))|refine wG ?_|(refine wCR ?_;intro K hK)|fail)
        exact a7A (i + 1, D2) (fun w5 e5 => ⟨he2.trans e5, by dsimp only; omega, by dsimp only; omega, hs2, ho2.ext e5, hr2⟩) (by dsimp only; omega) (by repeat' (first | exact Sub.nil | refine Sub.val rfl (by first | with_reducible rfl | (congr 1; omega)) ?_ | refine Sub.same rfl ?_))
  · rw [Go.Sort.insOuter, if_neg hlt] at hr1
    repeat' (first|(refine oLA ?_;first|refine a0A rfl ?_|refine wOp ?_|(refine wCm ?_ ?_<;>intro hc)|(refine wNl hK ?_;clear hK K))|refine wG ?_|(refine wCR ?_;intro K hK)|fail)
    refine b2A rfl (fun w5 e5 => ⟨rfl, he1.trans e5, hr1 ▸ ho1.ext e5⟩) (.inl rfl)
end Srt
end Go.Proofs.YtfcioiobhpcngaaGreatDoor
end
section
set_option linter.unusedSimpArgs false
set_option linter.unusedVariables false
set_option maxRecDepth 3000
namespace Go.Proofs.YtfcioiobhpcngaaGreatDoor
namespace Srt
open Go.LA Go.ArrP Go.RowKit
set_option maxHeartbeats 8000000 in
theorem l9A {w0 w : World} {b cap n : Nat} {D : Array Int} (he0 : Ext w0 w) (ho0 : cpA w0 w b cap n D) (hn : n = D.size) (lo hi first : Nat) (h1 : lo ≤ hi) (h2 : first + hi ≤ D.size) (hb : D.size < 4611686018427387904) :
    Fc Tryz.prog 202 #[.slice (some ⟨b, 0, none⟩) n cap, .int .i64 lo, .int .i64 hi, .int .i64 first] w (s1A w0 b cap n (Go.Sort.siftDown Go.Sort.ltInt hi first lo D)) := by
  refine Fc.of (args := [_, _, _, _]) Tryz.func202 rfl rfl Tryz.ntmps202 (Nat.le_of_ble_eq_true rfl) ?_
  repeat' (first|(refine oLA ?_;first|refine a0A rfl ?_|refine wOp ?_|(refine wCm ?_ ?_<;>intro hc)|(refine wNl hK ?_;clear hK K))|refine wG ?_|(refine wCR ?_;intro K hK)|fail)
  refine ahA (ι := Nat × Array Int) (fun i => [(0, .val (.slice (some ⟨b, 0, none⟩) n cap)), (2, .val (.int .i64 hi)), (3, .val (.int .i64 first)), (8, .val (.int .i64 (i.1 : Int)))])
    (fun i w' => Ext w0 w' ∧ i.1 ≤ hi ∧ i.2.size = D.size ∧ cpA w0 w' b cap n i.2 ∧ Go.Sort.siftDown Go.Sort.ltInt hi first i.1 i.2 = Go.Sort.siftDown Go.Sort.ltInt hi first lo D) (fun i => hi - i.1)
    (fun w2 e2 => ⟨(lo, D), ⟨he0.trans e2, h1, rfl, ho0.ext e2, rfl⟩, (by repeat' (first | exact Sub.nil | refine Sub.val rfl (by first | with_reducible rfl | (congr 1; omega)) ?_ | refine Sub.same rfl ?_))⟩) ?_
  rintro ⟨r, D1⟩ w1 ⟨he1, hr0, hs1, ho1, hr1⟩
  dsimp only at hr0 hs1 ho1 hr1 ⊢
  have hl1 := apA D1
  by_cases hlt : 2 * r + 1 ≥ hi
  · have hst : Go.Sort.siftDown Go.Sort.ltInt hi first r D1 = D1 := by rw [Go.Sort.siftDown, dif_pos hlt]
    rw [hst] at hr1
    repeat' (first|(refine oLA ?_;first|refine a0A rfl ?_|refine wOp ?_|(refine wCm ?_ ?_<;>intro hc)|(refine wNl hK ?_;clear hK K))|refine wG ?_|(refine wCR ?_;intro K hK)|fail)
    exact b2A rfl (fun w5 e5 => ⟨rfl, he1.trans e5, hr1 ▸ ho1.ext e5⟩) (.inl rfl)
  · by_cases h22 : 2 * r + 1 + 1 < hi
    · cases hll : Go.Sort.ltInt D1[first + (2 * r + 1)]! D1[first + (2 * r + 1) + 1]!
      · have q0 : True := trivial
        have hgo := sift_go (lt := Go.Sort.ltInt) (hi := hi) (first := first) (d := D1) (r := r) (c := 2 * r + 1) (by omega) (by rw [hll]; simp)
        cases hl : Go.Sort.ltInt D1[first + r]! D1[first + (2 * r + 1)]!
        · rw [hl] at hgo
          simp only [Bool.false_eq_true, if_false] at hgo
          rw [hgo] at hr1
          repeat' (first|(refine oLA ?_;first|refine a0A rfl ?_|(refine oD 35 ?_; refine oC 177 ?_; refine a3A (f := 177) rfl rfl rfl rfl  (.val (.bool false)) (by intro u1 u2 w e hu1 hu2; (try obtain rfl : u1 = _ := hu1); (try obtain rfl : u2 = _ := hu2); exact agA (by rw [hll]) (avA _ _ _)) ?_)|(refine oD 26 ?_; refine a6A rfl rfl (fun _ => rfl) rfl rfl (first + (2 * r + 1)) (by omega) (by omega) ?_)|(refine oD 33 ?_; refine a6A rfl rfl (fun _ => rfl) rfl rfl (first + (2 * r + 1) + 1) (by omega) (by omega) ?_)|(refine oD 43 ?_; refine a6A rfl rfl (fun _ => rfl) rfl rfl (first + r) (by omega) (by omega) ?_)|(refine oD 49 ?_; refine a6A rfl rfl (fun _ => rfl) rfl rfl (first + (2 * r + 1)) (by omega) (by omega) ?_)|(refine oL ?_; refine aeA ho1 rfl (fun _ => rfl) rfl (by omega) ?_; rw [cbA])|(refine oD 51 ?_; refine oC 177 ?_; refine a3A (f := 177) rfl rfl rfl rfl  (.val (.bool false)) (by intro u1 u2 w e hu1 hu2; (try obtain rfl : u1 = _ := hu1); (try obtain rfl : u2 = _ := hu2); exact agA (by rw [hl]) (avA _ _ _)) ?_)|refine wOp ?_|(refine wCm ?_ ?_<;>intro hc)|(refine wNl hK ?_;clear hK K))|refine wG ?_|(refine wCR ?_;intro K hK)|fail)
          exact b2A rfl (fun w5 e5 => ⟨rfl, he1.trans e5, hr1 ▸ ho1.ext e5⟩) (.inr rfl)
        · rw [hl] at hgo
          simp only [if_true] at hgo
          rw [hgo] at hr1
          repeat' (first|(refine oLA ?_;first|refine wBk ?_|(refine oD 35 ?_; refine oC 177 ?_; refine a3A (f := 177) rfl rfl rfl rfl  (.val (.bool false)) (by intro u1 u2 w e hu1 hu2; (try obtain rfl : u1 = _ := hu1); (try obtain rfl : u2 = _ := hu2); exact agA (by rw [hll]) (avA _ _ _)) ?_)|(refine oD 26 ?_; refine a6A rfl rfl (fun _ => rfl) rfl rfl (first + (2 * r + 1)) (by omega) (by omega) ?_)|(refine oD 33 ?_; refine a6A rfl rfl (fun _ => rfl) rfl rfl (first + (2 * r + 1) + 1) (by omega) (by omega) ?_)|(refine oD 43 ?_; refine a6A rfl rfl (fun _ => rfl) rfl rfl (first + r) (by omega) (by omega) ?_)|(refine oD 49 ?_; refine a6A rfl rfl (fun _ => rfl) rfl rfl (first + (2 * r + 1)) (by omega) (by omega) ?_)|(refine oD 65 ?_; refine a6A rfl rfl (fun _ => rfl) rfl rfl (first + (2 * r + 1)) (by omega) (by omega) ?_)|(refine oD 71 ?_; refine a6A rfl rfl (fun _ => rfl) rfl rfl (first + r) (by omega) (by omega) ?_)|(refine oD 73 ?_; refine a6A rfl rfl (fun _ => rfl) rfl rfl (first + r) (by omega) (by omega) ?_)|(refine oL ?_; refine aeA ho1 rfl (fun _ => rfl) rfl (by omega) ?_; rw [cbA])|(refine oD 51 ?_; refine oC 177 ?_; refine a3A (f := 177) rfl rfl rfl rfl  (.val (.bool true)) (by intro u1 u2 w e hu1 hu2; (try obtain rfl : u1 = _ := hu1); (try obtain rfl : u2 = _ := hu2); exact agA (by rw [hl]) (avA _ _ _)) ?_)|refine wOp ?_|(refine wCm ?_ ?_<;>intro hc)|(refine wNl hK ?_;clear hK K))|(refine oCX ?_;first|refine ajA (id := 6) [21, 23] (by kernel_rfl) (by kernel_rfl) (by kernel_rfl) (a5A ?_))|refine wG ?_|(refine wCR ?_;intro K hK)|refine wPh ?_|fail)
          refine afA (j := first + r) rfl he1 ho1 rfl rfl (by omega) (fun _ => rfl) (fun wS1 heS1 hoS1 => ?_)
          refine a5A ?_
          repeat' (first|(refine oLA ?_;first|refine wBk ?_|(refine oD 74 ?_; refine a6A rfl rfl (fun _ => rfl) rfl rfl (first + (2 * r + 1)) (by omega) (by omega) ?_)|refine wOp ?_|(refine wCm ?_ ?_<;>intro hc)|(refine wNl hK ?_;clear hK K))|refine wG ?_|(refine wCR ?_;intro K hK)|refine wPh ?_|fail)
          refine afA (j := first + (2 * r + 1)) rfl heS1 hoS1 rfl rfl (by rw [List.length_set]; omega) (fun _ => rfl) (fun wS heS hoS => ?_)
          rw [atA] at hoS
          refine aiA ?_
          repeat' (first|(refine oLA ?_;first|refine wBk ?_|refine wOp ?_|(refine wCm ?_ ?_<;>intro hc)|(refine wNl hK ?_;clear hK K))|refine wG ?_|(refine wCR ?_;intro K hK)|refine wPh ?_|fail)
          exact a7A (2 * r + 1, Go.Sort.swp D1 (first + r) (first + (2 * r + 1))) (fun w5 e5 => ⟨heS.trans e5, by dsimp only; omega, by dsimp only; rw [swp_size]; exact hs1, hoS.ext e5, hr1⟩) (by dsimp only; omega) (by repeat' (first | exact Sub.nil | refine Sub.val rfl (by first | with_reducible rfl | (congr 1; omega)) ?_ | refine Sub.same rfl ?_))
      · have q0 : True := trivial
        have hgo := sift_go (lt := Go.Sort.ltInt) (hi := hi) (first := first) (d := D1) (r := r) (c := 2 * r + 2) (by omega) (by rw [hll]; simp [h22])
        cases hl : Go.Sort.ltInt D1[first + r]! D1[first + (2 * r + 2)]!
        · rw [hl] at hgo
          simp only [Bool.false_eq_true, if_false] at hgo
          rw [hgo] at hr1
          repeat' (first|(refine oLA ?_;first|refine a0A rfl ?_|(refine oD 35 ?_; refine oC 177 ?_; refine a3A (f := 177) rfl rfl rfl rfl  (.val (.bool true)) (by intro u1 u2 w e hu1 hu2; (try obtain rfl : u1 = _ := hu1); (try obtain rfl : u2 = _ := hu2); exact agA (by rw [hll]) (avA _ _ _)) ?_)|(refine oD 26 ?_; refine a6A rfl rfl (fun _ => rfl) rfl rfl (first + (2 * r + 1)) (by omega) (by omega) ?_)|(refine oD 33 ?_; refine a6A rfl rfl (fun _ => rfl) rfl rfl (first + (2 * r + 1) + 1) (by omega) (by omega) ?_)|(refine oD 43 ?_; refine a6A rfl rfl (fun _ => rfl) rfl rfl (first + r) (by omega) (by omega) ?_)|(refine oD 49 ?_; refine a6A rfl rfl (fun _ => rfl) rfl rfl (first + (2 * r + 2)) (by omega) (by omega) ?_)|(refine oL ?_; refine aeA ho1 rfl (fun _ => rfl) rfl (by omega) ?_; rw [cbA])|(refine oD 51 ?_; refine oC 177 ?_; refine a3A (f := 177) rfl rfl rfl rfl  (.val (.bool false)) (by intro u1 u2 w e hu1 hu2; (try obtain rfl : u1 = _ := hu1); (try obtain rfl : u2 = _ := hu2); exact agA (by rw [hl]) (avA _ _ _)) ?_)|refine wOp ?_|(refine wCm ?_ ?_<;>intro hc)|(refine wNl hK ?_;clear hK K))|refine wG ?_|(refine wCR ?_;intro K hK)|fail)
          exact b2A rfl (fun w5 e5 => ⟨rfl, he1.trans e5, hr1 ▸ ho1.ext e5⟩) (.inr rfl)
        · rw [hl] at hgo
          simp only [if_true] at hgo
          rw [hgo] at hr1
          repeat' (first|(refine oLA ?_;first|refine wBk ?_|(refine oD 35 ?_; refine oC 177 ?_; refine a3A (f := 177) rfl rfl rfl rfl  (.val (.bool true)) (by intro u1 u2 w e hu1 hu2; (try obtain rfl : u1 = _ := hu1); (try obtain rfl : u2 = _ := hu2); exact agA (by rw [hll]) (avA _ _ _)) ?_)|(refine oD 26 ?_; refine a6A rfl rfl (fun _ => rfl) rfl rfl (first + (2 * r + 1)) (by omega) (by omega) ?_)|(refine oD 33 ?_; refine a6A rfl rfl (fun _ => rfl) rfl rfl (first + (2 * r + 1) + 1) (by omega) (by omega) ?_)|(refine oD 43 ?_; refine a6A rfl rfl (fun _ => rfl) rfl rfl (first + r) (by omega) (by omega) ?_)|(refine oD 49 ?_; refine a6A rfl rfl (fun _ => rfl) rfl rfl (first + (2 * r + 2)) (by omega) (by omega) ?_)|(refine oD 65 ?_; refine a6A rfl rfl (fun _ => rfl) rfl rfl (first + (2 * r + 2)) (by omega) (by omega) ?_)|(refine oD 71 ?_; refine a6A rfl rfl (fun _ => rfl) rfl rfl (first + r) (by omega) (by omega) ?_)|(refine oD 73 ?_; refine a6A rfl rfl (fun _ => rfl) rfl rfl (first + r) (by omega) (by omega) ?_)|(refine oL ?_; refine aeA ho1 rfl (fun _ => rfl) rfl (by omega) ?_; rw [cbA])|(refine oD 51 ?_; refine oC 177 ?_; refine a3A (f := 177) rfl rfl rfl rfl  (.val (.bool true)) (by intro u1 u2 w e hu1 hu2; (try obtain rfl : u1 = _ := hu1); (try obtain rfl : u2 = _ := hu2); exact agA (by rw [hl]) (avA _ _ _)) ?_)|refine wOp ?_|(refine wCm ?_ ?_<;>intro hc)|(refine wNl hK ?_;clear hK K))|(refine oCX ?_;first|refine ajA (id := 6) [21, 23] (by kernel_rfl) (by kernel_rfl) (by kernel_rfl) (a5A ?_))|refine wG ?_|(refine wCR ?_;intro K hK)|refine wPh ?_|fail)
          refine afA (j := first + r) rfl he1 ho1 rfl rfl (by omega) (fun _ => rfl) (fun wS1 heS1 hoS1 => ?_)
          refine a5A ?_
          repeat' (first|(refine oLA ?_;first|refine wBk ?_|(refine oD 74 ?_; refine a6A rfl rfl (fun _ => rfl) rfl rfl (first + (2 * r + 2)) (by omega) (by omega) ?_)|refine wOp ?_|(refine wCm ?_ ?_<;>intro hc)|(refine wNl hK ?_;clear hK K))|refine wG ?_|(refine wCR ?_;intro K hK)|refine wPh ?_|fail)
          refine afA (j := first + (2 * r + 2)) rfl heS1 hoS1 rfl rfl (by rw [List.length_set]; omega) (fun _ => rfl) (fun wS heS hoS => ?_)
          rw [atA] at hoS
          refine aiA ?_
          repeat' (first|(refine oLA ?_;first|refine wBk ?_|refine wOp ?_|(refine wCm ?_ ?_<;>intro hc)|(refine wNl hK ?_;clear hK K))|refine wG ?_|(refine wCR ?_;intro K hK)|refine wPh ?_|fail)
          exact a7A (2 * r + 2, Go.Sort.swp D1 (first + r) (first + (2 * r + 2))) (fun w5 e5 => ⟨heS.trans e5, by dsimp only; omega, by dsimp only; rw [swp_size]; exact hs1, hoS.ext e5, hr1⟩) (by dsimp only; omega) (by repeat' (first | exact Sub.nil | refine Sub.val rfl (by first | with_reducible rfl | (congr 1; omega)) ?_ | refine Sub.same rfl ?_))
    · have q0 : True := trivial
      have hgo := sift_go (lt := Go.Sort.ltInt) (hi := hi) (first := first) (d := D1) (r := r) (c := 2 * r + 1) (by omega) (by simp [h22])
      cases hl : Go.Sort.ltInt D1[first + r]! D1[first + (2 * r + 1)]!
      · rw [hl] at hgo
        simp only [Bool.false_eq_true, if_false] at hgo
        rw [hgo] at hr1
        repeat' (first|(refine oLA ?_;first|refine a0A rfl ?_|(refine oD 26 ?_; refine a6A rfl rfl (fun _ => rfl) rfl rfl (first + (2 * r + 1)) (by omega) (by omega) ?_)|(refine oD 33 ?_; refine a6A rfl rfl (fun _ => rfl) rfl rfl (first + (2 * r + 1) + 1) (by omega) (by omega) ?_)|(refine oD 43 ?_; refine a6A rfl rfl (fun _ => rfl) rfl rfl (first + r) (by omega) (by omega) ?_)|(refine oD 49 ?_; refine a6A rfl rfl (fun _ => rfl) rfl rfl (first + (2 * r + 1)) (by omega) (by omega) ?_)|(refine oL ?_; refine aeA ho1 rfl (fun _ => rfl) rfl (by omega) ?_; rw [cbA])|(refine oD 51 ?_; refine oC 177 ?_; refine a3A (f := 177) rfl rfl rfl rfl  (.val (.bool false)) (by intro u1 u2 w e hu1 hu2; (try obtain rfl : u1 = _ := hu1); (try obtain rfl : u2 = _ := hu2); exact agA (by rw [hl]) (avA _ _ _)) ?_)|refine wOp ?_|(refine wCm ?_ ?_<;>intro hc)|(refine wNl hK ?_;clear hK K))|refine wG ?_|(refine wCR ?_;intro K hK)|fail)
        exact b2A rfl (fun w5 e5 => ⟨rfl, he1.trans e5, hr1 ▸ ho1.ext e5⟩) (.inr rfl)
      · rw [hl] at hgo
        simp only [if_true] at hgo
        rw [hgo] at hr1
        repeat' (first|(refine oLA ?_;first|refine wBk ?_|(refine oD 26 ?_; refine a6A rfl rfl (fun _ => rfl) rfl rfl (first + (2 * r + 1)) (by omega) (by omega) ?_)|(refine oD 33 ?_; refine a6A rfl rfl (fun _ => rfl) rfl rfl (first + (2 * r + 1) + 1) (by omega) (by omega) ?_)|(refine oD 43 ?_; refine a6A rfl rfl (fun _ => rfl) rfl rfl (first + r) (by omega) (by omega) ?_)|(refine oD 49 ?_; refine a6A rfl rfl (fun _ => rfl) rfl rfl (first + (2 * r + 1)) (by omega) (by omega) ?_)|(refine oD 65 ?_; refine a6A rfl rfl (fun _ => rfl) rfl rfl (first + (2 * r + 1)) (by omega) (by omega) ?_)|(refine oD 71 ?_; refine a6A rfl rfl (fun _ => rfl) rfl rfl (first + r) (by omega) (by omega) ?_)|(refine oD 73 ?_; refine a6A rfl rfl (fun _ => rfl) rfl rfl (first + r) (by omega) (by omega) ?_)|(refine oL ?_; refine aeA ho1 rfl (fun _ => rfl) rfl (by omega) ?_; rw [cbA])|(refine oD 51 ?_; refine oC 177 ?_; refine a3A (f := 177) rfl rfl rfl rfl  (.val (.bool true)) (by intro u1 u2 w e hu1 hu2; (try obtain rfl : u1 = _ := hu1); (try obtain rfl : u2 = _ := hu2); exact agA (by rw [hl]) (avA _ _ _)) ?_)|refine wOp ?_|(refine wCm ?_ ?_<;>intro hc)|(refine wNl hK ?_;clear hK K))|(refine oCX ?_;first|refine ajA (id := 6) [21, 23] (by kernel_rfl) (by kernel_rfl) (by kernel_rfl) (a5A ?_))|refine wG ?_|(refine wCR ?_;intro K hK)|refine wPh ?_|fail)
        refine afA (j := first + r) rfl he1 ho1 rfl rfl (by omega) (fun _ => rfl) (fun wS1 heS1 hoS1 => ?_)
        refine a5A ?_
        repeat' (first|(refine oLA ?_;first|refine wBk ?_|(refine oD 74 ?_; refine a6A rfl rfl (fun _ => rfl) rfl rfl (first + (2 * r + 1)) (by omega) (by omega) ?_)|refine wOp ?_|(refine wCm ?_ ?_<;>intro hc)|(refine wNl hK ?_;clear hK K))|refine wG ?_|(refine wCR ?_;intro K hK)|refine wPh ?_|fail)
        refine afA (j := first + (2 * r + 1)) rfl heS1 hoS1 rfl rfl (by rw [List.length_set]; omega) (fun _ => rfl) (fun wS heS hoS => ?_)
        rw [atA] at hoS
        refine aiA ?_
        repeat' (first|(refine oLA ?_;first|refine wBk ?_|refine wOp ?_|(refine wCm ?_ ?_<;>intro hc)|(refine wNl hK ?_;clear hK K))|refine wG ?_|(refine wCR ?_;intro K hK)|refine wPh ?_|fail)
        exact a7A (2 * r + 1, Go.Sort.swp D1 (first + r) (first + (2 * r + 1))) (fun w5 e5 => ⟨heS.trans e5, by dsimp only; omega, by dsimp only; rw [swp_size]; exact hs1, hoS.ext e5, hr1⟩) (by dsimp only; omega) (by repeat' (first | exact Sub.nil | refine Sub.val rfl (by first | with_reducible rfl | (congr 1; omega)) ?_ | refine Sub.same rfl ?_))
end Srt
end Go.Proofs.YtfcioiobhpcngaaGreatDoor
end
section
set_option linter.unusedSimpArgs false
set_option linter.unusedVariables false
set_option maxRecDepth 3000
namespace Go.Proofs.YtfcioiobhpcngaaGreatDoor
namespace Srt
open Go.LA Go.ArrP Go.RowKit
set_option maxHeartbeats 8000000 in
theorem r8A {w0 w : World} {b cap n : Nat} {D : Array Int} (he0 : Ext w0 w) (ho0 : cpA w0 w b cap n D) (hn : n = D.size) (lo hi : Nat) (h1 : lo ≤ hi) (h2 : hi ≤ D.size) (hb : D.size < 4611686018427387904) :
    Fc Tryz.prog 185 #[.slice (some ⟨b, 0, none⟩) n cap, .int .i64 lo, .int .i64 hi] w (s1A w0 b cap n (Go.Sort.heapSort Go.Sort.ltInt D lo hi)) := by
  obtain ⟨m, hm⟩ : ∃ m : Nat, m = hi - lo := ⟨_, rfl⟩
  have hmi : (hi : Int) - (lo : Int) = (m : Int) := by omega
  have hhalf := lxA m (by omega)
  unfold Go.Sort.heapSort
  rw [← hm]
  refine Fc.of (args := [_, _, _]) Tryz.func185 rfl rfl Tryz.ntmps185 (Nat.le_of_ble_eq_true rfl) ?_
  repeat' (first|(refine oLA ?_;first|refine a0A rfl ?_|(refine oD 14 ?_; refine a9A rfl rfl rfl (by rw [hmi]; dsimp only [fits]; omega) ?_; rw [hmi])|(refine oD 17 ?_; refine plA rfl rfl rfl (by decide) ?_; rw [hhalf])|refine wOp ?_|(refine wCm ?_ ?_<;>intro hc)|(refine wNl hK ?_;clear hK K))|refine wG ?_|(refine wCR ?_;intro K hK)|fail)
  refine ahA (ι := Nat × Array Int) (fun i => [(0, .val (.slice (some ⟨b, 0, none⟩) n cap)), (6, .val (.int .i64 lo)), (7, .val (.int .i64 0)), (8, .val (.int .i64 m)), (9, .val (.int .i64 ((i.1 : Int) - 1)))])
    (fun i w' => Ext w0 w' ∧ i.1 ≤ (m - 1) / 2 + 1 ∧ i.2.size = D.size ∧ cpA w0 w' b cap n i.2 ∧ Go.Sort.heapBuild Go.Sort.ltInt m lo i.1 i.2 = Go.Sort.heapBuild Go.Sort.ltInt m lo ((m - 1) / 2 + 1) D) (fun i => i.1)
    (fun w2 e2 => ⟨((m - 1) / 2 + 1, D), ⟨he0.trans e2, Nat.le_refl _, rfl, ho0.ext e2, rfl⟩, (by repeat' (first | exact Sub.nil | refine Sub.val rfl (by first | with_reducible rfl | (congr 1; omega)) ?_ | refine Sub.same rfl ?_))⟩) ?_
  rintro ⟨i, D1⟩ w1 ⟨he1, hi0, hs1, ho1, hr1⟩
  dsimp only at hi0 hs1 ho1 hr1 ⊢
  cases i with
  | succ i =>
    rw [Go.Sort.heapBuild] at hr1
    repeat' (first|(refine oLA ?_;first|refine a0A rfl ?_|(refine oD 26 ?_; refine a4A (hK _ _ (eiA (f := 202) (fun w' => Ext w0 w' ∧ cpA w0 w' b cap n (Go.Sort.siftDown Go.Sort.ltInt m lo i D1)) (fun w' e => by rw [show (((i + 1 : Nat) : Int) - 1) = (i : Int) by omega]; exact l9A (he1.trans e) (ho1.ext e) (hn.trans hs1.symm) i m lo (by omega) (by omega) (by omega)) rfl (by decide) rfl rfl rfl rfl rfl (fun w2 hw2 => ?_))); clear hK K; obtain ⟨he2, ho2⟩ := hw2)|refine wOp ?_|(refine wCm ?_ ?_<;>intro hc)|(refine wNl hK ?_;clear hK K))|refine wG ?_|(refine wCR ?_;intro K hK)|fail)
    exact a7A (i, Go.Sort.siftDown Go.Sort.ltInt m lo i D1) (fun w5 e5 => ⟨he2.trans e5, by dsimp only; omega, (sift_size _ _ _ (Nat.le_refl _)).trans hs1, ho2.ext e5, hr1⟩) (by dsimp only; omega) (by repeat' (first | exact Sub.nil | refine Sub.val rfl (by first | with_reducible rfl | (congr 1; omega)) ?_ | refine Sub.same rfl ?_))
  | zero =>
    rw [Go.Sort.heapBuild] at hr1
    rw [← hr1]
    repeat' (first|(refine oLA ?_;first|refine a0A rfl ?_|refine wOp ?_|(refine wCm ?_ ?_<;>intro hc)|(refine wNl hK ?_;clear hK K))|refine wG ?_|(refine wCR ?_;intro K hK)|fail)
    refine ahA (ι := Nat × Array Int) (fun i => [(0, .val (.slice (some ⟨b, 0, none⟩) n cap)), (6, .val (.int .i64 lo)), (7, .val (.int .i64 0)), (10, .val (.int .i64 ((i.1 : Int) - 1)))])
      (fun i w' => Ext w0 w' ∧ i.1 ≤ m ∧ i.2.size = D.size ∧ cpA w0 w' b cap n i.2 ∧ Go.Sort.heapPop Go.Sort.ltInt lo i.1 i.2 = Go.Sort.heapPop Go.Sort.ltInt lo m D1) (fun i => i.1)
      (fun w2 e2 => ⟨(m, D1), ⟨he1.trans e2, Nat.le_refl _, hs1, ho1.ext e2, rfl⟩, (by repeat' (first | exact Sub.nil | refine Sub.val rfl (by first | with_reducible rfl | (congr 1; omega)) ?_ | refine Sub.same rfl ?_))⟩) ?_
    rintro ⟨i, D2⟩ w2 ⟨he2, hi2, hs2, ho2, hr2⟩
    dsimp only at hi2 hs2 ho2 hr2 ⊢
    have hl2 := apA D2
    cases i with
    | succ i =>
      rw [Go.Sort.heapPop] at hr2
      repeat' (first|(refine oLA ?_;first|refine wBk ?_|(refine oD 43 ?_; refine a6A rfl rfl (fun _ => rfl) rfl rfl (lo + i) (by omega) (by omega) ?_)|(refine oD 47 ?_; refine a6A rfl rfl (fun _ => rfl) rfl rfl lo rfl (by omega) ?_)|(refine oD 49 ?_; refine a6A rfl rfl (fun _ => rfl) rfl rfl lo rfl (by omega) ?_)|(refine oL ?_; refine aeA ho2 rfl (fun _ => rfl) rfl (by omega) ?_; rw [cbA])|refine wOp ?_|(refine wCm ?_ ?_<;>intro hc)|(refine wNl hK ?_;clear hK K))|(refine oCX ?_;first|refine ajA (id := 10) [17, 19] (by kernel_rfl) (by kernel_rfl) (by kernel_rfl) (a5A ?_))|refine wG ?_|(refine wCR ?_;intro K hK)|refine wPh ?_|fail)
      refine afA (j := lo) rfl he2 ho2 rfl rfl (by omega) (fun _ => rfl) (fun wS1 heS1 hoS1 => ?_)
      refine a5A ?_
      repeat' (first|(refine oLA ?_;first|refine wBk ?_|(refine oD 50 ?_; refine a6A rfl rfl (fun _ => rfl) rfl rfl (lo + i) (by omega) (by omega) ?_)|refine wOp ?_|(refine wCm ?_ ?_<;>intro hc)|(refine wNl hK ?_;clear hK K))|refine wG ?_|(refine wCR ?_;intro K hK)|refine wPh ?_|fail)
      refine afA (j := lo + i) rfl heS1 hoS1 rfl rfl (by rw [List.length_set]; omega) (fun _ => rfl) (fun wS heS hoS => ?_)
      rw [atA] at hoS
      refine aiA ?_
      repeat' (first|(refine oLA ?_;first|refine wBk ?_|refine wOp ?_|(refine wCm ?_ ?_<;>intro hc)|(refine wNl hK ?_;clear hK K))|refine wG ?_|(refine wCR ?_;intro K hK)|refine wPh ?_|fail)
      repeat' (first|(refine oLA ?_;first|refine a0A rfl ?_|(refine oD 55 ?_; refine a4A (hK _ _ (eiA (f := 202) (fun w' => Ext w0 w' ∧ cpA w0 w' b cap n (Go.Sort.siftDown Go.Sort.ltInt i lo 0 (Go.Sort.swp D2 lo (lo + i)))) (fun w' e => by rw [show (((i + 1 : Nat) : Int) - 1) = (i : Int) by omega]; exact l9A (heS.trans e) (hoS.ext e) (by rw [swp_size]; omega) 0 i lo (by omega) (by rw [swp_size]; omega) (by rw [swp_size]; omega)) rfl (by decide) rfl rfl rfl rfl rfl (fun w3 hw3 => ?_))); clear hK K; obtain ⟨he3, ho3⟩ := hw3)|refine wOp ?_|(refine wCm ?_ ?_<;>intro hc)|(refine wNl hK ?_;clear hK K))|refine wG ?_|(refine wCR ?_;intro K hK)|fail)
      exact a7A (i, Go.Sort.siftDown Go.Sort.ltInt i lo 0 (Go.Sort.swp D2 lo (lo + i))) (fun w5 e5 => ⟨he3.trans e5, by dsimp only; omega, (sift_size _ _ _ (Nat.le_refl _)).trans ((swp_size _ _ _).trans hs2), ho3.ext e5, hr2⟩) (by dsimp only; omega) (by repeat' (first | exact Sub.nil | refine Sub.val rfl (by first | with_reducible rfl | (congr 1; omega)) ?_ | refine Sub.same rfl ?_))
    | zero =>
      rw [Go.Sort.heapPop] at hr2
      repeat' (first|(refine oLA ?_;first|refine a0A rfl ?_|refine wOp ?_|(refine wCm ?_ ?_<;>intro hc)|(refine wNl hK ?_;clear hK K))|refine wG ?_|(refine wCR ?_;intro K hK)|fail)
      exact b2A rfl (fun w5 e5 => ⟨rfl, he2.trans e5, hr2 ▸ ho2.ext e5⟩) (.inl rfl)
set_option maxHeartbeats 4000000 in
theorem uaA {w0 w : World} {b cap n : Nat} {D : Array Int} (he0 : Ext w0 w) (ho0 : cpA w0 w b cap n D) (hn : n = D.size) (lo hi : Nat) (h1 : lo < hi) (h2 : hi ≤ D.size) (hb : D.size < 4611686018427387904) :
    Fc Tryz.prog 188 #[.slice (some ⟨b, 0, none⟩) n cap, .int .i64 lo, .int .i64 hi] w (s1A w0 b cap n (Go.Sort.reverseRange D lo hi)) := by
  unfold Go.Sort.reverseRange
  refine Fc.of (args := [_, _, _]) Tryz.func188 rfl rfl Tryz.ntmps188 (Nat.le_of_ble_eq_true rfl) ?_
  repeat' (first|(refine oLA ?_;first|refine a0A rfl ?_|refine wOp ?_|(refine wCm ?_ ?_<;>intro hc)|(refine wNl hK ?_;clear hK K))|refine wG ?_|(refine wCR ?_;intro K hK)|fail)
  rw [show ((hi : Int) - 1) = ((hi - 1 : Nat) : Int) by omega]
  refine ahA (ι := Nat × Nat × Array Int) (fun i => [(0, .val (.slice (some ⟨b, 0, none⟩) n cap)), (6, .val (.int .i64 (i.1 : Int))), (7, .val (.int .i64 (i.2.1 : Int)))])
    (fun i w' => Ext w0 w' ∧ i.1 ≤ hi ∧ i.2.1 < hi ∧ i.2.2.size = D.size ∧ cpA w0 w' b cap n i.2.2 ∧ Go.Sort.reverseLoop i.1 i.2.1 i.2.2 = Go.Sort.reverseLoop lo (hi - 1) D) (fun i => i.2.1 - i.1)
    (fun w2 e2 => ⟨(lo, hi - 1, D), ⟨he0.trans e2, by dsimp only; omega, by dsimp only; omega, rfl, ho0.ext e2, rfl⟩, (by repeat' (first | exact Sub.nil | refine Sub.val rfl (by first | with_reducible rfl | (congr 1; omega)) ?_ | refine Sub.same rfl ?_))⟩) ?_
  rintro ⟨i, j, D1⟩ w1 ⟨he1, hi0, hj0, hs1, ho1, hr1⟩
  dsimp only at hi0 hj0 hs1 ho1 hr1 ⊢
  have hl1 := apA D1
  by_cases hlt : i < j
  · rw [Go.Sort.reverseLoop, if_pos hlt] at hr1
    repeat' (first|(refine oLA ?_;first|refine wBk ?_|(refine oI ?_; refine a6A rfl rfl (fun _ => rfl) rfl rfl _ rfl (by omega) ?_)|(refine oL ?_; refine aeA ho1 rfl (fun _ => rfl) rfl (by omega) ?_; rw [cbA])|refine wOp ?_|(refine wCm ?_ ?_<;>intro hc)|(refine wNl hK ?_;clear hK K))|(refine oCX ?_;first|refine ajA (id := 3) [13, 15] (by kernel_rfl) (by kernel_rfl) (by kernel_rfl) (a5A ?_))|refine wG ?_|(refine wCR ?_;intro K hK)|refine wPh ?_|fail)
    refine afA (j := i) rfl he1 ho1 rfl rfl (by omega) (fun _ => rfl) (fun wS1 heS1 hoS1 => ?_)
    refine a5A ?_
    repeat' (first|(refine oLA ?_;first|refine wBk ?_|(refine oD 27 ?_; refine a6A rfl rfl (fun _ => rfl) rfl rfl (j) (by omega) (by omega) ?_)|refine wOp ?_|(refine wCm ?_ ?_<;>intro hc)|(refine wNl hK ?_;clear hK K))|refine wG ?_|(refine wCR ?_;intro K hK)|refine wPh ?_|fail)
    refine afA (j := j) rfl heS1 hoS1 rfl rfl (by rw [List.length_set]; omega) (fun _ => rfl) (fun wS heS hoS => ?_)
    rw [atA] at hoS
    refine aiA ?_
    repeat' (first|(refine oLA ?_;first|refine wBk ?_|refine wOp ?_|(refine wCm ?_ ?_<;>intro hc)|(refine wNl hK ?_;clear hK K))|refine wG ?_|(refine wCR ?_;intro K hK)|refine wPh ?_|fail)
    exact a7A (i + 1, j - 1, Go.Sort.swp D1 i j) (fun w5 e5 => ⟨heS.trans e5, by dsimp only; omega, by dsimp only; omega, by dsimp only; rw [swp_size]; exact hs1, hoS.ext e5, hr1⟩) (by dsimp only; omega) (by dsimp only; exact (by repeat' (first | exact Sub.nil | refine Sub.val rfl (by first | with_reducible rfl | (congr 1; omega)) ?_ | refine Sub.same rfl ?_)))
  · rw [Go.Sort.reverseLoop, if_neg hlt] at hr1
    repeat' (first|(refine oLA ?_;first|refine a0A rfl ?_|refine wOp ?_|(refine wCm ?_ ?_<;>intro hc)|(refine wNl hK ?_;clear hK K))|refine wG ?_|(refine wCR ?_;intro K hK)|fail)
    exact b2A rfl (fun w5 e5 => ⟨rfl, he1.trans e5, hr1 ▸ ho1.ext e5⟩) (.inl rfl)
end Srt
end Go.Proofs.YtfcioiobhpcngaaGreatDoor
end
section
set_option linter.unusedSimpArgs false
set_option linter.unusedVariables false
set_option maxRecDepth 3000
namespace Go.Proofs.YtfcioiobhpcngaaGreatDoor
namespace Srt
open Go.LA Go.ArrP Go.RowKit
set_option maxHeartbeats 8000000 in
theorem qsA {w0 w : World} {b cap n : Nat} {D0 : Array Int} (he0 : Ext w0 w) (ho0 : cpA w0 w b cap n D0) (hn : n = D0.size) (lo hi pv : Nat) (h1 : lo ≤ pv) (h2 : pv < hi) (h3 : hi ≤ D0.size) (hb : D0.size < 4611686018427387904) :
    Fc Tryz.prog 191 #[.slice (some ⟨b, 0, none⟩) n cap, .int .i64 lo, .int .i64 hi, .int .i64 pv] w (fun e w' => e = .returned (.tuple #[.int .i64 ((Go.Sort.partition Go.Sort.ltInt D0 lo hi pv).1 : Int), .bool (Go.Sort.partition Go.Sort.ltInt D0 lo hi pv).2.1]) ∧ Ext w0 w' ∧ cpA w0 w' b cap n (Go.Sort.partition Go.Sort.ltInt D0 lo hi pv).2.2) := by
  have hl0 := apA D0
  refine Fc.of (args := [_, _, _, _]) Tryz.func191 rfl rfl Tryz.ntmps191 (Nat.le_of_ble_eq_true rfl) ?_
  repeat' (first|(refine oLA ?_;first|refine wBk ?_|(refine oI ?_; refine a6A rfl rfl (fun _ => rfl) rfl rfl _ rfl (by omega) ?_)|(refine oL ?_; refine aeA ho0 rfl (fun _ => rfl) rfl (by omega) ?_; rw [cbA])|refine wOp ?_|(refine wCm ?_ ?_<;>intro hc)|(refine wNl hK ?_;clear hK K))|(refine oCX ?_;first|refine ajA (id := 1) [13, 15] (by kernel_rfl) (by kernel_rfl) (by kernel_rfl) (a5A ?_))|refine wG ?_|(refine wCR ?_;intro K hK)|refine wPh ?_|fail)
  refine afA (j := lo) rfl he0 ho0 rfl rfl (by omega) (fun _ => rfl) (fun wS1 heS1 hoS1 => ?_)
  refine a5A ?_
  repeat' (first|(refine oLA ?_;first|refine wBk ?_|(refine oD 25 ?_; refine a6A rfl rfl (fun _ => rfl) rfl rfl (pv) (by omega) (by omega) ?_)|refine wOp ?_|(refine wCm ?_ ?_<;>intro hc)|(refine wNl hK ?_;clear hK K))|refine wG ?_|(refine wCR ?_;intro K hK)|refine wPh ?_|fail)
  refine afA (j := pv) rfl heS1 hoS1 rfl rfl (by rw [List.length_set]; omega) (fun _ => rfl) (fun wS heS hoS => ?_)
  rw [atA] at hoS
  obtain ⟨D, hD⟩ : ∃ D, D = Go.Sort.swp D0 lo pv := ⟨_, rfl⟩
  rw [← hD] at hoS
  have hs : D.size = D0.size := by rw [hD, swp_size]
  have hl := apA D
  obtain ⟨i2, hi2⟩ : ∃ i2, i2 = Go.Sort.scanUp (fun x => Go.Sort.ltInt x D[lo]!) D (hi - 1) (lo + 1) := ⟨_, rfl⟩
  obtain ⟨j2, hj2⟩ : ∃ j2, j2 = Go.Sort.scanDown (fun x => !Go.Sort.ltInt x D[lo]!) D i2 (hi - 1) := ⟨_, rfl⟩
  have bi2 := d0A (fun x => Go.Sort.ltInt x D[lo]!) D (hi - 1) _ (lo + 1) (Nat.le_refl _)
  have bj2 := caA (fun x => !Go.Sort.ltInt x D[lo]!) D i2 (hi - 1)
  rw [← hi2] at bi2; rw [← hj2] at bj2
  have hpe := nuA (lt := Go.Sort.ltInt) hD hi2 hj2
  refine aiA ?_
  repeat' (first|(refine oLA ?_;first|refine wBk ?_|(refine oD 27 ?_; refine ayA rfl rfl rfl (by dsimp only [fits]; omega) ?_; rw [show ((lo : Int) + 1) = ((lo + 1 : Nat) : Int) by omega])|(refine oD 29 ?_; refine a9A rfl rfl rfl (by dsimp only [fits]; omega) ?_; rw [show ((hi : Int) - 1) = ((hi - 1 : Nat) : Int) by omega])|(refine oI ?_; refine a6A rfl rfl (fun _ => rfl) rfl rfl _ rfl (by omega) ?_)|(refine oL ?_; refine aeA hoS rfl (fun _ => rfl) rfl (by omega) ?_; rw [cbA])|refine wOp ?_|(refine wCm ?_ ?_<;>intro hc)|(refine wNl hK ?_;clear hK K))|(refine oCX ?_;first|refine d8A 0 [(0, .val (.slice (some ⟨b, 0, none⟩) n cap)), (1, .val (.int .i64 lo)), (2, .val (.int .i64 hi)), (10, .val (.int .i64 ((i2 : Nat) : Int))), (11, .val (.int .i64 ((hi - 1 : Nat) : Int)))] ?_ ?_|refine d8A 2 [(0, .val (.slice (some ⟨b, 0, none⟩) n cap)), (1, .val (.int .i64 lo)), (2, .val (.int .i64 hi)), (10, .val (.int .i64 ((i2 : Nat) : Int))), (11, .val (.int .i64 ((j2 : Nat) : Int)))] ?_ ?_|refine ajA (id := 8) [13, 15] (by kernel_rfl) (by kernel_rfl) (by kernel_rfl) (a5A ?_)|refine ajA (id := 10) [13, 15] (by kernel_rfl) (by kernel_rfl) (by kernel_rfl) (a5A ?_))|refine wG ?_|(refine wCR ?_;intro K hK)|refine wPh ?_|fail)
  · have q0 : True := trivial
    refine b8A (ι := Nat) (fun i => [(0, .val (.slice (some ⟨b, 0, none⟩) n cap)), (1, .val (.int .i64 lo)), (2, .val (.int .i64 hi)), (10, .val (.int .i64 (i : Int))), (11, .val (.int .i64 ((hi - 1 : Nat) : Int)))])
      (fun i => lo + 1 ≤ i ∧ i ≤ max (lo + 1) (hi - 1 + 1) ∧ Go.Sort.scanUp (fun x => Go.Sort.ltInt x D[lo]!) D (hi - 1) i = i2) (fun i => hi - 1 + 1 - i) (lo + 1) ⟨Nat.le_refl _, by omega, by rw [hi2]⟩ (by repeat' (first | exact Sub.nil | refine Sub.val rfl (by first | with_reducible rfl | (congr 1; omega)) ?_ | refine Sub.same rfl ?_)) ?_
    rintro i ⟨g1, g2, g3⟩
    have hl5 := apA D
    by_cases hij : i ≤ hi - 1
    · cases hp : Go.Sort.ltInt D[i]! D[lo]!
      · rw [bbA (p := fun x => Go.Sort.ltInt x D[lo]!) (d := D) (.inr hp)] at g3
        repeat' (first|(refine oLA ?_;first|refine a0A rfl ?_|(refine oI ?_; refine a6A rfl rfl (fun _ => rfl) rfl rfl _ rfl (by omega) ?_)|(refine oL ?_; refine aeA hoS rfl (fun _ => rfl) rfl (by omega) ?_; rw [cbA])|refine wOp ?_|(refine wCm ?_ ?_<;>intro hc)|(refine oCv ?_;first|(refine oC 177 ?_; refine a3A (f := 177) rfl rfl rfl rfl  (.val (.bool false)) (by intro u1 u2 w e hu1 hu2; (try obtain rfl : u1 = _ := hu1); (try obtain rfl : u2 = _ := hu2); exact agA (by rw [hp]) (avA _ _ _)) ?_))|(refine wNl hK ?_;clear hK K))|refine wG ?_|(refine wCR ?_;intro K hK)|fail)
        (subst g3; exact boA (by repeat' (first | exact Sub.nil | refine Sub.val rfl (by first | with_reducible rfl | (congr 1; omega)) ?_ | refine Sub.same rfl ?_)))
      · rw [scanUp_go (p := fun x => Go.Sort.ltInt x D[lo]!) (d := D) hij hp] at g3
        repeat' (first|(refine oLA ?_;first|refine a0A rfl ?_|(refine oI ?_; refine a6A rfl rfl (fun _ => rfl) rfl rfl _ rfl (by omega) ?_)|(refine oL ?_; refine aeA hoS rfl (fun _ => rfl) rfl (by omega) ?_; rw [cbA])|refine wOp ?_|(refine wCm ?_ ?_<;>intro hc)|(refine oCv ?_;first|(refine oC 177 ?_; refine a3A (f := 177) rfl rfl rfl rfl  (.val (.bool true)) (by intro u1 u2 w e hu1 hu2; (try obtain rfl : u1 = _ := hu1); (try obtain rfl : u2 = _ := hu2); exact agA (by rw [hp]) (avA _ _ _)) ?_))|(refine wNl hK ?_;clear hK K))|refine wG ?_|(refine wCR ?_;intro K hK)|fail)
        exact bpA (i + 1) ⟨by omega, by omega, g3⟩ (by omega) (by repeat' (first | exact Sub.nil | refine Sub.val rfl (by first | with_reducible rfl | (congr 1; omega)) ?_ | refine Sub.same rfl ?_))
    · rw [bbA (p := fun x => Go.Sort.ltInt x D[lo]!) (d := D) (.inl hij)] at g3
      subst g3
      repeat' (first|(refine oLA ?_;first|refine a0A rfl ?_|refine wOp ?_|(refine wCm ?_ ?_<;>intro hc)|(refine wNl hK ?_;clear hK K))|refine wG ?_|(refine wCR ?_;intro K hK)|fail)
      exact boA (by repeat' (first | exact Sub.nil | refine Sub.val rfl (by first | with_reducible rfl | (congr 1; omega)) ?_ | refine Sub.same rfl ?_))
  · have q0 : True := trivial
    refine b8A (ι := Nat) (fun j => [(0, .val (.slice (some ⟨b, 0, none⟩) n cap)), (1, .val (.int .i64 lo)), (2, .val (.int .i64 hi)), (10, .val (.int .i64 ((i2 : Nat) : Int))), (11, .val (.int .i64 (j : Int)))])
      (fun j => (i2 ≤ j + 1 ∨ j = hi - 1) ∧ j ≤ hi - 1 ∧ Go.Sort.scanDown (fun x => !Go.Sort.ltInt x D[lo]!) D (i2) j = j2) (fun j => j) (hi - 1) ⟨.inr rfl, Nat.le_refl _, by rw [hj2]⟩ (by repeat' (first | exact Sub.nil | refine Sub.val rfl (by first | with_reducible rfl | (congr 1; omega)) ?_ | refine Sub.same rfl ?_)) ?_
    rintro j ⟨g1, g2, g3⟩
    have hl5 := apA D
    by_cases hij : i2 ≤ j
    · obtain ⟨j, rfl⟩ : ∃ k, j = k + 1 := ⟨j - 1, by omega⟩
      cases hp : Go.Sort.ltInt D[j + 1]! D[lo]!
      · rw [scanDown_go (p := fun x => !Go.Sort.ltInt x D[lo]!) (d := D) hij (by show (!_) = true; rw [hp]; rfl)] at g3
        repeat' (first|(refine oLA ?_;first|refine a0A rfl ?_|(refine oI ?_; refine a6A rfl rfl (fun _ => rfl) rfl rfl _ rfl (by omega) ?_)|(refine oL ?_; refine aeA hoS rfl (fun _ => rfl) rfl (by omega) ?_; rw [cbA])|refine wOp ?_|(refine wCm ?_ ?_<;>intro hc)|(refine oCv ?_;first|(refine oC 177 ?_; refine a3A (f := 177) rfl rfl rfl rfl  (.val (.bool false)) (by intro u1 u2 w e hu1 hu2; (try obtain rfl : u1 = _ := hu1); (try obtain rfl : u2 = _ := hu2); exact agA (by rw [hp]) (avA _ _ _)) ?_))|(refine wNl hK ?_;clear hK K))|refine wG ?_|(refine wCR ?_;intro K hK)|fail)
        exact bpA j ⟨by omega, by omega, g3⟩ (by omega) (by repeat' (first | exact Sub.nil | refine Sub.val rfl (by first | with_reducible rfl | (congr 1; omega)) ?_ | refine Sub.same rfl ?_))
      · rw [b1A (p := fun x => !Go.Sort.ltInt x D[lo]!) (d := D) (.inr (by show (!_) = false; rw [hp]; rfl))] at g3
        repeat' (first|(refine oLA ?_;first|refine a0A rfl ?_|(refine oI ?_; refine a6A rfl rfl (fun _ => rfl) rfl rfl _ rfl (by omega) ?_)|(refine oL ?_; refine aeA hoS rfl (fun _ => rfl) rfl (by omega) ?_; rw [cbA])|refine wOp ?_|(refine wCm ?_ ?_<;>intro hc)|(refine oCv ?_;first|(refine oC 177 ?_; refine a3A (f := 177) rfl rfl rfl rfl  (.val (.bool true)) (by intro u1 u2 w e hu1 hu2; (try obtain rfl : u1 = _ := hu1); (try obtain rfl : u2 = _ := hu2); exact agA (by rw [hp]) (avA _ _ _)) ?_))|(refine wNl hK ?_;clear hK K))|refine wG ?_|(refine wCR ?_;intro K hK)|fail)
        (subst g3; exact boA (by repeat' (first | exact Sub.nil | refine Sub.val rfl (by first | with_reducible rfl | (congr 1; omega)) ?_ | refine Sub.same rfl ?_)))
    · rw [b1A (p := fun x => !Go.Sort.ltInt x D[lo]!) (d := D) (.inl hij)] at g3
      subst g3
      repeat' (first|(refine oLA ?_;first|refine a0A rfl ?_|refine wOp ?_|(refine wCm ?_ ?_<;>intro hc)|(refine wNl hK ?_;clear hK K))|refine wG ?_|(refine wCR ?_;intro K hK)|fail)
      exact boA (by repeat' (first | exact Sub.nil | refine Sub.val rfl (by first | with_reducible rfl | (congr 1; omega)) ?_ | refine Sub.same rfl ?_))
  · rw [if_pos (show i2 > j2 by omega)] at hpe
    rw [hpe]
    refine afA (j := j2) rfl heS hoS rfl rfl (by omega) (fun _ => rfl) (fun wS1 heS1 hoS1 => ?_)
    refine a5A ?_
    repeat' (first|(refine oLA ?_;first|refine wBk ?_|(refine oD 79 ?_; refine a6A rfl rfl (fun _ => rfl) rfl rfl (lo) (by omega) (by omega) ?_)|refine wOp ?_|(refine wCm ?_ ?_<;>intro hc)|(refine wNl hK ?_;clear hK K))|refine wG ?_|(refine wCR ?_;intro K hK)|refine wPh ?_|fail)
    refine afA (j := lo) rfl heS1 hoS1 rfl rfl (by rw [List.length_set]; omega) (fun _ => rfl) (fun wS heS hoS => ?_)
    rw [atA] at hoS
    refine aiA ?_
    repeat' (first|(refine oLA ?_;first|refine wBk ?_|refine wOp ?_|(refine wCm ?_ ?_<;>intro hc)|(refine wNl hK ?_;clear hK K))|refine wG ?_|(refine wCR ?_;intro K hK)|refine wPh ?_|fail)
    exact dqA rfl (fun x y w5 e5 hx hy => by obtain rfl : x = _ := hx; obtain rfl : y = _ := hy; exact ⟨rfl, Ext.trans (by assumption) e5, OwnI.ext (by assumption) e5⟩)
  · rw [if_neg (show ¬ i2 > j2 by omega)] at hpe
    rw [hpe]
    refine afA (j := i2) rfl heS hoS rfl rfl (by omega) (fun _ => rfl) (fun wS1 heS1 hoS1 => ?_)
    refine a5A ?_
    repeat' (first|(refine oLA ?_;first|refine wBk ?_|(refine oD 94 ?_; refine a6A rfl rfl (fun _ => rfl) rfl rfl (j2) (by omega) (by omega) ?_)|refine wOp ?_|(refine wCm ?_ ?_<;>intro hc)|(refine wNl hK ?_;clear hK K))|refine wG ?_|(refine wCR ?_;intro K hK)|refine wPh ?_|fail)
    refine afA (j := j2) rfl heS1 hoS1 rfl rfl (by rw [List.length_set]; omega) (fun _ => rfl) (fun wS heS hoS => ?_)
    rw [atA] at hoS
    obtain ⟨R, hR⟩ : ∃ R, R = Go.Sort.partLoop Go.Sort.ltInt lo (i2 + 1) (j2 - 1) (Go.Sort.swp D i2 j2) := ⟨_, rfl⟩
    rw [← hR]
    refine aiA ?_
    repeat' (first|(refine oLA ?_;first|refine wBk ?_|refine wOp ?_|(refine wCm ?_ ?_<;>intro hc)|(refine wNl hK ?_;clear hK K))|refine wG ?_|(refine wCR ?_;intro K hK)|refine wPh ?_|fail)
    refine ahA (ι := Nat × Nat × Array Int) (fun i => [(0, .val (.slice (some ⟨b, 0, none⟩) n cap)), (1, .val (.int .i64 lo)), (2, .val (.int .i64 hi)), (10, .val (.int .i64 (i.1 : Int))), (11, .val (.int .i64 (i.2.1 : Int)))])
      (fun i w' => Ext w0 w' ∧ i.2.2.size = D0.size ∧ cpA w0 w' b cap n i.2.2 ∧ lo + 1 ≤ i.1 ∧ i.1 ≤ i.2.1 + 2 ∧ lo ≤ i.2.1 ∧ i.2.1 ≤ hi - 1 ∧ Go.Sort.partLoop Go.Sort.ltInt lo i.1 i.2.1 i.2.2 = R) (fun i => i.2.1 + 2 - i.1)
      (fun w2 e2 => ⟨(i2 + 1, j2 - 1, Go.Sort.swp D i2 j2), ⟨heS.trans e2, by dsimp only; rw [swp_size]; exact hs, hoS.ext e2, by dsimp only; omega, by dsimp only; omega, by dsimp only; omega, by dsimp only; omega, hR.symm⟩, by dsimp only; exact (by repeat' (first | exact Sub.nil | refine Sub.val rfl (by first | with_reducible rfl | (congr 1; omega)) ?_ | refine Sub.same rfl ?_))⟩) ?_
    rintro ⟨ii, jj, D1⟩ w1 ⟨he1, hs1, ho1, c1, c2, c3, c4, c5⟩
    dsimp only at hs1 ho1 c1 c2 c3 c4 c5 ⊢
    have hl1 := apA D1
    obtain ⟨i3, hi3⟩ : ∃ i3, i3 = Go.Sort.scanUp (fun x => Go.Sort.ltInt x D1[lo]!) D1 jj ii := ⟨_, rfl⟩
    obtain ⟨j3, hj3⟩ : ∃ j3, j3 = Go.Sort.scanDown (fun x => !Go.Sort.ltInt x D1[lo]!) D1 i3 jj := ⟨_, rfl⟩
    have bi3 := d0A (fun x => Go.Sort.ltInt x D1[lo]!) D1 jj _ ii (Nat.le_refl _)
    have bj3 := caA (fun x => !Go.Sort.ltInt x D1[lo]!) D1 i3 jj
    rw [← hi3] at bi3; rw [← hj3] at bj3
    have hpl := partLoop_eq (lt := Go.Sort.ltInt) (a := lo) hi3 hj3 (by omega)
    rw [hpl] at c5
    clear hpl hpe hR heS hoS heS1 hoS1 hD hi2 hj2 bi2 bj2
    repeat' (first|(refine oLA ?_;first|refine wBk ?_|(refine oI ?_; refine a6A rfl rfl (fun _ => rfl) rfl rfl _ rfl (by omega) ?_)|(refine oL ?_; refine aeA ho1 rfl (fun _ => rfl) rfl (by omega) ?_; rw [cbA])|refine wOp ?_|(refine wCm ?_ ?_<;>intro hc)|(refine wNl hK ?_;clear hK K))|(refine oCX ?_;first|refine d8A 6 [(0, .val (.slice (some ⟨b, 0, none⟩) n cap)), (1, .val (.int .i64 lo)), (2, .val (.int .i64 hi)), (10, .val (.int .i64 ((i3 : Nat) : Int))), (11, .val (.int .i64 ((jj : Nat) : Int)))] ?_ ?_|refine d8A 8 [(0, .val (.slice (some ⟨b, 0, none⟩) n cap)), (1, .val (.int .i64 lo)), (2, .val (.int .i64 hi)), (10, .val (.int .i64 ((i3 : Nat) : Int))), (11, .val (.int .i64 ((j3 : Nat) : Int)))] ?_ ?_|refine ajA (id := 18) [13, 15] (by kernel_rfl) (by kernel_rfl) (by kernel_rfl) (a5A ?_)|refine ajA (id := 21) [13, 15] (by kernel_rfl) (by kernel_rfl) (by kernel_rfl) (a5A ?_))|refine wG ?_|(refine wCR ?_;intro K hK)|refine wPh ?_|fail)
    · have q0 : True := trivial
      refine b8A (ι := Nat) (fun i => [(0, .val (.slice (some ⟨b, 0, none⟩) n cap)), (1, .val (.int .i64 lo)), (2, .val (.int .i64 hi)), (10, .val (.int .i64 (i : Int))), (11, .val (.int .i64 ((jj : Nat) : Int)))])
        (fun i => ii ≤ i ∧ i ≤ max (ii) (jj + 1) ∧ Go.Sort.scanUp (fun x => Go.Sort.ltInt x D1[lo]!) D1 (jj) i = i3) (fun i => jj + 1 - i) (ii) ⟨Nat.le_refl _, by omega, by rw [hi3]⟩ (by repeat' (first | exact Sub.nil | refine Sub.val rfl (by first | with_reducible rfl | (congr 1; omega)) ?_ | refine Sub.same rfl ?_)) ?_
      rintro i ⟨g1, g2, g3⟩
      have hl5 := apA D1
      by_cases hij : i ≤ jj
      · cases hp : Go.Sort.ltInt D1[i]! D1[lo]!
        · rw [bbA (p := fun x => Go.Sort.ltInt x D1[lo]!) (d := D1) (.inr hp)] at g3
          repeat' (first|(refine oLA ?_;first|refine a0A rfl ?_|(refine oI ?_; refine a6A rfl rfl (fun _ => rfl) rfl rfl _ rfl (by omega) ?_)|(refine oL ?_; refine aeA ho1 rfl (fun _ => rfl) rfl (by omega) ?_; rw [cbA])|refine wOp ?_|(refine wCm ?_ ?_<;>intro hc)|(refine oCv ?_;first|(refine oC 177 ?_; refine a3A (f := 177) rfl rfl rfl rfl  (.val (.bool false)) (by intro u1 u2 w e hu1 hu2; (try obtain rfl : u1 = _ := hu1); (try obtain rfl : u2 = _ := hu2); exact agA (by rw [hp]) (avA _ _ _)) ?_))|(refine wNl hK ?_;clear hK K))|refine wG ?_|(refine wCR ?_;intro K hK)|fail)
          (subst g3; exact boA (by repeat' (first | exact Sub.nil | refine Sub.val rfl (by first | with_reducible rfl | (congr 1; omega)) ?_ | refine Sub.same rfl ?_)))
        · rw [scanUp_go (p := fun x => Go.Sort.ltInt x D1[lo]!) (d := D1) hij hp] at g3
          repeat' (first|(refine oLA ?_;first|refine a0A rfl ?_|(refine oI ?_; refine a6A rfl rfl (fun _ => rfl) rfl rfl _ rfl (by omega) ?_)|(refine oL ?_; refine aeA ho1 rfl (fun _ => rfl) rfl (by omega) ?_; rw [cbA])|refine wOp ?_|(refine wCm ?_ ?_<;>intro hc)|(refine oCv ?_;first|(refine oC 177 ?_; refine a3A (f := 177) rfl rfl rfl rfl  (.val (.bool true)) (by intro u1 u2 w e hu1 hu2; (try obtain rfl : u1 = _ := hu1); (try obtain rfl : u2 = _ := hu2); exact agA (by rw [hp]) (avA _ _ _)) ?_))|(refine wNl hK ?_;clear hK K))|refine wG ?_|(refine wCR ?_;intro K hK)|fail)
          exact bpA (i + 1) ⟨by omega, by omega, g3⟩ (by omega) (by repeat' (first | exact Sub.nil | refine Sub.val rfl (by first | with_reducible rfl | (congr 1; omega)) ?_ | refine Sub.same rfl ?_))
      · rw [bbA (p := fun x => Go.Sort.ltInt x D1[lo]!) (d := D1) (.inl hij)] at g3
        subst g3
        repeat' (first|(refine oLA ?_;first|refine a0A rfl ?_|refine wOp ?_|(refine wCm ?_ ?_<;>intro hc)|(refine wNl hK ?_;clear hK K))|refine wG ?_|(refine wCR ?_;intro K hK)|fail)
        exact boA (by repeat' (first | exact Sub.nil | refine Sub.val rfl (by first | with_reducible rfl | (congr 1; omega)) ?_ | refine Sub.same rfl ?_))
    · have q0 : True := trivial
      refine b8A (ι := Nat) (fun j => [(0, .val (.slice (some ⟨b, 0, none⟩) n cap)), (1, .val (.int .i64 lo)), (2, .val (.int .i64 hi)), (10, .val (.int .i64 ((i3 : Nat) : Int))), (11, .val (.int .i64 (j : Int)))])
        (fun j => (i3 ≤ j + 1 ∨ j = jj) ∧ j ≤ jj ∧ Go.Sort.scanDown (fun x => !Go.Sort.ltInt x D1[lo]!) D1 (i3) j = j3) (fun j => j) (jj) ⟨.inr rfl, Nat.le_refl _, by rw [hj3]⟩ (by repeat' (first | exact Sub.nil | refine Sub.val rfl (by first | with_reducible rfl | (congr 1; omega)) ?_ | refine Sub.same rfl ?_)) ?_
      rintro j ⟨g1, g2, g3⟩
      have hl5 := apA D1
      by_cases hij : i3 ≤ j
      · obtain ⟨j, rfl⟩ : ∃ k, j = k + 1 := ⟨j - 1, by omega⟩
        cases hp : Go.Sort.ltInt D1[j + 1]! D1[lo]!
        · rw [scanDown_go (p := fun x => !Go.Sort.ltInt x D1[lo]!) (d := D1) hij (by show (!_) = true; rw [hp]; rfl)] at g3
          repeat' (first|(refine oLA ?_;first|refine a0A rfl ?_|(refine oI ?_; refine a6A rfl rfl (fun _ => rfl) rfl rfl _ rfl (by omega) ?_)|(refine oL ?_; refine aeA ho1 rfl (fun _ => rfl) rfl (by omega) ?_; rw [cbA])|refine wOp ?_|(refine wCm ?_ ?_<;>intro hc)|(refine oCv ?_;first|(refine oC 177 ?_; refine a3A (f := 177) rfl rfl rfl rfl  (.val (.bool false)) (by intro u1 u2 w e hu1 hu2; (try obtain rfl : u1 = _ := hu1); (try obtain rfl : u2 = _ := hu2); exact agA (by rw [hp]) (avA _ _ _)) ?_))|(refine wNl hK ?_;clear hK K))|refine wG ?_|(refine wCR ?_;intro K hK)|fail)
          exact bpA j ⟨by omega, by omega, g3⟩ (by omega) (by repeat' (first | exact Sub.nil | refine Sub.val rfl (by first | with_reducible rfl | (congr 1; omega)) ?_ | refine Sub.same rfl ?_))
        · rw [b1A (p := fun x => !Go.Sort.ltInt x D1[lo]!) (d := D1) (.inr (by show (!_) = false; rw [hp]; rfl))] at g3
          repeat' (first|(refine oLA ?_;first|refine a0A rfl ?_|(refine oI ?_; refine a6A rfl rfl (fun _ => rfl) rfl rfl _ rfl (by omega) ?_)|(refine oL ?_; refine aeA ho1 rfl (fun _ => rfl) rfl (by omega) ?_; rw [cbA])|refine wOp ?_|(refine wCm ?_ ?_<;>intro hc)|(refine oCv ?_;first|(refine oC 177 ?_; refine a3A (f := 177) rfl rfl rfl rfl  (.val (.bool true)) (by intro u1 u2 w e hu1 hu2; (try obtain rfl : u1 = _ := hu1); (try obtain rfl : u2 = _ := hu2); exact agA (by rw [hp]) (avA _ _ _)) ?_))|(refine wNl hK ?_;clear hK K))|refine wG ?_|(refine wCR ?_;intro K hK)|fail)
          (subst g3; exact boA (by repeat' (first | exact Sub.nil | refine Sub.val rfl (by first | with_reducible rfl | (congr 1; omega)) ?_ | refine Sub.same rfl ?_)))
      · rw [b1A (p := fun x => !Go.Sort.ltInt x D1[lo]!) (d := D1) (.inl hij)] at g3
        subst g3
        repeat' (first|(refine oLA ?_;first|refine a0A rfl ?_|refine wOp ?_|(refine wCm ?_ ?_<;>intro hc)|(refine wNl hK ?_;clear hK K))|refine wG ?_|(refine wCR ?_;intro K hK)|fail)
        exact boA (by repeat' (first | exact Sub.nil | refine Sub.val rfl (by first | with_reducible rfl | (congr 1; omega)) ?_ | refine Sub.same rfl ?_))
    · rw [if_pos (show i3 > j3 by omega)] at c5
      subst c5
      refine afA (j := j3) rfl he1 ho1 rfl rfl (by omega) (fun _ => rfl) (fun wS1 heS1 hoS1 => ?_)
      refine a5A ?_
      repeat' (first|(refine oLA ?_;first|refine wBk ?_|(refine oD 166 ?_; refine a6A rfl rfl (fun _ => rfl) rfl rfl (lo) (by omega) (by omega) ?_)|refine wOp ?_|(refine wCm ?_ ?_<;>intro hc)|(refine wNl hK ?_;clear hK K))|refine wG ?_|(refine wCR ?_;intro K hK)|refine wPh ?_|fail)
      refine afA (j := lo) rfl heS1 hoS1 rfl rfl (by rw [List.length_set]; omega) (fun _ => rfl) (fun wS heS hoS => ?_)
      rw [atA] at hoS
      refine aiA ?_
      repeat' (first|(refine oLA ?_;first|refine wBk ?_|refine wOp ?_|(refine wCm ?_ ?_<;>intro hc)|(refine wNl hK ?_;clear hK K))|refine wG ?_|(refine wCR ?_;intro K hK)|refine wPh ?_|fail)
      exact dqA rfl (fun x y w5 e5 hx hy => by obtain rfl : x = _ := hx; obtain rfl : y = _ := hy; exact ⟨rfl, Ext.trans (by assumption) e5, OwnI.ext (by assumption) e5⟩)
    · rw [if_neg (show ¬ i3 > j3 by omega)] at c5
      refine afA (j := i3) rfl he1 ho1 rfl rfl (by omega) (fun _ => rfl) (fun wS1 heS1 hoS1 => ?_)
      refine a5A ?_
      repeat' (first|(refine oLA ?_;first|refine wBk ?_|(refine oD 148 ?_; refine a6A rfl rfl (fun _ => rfl) rfl rfl (j3) (by omega) (by omega) ?_)|refine wOp ?_|(refine wCm ?_ ?_<;>intro hc)|(refine wNl hK ?_;clear hK K))|refine wG ?_|(refine wCR ?_;intro K hK)|refine wPh ?_|fail)
      refine afA (j := j3) rfl heS1 hoS1 rfl rfl (by rw [List.length_set]; omega) (fun _ => rfl) (fun wS heS hoS => ?_)
      rw [atA] at hoS
      refine aiA ?_
      repeat' (first|(refine oLA ?_;first|refine wBk ?_|refine wOp ?_|(refine wCm ?_ ?_<;>intro hc)|(refine wNl hK ?_;clear hK K))|refine wG ?_|(refine wCR ?_;intro K hK)|refine wPh ?_|fail)
      exact a7A (i3 + 1, j3 - 1, Go.Sort.swp D1 i3 j3) (fun w5 e5 => ⟨heS.trans e5, by dsimp only; rw [swp_size]; exact hs1, hoS.ext e5, by dsimp only; omega, by dsimp only; omega, by dsimp only; omega, by dsimp only; omega, c5⟩) (by dsimp only; omega) (by dsimp only; exact (by repeat' (first | exact Sub.nil | refine Sub.val rfl (by first | with_reducible rfl | (congr 1; omega)) ?_ | refine Sub.same rfl ?_)))
end Srt
end Go.Proofs.YtfcioiobhpcngaaGreatDoor
end
section
set_option linter.unusedSimpArgs false
set_option linter.unusedVariables false
set_option maxRecDepth 3000
namespace Go.Proofs.YtfcioiobhpcngaaGreatDoor
namespace Srt
open Go.LA Go.ArrP Go.RowKit
set_option maxHeartbeats 8000000 in
theorem nwA {w0 w : World} {b cap n : Nat} {D0 : Array Int} (he0 : Ext w0 w) (ho0 : cpA w0 w b cap n D0) (hn : n = D0.size) (lo hi pv : Nat) (h1 : lo ≤ pv) (h2 : pv < hi) (h3 : hi ≤ D0.size) (hb : D0.size < 4611686018427387904) :
    Fc Tryz.prog 190 #[.slice (some ⟨b, 0, none⟩) n cap, .int .i64 lo, .int .i64 hi, .int .i64 pv] w (fun e w' => e = .returned (.int .i64 ((Go.Sort.partitionEqual Go.Sort.ltInt D0 lo hi pv).1 : Int)) ∧ Ext w0 w' ∧ cpA w0 w' b cap n (Go.Sort.partitionEqual Go.Sort.ltInt D0 lo hi pv).2) := by
  have hl0 := apA D0
  unfold Go.Sort.partitionEqual
  refine Fc.of (args := [_, _, _, _]) Tryz.func190 rfl rfl Tryz.ntmps190 (Nat.le_of_ble_eq_true rfl) ?_
  repeat' (first|(refine oLA ?_;first|refine wBk ?_|(refine oI ?_; refine a6A rfl rfl (fun _ => rfl) rfl rfl _ rfl (by omega) ?_)|(refine oL ?_; refine aeA ho0 rfl (fun _ => rfl) rfl (by omega) ?_; rw [cbA])|refine wOp ?_|(refine wCm ?_ ?_<;>intro hc)|(refine wNl hK ?_;clear hK K))|(refine oCX ?_;first|refine ajA (id := 1) [13, 15] (by kernel_rfl) (by kernel_rfl) (by kernel_rfl) (a5A ?_))|refine wG ?_|(refine wCR ?_;intro K hK)|refine wPh ?_|fail)
  refine afA (j := lo) rfl he0 ho0 rfl rfl (by omega) (fun _ => rfl) (fun wS1 heS1 hoS1 => ?_)
  refine a5A ?_
  repeat' (first|(refine oLA ?_;first|refine wBk ?_|(refine oD 24 ?_; refine a6A rfl rfl (fun _ => rfl) rfl rfl (pv) (by omega) (by omega) ?_)|refine wOp ?_|(refine wCm ?_ ?_<;>intro hc)|(refine wNl hK ?_;clear hK K))|refine wG ?_|(refine wCR ?_;intro K hK)|refine wPh ?_|fail)
  refine afA (j := pv) rfl heS1 hoS1 rfl rfl (by rw [List.length_set]; omega) (fun _ => rfl) (fun wS heS hoS => ?_)
  rw [atA] at hoS
  obtain ⟨D, hD⟩ : ∃ D, D = Go.Sort.swp D0 lo pv := ⟨_, rfl⟩
  rw [← hD] at hoS ⊢
  have hs : D.size = D0.size := by rw [hD, swp_size]
  obtain ⟨R, hR⟩ : ∃ R, R = Go.Sort.partEqLoop Go.Sort.ltInt lo (lo + 1) (hi - 1) D := ⟨_, rfl⟩
  rw [← hR]
  refine aiA ?_
  repeat' (first|(refine oLA ?_;first|refine wBk ?_|(refine oD 26 ?_; refine ayA rfl rfl rfl (by dsimp only [fits]; omega) ?_; rw [show ((lo : Int) + 1) = ((lo + 1 : Nat) : Int) by omega])|(refine oD 28 ?_; refine a9A rfl rfl rfl (by dsimp only [fits]; omega) ?_; rw [show ((hi : Int) - 1) = ((hi - 1 : Nat) : Int) by omega])|refine wOp ?_|(refine wCm ?_ ?_<;>intro hc)|(refine wNl hK ?_;clear hK K))|refine wG ?_|(refine wCR ?_;intro K hK)|refine wPh ?_|fail)
  refine ahA (ι := Nat × Nat × Array Int) (fun i => [(0, .val (.slice (some ⟨b, 0, none⟩) n cap)), (1, .val (.int .i64 lo)), (2, .val (.int .i64 hi)), (9, .val (.int .i64 (i.1 : Int))), (10, .val (.int .i64 (i.2.1 : Int)))])
    (fun i w' => Ext w0 w' ∧ i.2.2.size = D0.size ∧ cpA w0 w' b cap n i.2.2 ∧ lo + 1 ≤ i.1 ∧ i.1 ≤ i.2.1 + 2 ∧ lo ≤ i.2.1 ∧ i.2.1 ≤ hi - 1 ∧ Go.Sort.partEqLoop Go.Sort.ltInt lo i.1 i.2.1 i.2.2 = R) (fun i => i.2.1 + 2 - i.1)
    (fun w2 e2 => ⟨(lo + 1, hi - 1, D), ⟨heS.trans e2, hs, hoS.ext e2, by dsimp only; omega, by dsimp only; omega, by dsimp only; omega, by dsimp only; omega, hR.symm⟩, by dsimp only; exact (by repeat' (first | exact Sub.nil | refine Sub.val rfl (by first | with_reducible rfl | (congr 1; omega)) ?_ | refine Sub.same rfl ?_))⟩) ?_
  rintro ⟨ii, jj, D1⟩ w1 ⟨he1, hs1, ho1, c1, c2, c3, c4, c5⟩
  dsimp only at hs1 ho1 c1 c2 c3 c4 c5 ⊢
  have hl1 := apA D1
  obtain ⟨i3, hi3⟩ : ∃ i3, i3 = Go.Sort.scanUp (fun x => !Go.Sort.ltInt D1[lo]! x) D1 jj ii := ⟨_, rfl⟩
  obtain ⟨j3, hj3⟩ : ∃ j3, j3 = Go.Sort.scanDown (fun x => Go.Sort.ltInt D1[lo]! x) D1 i3 jj := ⟨_, rfl⟩
  have bi3 := d0A (fun x => !Go.Sort.ltInt D1[lo]! x) D1 jj _ ii (Nat.le_refl _)
  have bj3 := caA (fun x => Go.Sort.ltInt D1[lo]! x) D1 i3 jj
  rw [← hi3] at bi3; rw [← hj3] at bj3
  have hpl := partEqLoop_eq (lt := Go.Sort.ltInt) (a := lo) hi3 hj3 (by omega)
  rw [hpl] at c5
  clear hpl hR heS hoS heS1 hoS1 hD
  repeat' (first|(refine oLA ?_;first|refine wBk ?_|(refine oI ?_; refine a6A rfl rfl (fun _ => rfl) rfl rfl _ rfl (by omega) ?_)|(refine oL ?_; refine aeA ho1 rfl (fun _ => rfl) rfl (by omega) ?_; rw [cbA])|refine wOp ?_|(refine wCm ?_ ?_<;>intro hc)|(refine wNl hK ?_;clear hK K))|(refine oCX ?_;first|refine d8A 2 [(0, .val (.slice (some ⟨b, 0, none⟩) n cap)), (1, .val (.int .i64 lo)), (2, .val (.int .i64 hi)), (9, .val (.int .i64 ((i3 : Nat) : Int))), (10, .val (.int .i64 ((jj : Nat) : Int)))] ?_ ?_|refine d8A 4 [(0, .val (.slice (some ⟨b, 0, none⟩) n cap)), (1, .val (.int .i64 lo)), (2, .val (.int .i64 hi)), (9, .val (.int .i64 ((i3 : Nat) : Int))), (10, .val (.int .i64 ((j3 : Nat) : Int)))] ?_ ?_|refine ajA (id := 8) [13, 15] (by kernel_rfl) (by kernel_rfl) (by kernel_rfl) (a5A ?_))|refine wG ?_|(refine wCR ?_;intro K hK)|refine wPh ?_|fail)
  · have q0 : True := trivial
    refine b8A (ι := Nat) (fun i => [(0, .val (.slice (some ⟨b, 0, none⟩) n cap)), (1, .val (.int .i64 lo)), (2, .val (.int .i64 hi)), (9, .val (.int .i64 (i : Int))), (10, .val (.int .i64 ((jj : Nat) : Int)))])
      (fun i => ii ≤ i ∧ i ≤ max (ii) (jj + 1) ∧ Go.Sort.scanUp (fun x => !Go.Sort.ltInt D1[lo]! x) D1 (jj) i = i3) (fun i => jj + 1 - i) (ii) ⟨Nat.le_refl _, by omega, by rw [hi3]⟩ (by repeat' (first | exact Sub.nil | refine Sub.val rfl (by first | with_reducible rfl | (congr 1; omega)) ?_ | refine Sub.same rfl ?_)) ?_
    rintro i ⟨g1, g2, g3⟩
    have hl5 := apA D1
    by_cases hij : i ≤ jj
    · cases hp : Go.Sort.ltInt D1[lo]! D1[i]!
      · rw [scanUp_go (p := fun x => !Go.Sort.ltInt D1[lo]! x) (d := D1) hij (by show (!_) = true; rw [hp]; rfl)] at g3
        repeat' (first|(refine oLA ?_;first|refine a0A rfl ?_|(refine oI ?_; refine a6A rfl rfl (fun _ => rfl) rfl rfl _ rfl (by omega) ?_)|(refine oL ?_; refine aeA ho1 rfl (fun _ => rfl) rfl (by omega) ?_; rw [cbA])|refine wOp ?_|(refine wCm ?_ ?_<;>intro hc)|(refine oCv ?_;first|(refine oC 177 ?_; refine a3A (f := 177) rfl rfl rfl rfl  (.val (.bool false)) (by intro u1 u2 w e hu1 hu2; (try obtain rfl : u1 = _ := hu1); (try obtain rfl : u2 = _ := hu2); exact agA (by rw [hp]) (avA _ _ _)) ?_))|(refine wNl hK ?_;clear hK K))|refine wG ?_|(refine wCR ?_;intro K hK)|fail)
        exact bpA (i + 1) ⟨by omega, by omega, g3⟩ (by omega) (by repeat' (first | exact Sub.nil | refine Sub.val rfl (by first | with_reducible rfl | (congr 1; omega)) ?_ | refine Sub.same rfl ?_))
      · rw [bbA (p := fun x => !Go.Sort.ltInt D1[lo]! x) (d := D1) (.inr (by show (!_) = false; rw [hp]; rfl))] at g3
        repeat' (first|(refine oLA ?_;first|refine a0A rfl ?_|(refine oI ?_; refine a6A rfl rfl (fun _ => rfl) rfl rfl _ rfl (by omega) ?_)|(refine oL ?_; refine aeA ho1 rfl (fun _ => rfl) rfl (by omega) ?_; rw [cbA])|refine wOp ?_|(refine wCm ?_ ?_<;>intro hc)|(refine oCv ?_;first|(refine oC 177 ?_; refine a3A (f := 177) rfl rfl rfl rfl  (.val (.bool true)) (by intro u1 u2 w e hu1 hu2; (try obtain rfl : u1 = _ := hu1); (try obtain rfl : u2 = _ := hu2); exact agA (by rw [hp]) (avA _ _ _)) ?_))|(refine wNl hK ?_;clear hK K))|refine wG ?_|(refine wCR ?_;intro K hK)|fail)
        (subst g3; exact boA (by repeat' (first | exact Sub.nil | refine Sub.val rfl (by first | with_reducible rfl | (congr 1; omega)) ?_ | refine Sub.same rfl ?_)))
    · rw [bbA (p := fun x => !Go.Sort.ltInt D1[lo]! x) (d := D1) (.inl hij)] at g3
      subst g3
      repeat' (first|(refine oLA ?_;first|refine a0A rfl ?_|refine wOp ?_|(refine wCm ?_ ?_<;>intro hc)|(refine wNl hK ?_;clear hK K))|refine wG ?_|(refine wCR ?_;intro K hK)|fail)
      exact boA (by repeat' (first | exact Sub.nil | refine Sub.val rfl (by first | with_reducible rfl | (congr 1; omega)) ?_ | refine Sub.same rfl ?_))
  · have q0 : True := trivial
    refine b8A (ι := Nat) (fun j => [(0, .val (.slice (some ⟨b, 0, none⟩) n cap)), (1, .val (.int .i64 lo)), (2, .val (.int .i64 hi)), (9, .val (.int .i64 ((i3 : Nat) : Int))), (10, .val (.int .i64 (j : Int)))])
      (fun j => (i3 ≤ j + 1 ∨ j = jj) ∧ j ≤ jj ∧ Go.Sort.scanDown (fun x => Go.Sort.ltInt D1[lo]! x) D1 (i3) j = j3) (fun j => j) (jj) ⟨.inr rfl, Nat.le_refl _, by rw [hj3]⟩ (by repeat' (first | exact Sub.nil | refine Sub.val rfl (by first | with_reducible rfl | (congr 1; omega)) ?_ | refine Sub.same rfl ?_)) ?_
    rintro j ⟨g1, g2, g3⟩
    have hl5 := apA D1
    by_cases hij : i3 ≤ j
    · obtain ⟨j, rfl⟩ : ∃ k, j = k + 1 := ⟨j - 1, by omega⟩
      cases hp : Go.Sort.ltInt D1[lo]! D1[j + 1]!
      · rw [b1A (p := fun x => Go.Sort.ltInt D1[lo]! x) (d := D1) (.inr hp)] at g3
        repeat' (first|(refine oLA ?_;first|refine a0A rfl ?_|(refine oI ?_; refine a6A rfl rfl (fun _ => rfl) rfl rfl _ rfl (by omega) ?_)|(refine oL ?_; refine aeA ho1 rfl (fun _ => rfl) rfl (by omega) ?_; rw [cbA])|refine wOp ?_|(refine wCm ?_ ?_<;>intro hc)|(refine oCv ?_;first|(refine oC 177 ?_; refine a3A (f := 177) rfl rfl rfl rfl  (.val (.bool false)) (by intro u1 u2 w e hu1 hu2; (try obtain rfl : u1 = _ := hu1); (try obtain rfl : u2 = _ := hu2); exact agA (by rw [hp]) (avA _ _ _)) ?_))|(refine wNl hK ?_;clear hK K))|refine wG ?_|(refine wCR ?_;intro K hK)|fail)
        (subst g3; exact boA (by repeat' (first | exact Sub.nil | refine Sub.val rfl (by first | with_reducible rfl | (congr 1; omega)) ?_ | refine Sub.same rfl ?_)))
      · rw [scanDown_go (p := fun x => Go.Sort.ltInt D1[lo]! x) (d := D1) hij hp] at g3
        repeat' (first|(refine oLA ?_;first|refine a0A rfl ?_|(refine oI ?_; refine a6A rfl rfl (fun _ => rfl) rfl rfl _ rfl (by omega) ?_)|(refine oL ?_; refine aeA ho1 rfl (fun _ => rfl) rfl (by omega) ?_; rw [cbA])|refine wOp ?_|(refine wCm ?_ ?_<;>intro hc)|(refine oCv ?_;first|(refine oC 177 ?_; refine a3A (f := 177) rfl rfl rfl rfl  (.val (.bool true)) (by intro u1 u2 w e hu1 hu2; (try obtain rfl : u1 = _ := hu1); (try obtain rfl : u2 = _ := hu2); exact agA (by rw [hp]) (avA _ _ _)) ?_))|(refine wNl hK ?_;clear hK K))|refine wG ?_|(refine wCR ?_;intro K hK)|fail)
        exact bpA j ⟨by omega, by omega, g3⟩ (by omega) (by repeat' (first | exact Sub.nil | refine Sub.val rfl (by first | with_reducible rfl | (congr 1; omega)) ?_ | refine Sub.same rfl ?_))
    · rw [b1A (p := fun x => Go.Sort.ltInt D1[lo]! x) (d := D1) (.inl hij)] at g3
      subst g3
      repeat' (first|(refine oLA ?_;first|refine a0A rfl ?_|refine wOp ?_|(refine wCm ?_ ?_<;>intro hc)|(refine wNl hK ?_;clear hK K))|refine wG ?_|(refine wCR ?_;intro K hK)|fail)
      exact boA (by repeat' (first | exact Sub.nil | refine Sub.val rfl (by first | with_reducible rfl | (congr 1; omega)) ?_ | refine Sub.same rfl ?_))
  · rw [if_pos (show i3 > j3 by omega)] at c5
    subst c5
    repeat' (first|(refine oLA ?_;first|refine a0A rfl ?_|refine wOp ?_|(refine wCm ?_ ?_<;>intro hc)|(refine wNl hK ?_;clear hK K))|refine wG ?_|(refine wCR ?_;intro K hK)|fail)
    exact blA rfl (fun x w5 e5 hx => by obtain rfl : x = _ := hx; exact ⟨rfl, Ext.trans (by assumption) e5, OwnI.ext (by assumption) e5⟩)
  · rw [if_neg (show ¬ i3 > j3 by omega)] at c5
    refine afA (j := i3) rfl he1 ho1 rfl rfl (by omega) (fun _ => rfl) (fun wS1 heS1 hoS1 => ?_)
    refine a5A ?_
    repeat' (first|(refine oLA ?_;first|refine wBk ?_|(refine oD 78 ?_; refine a6A rfl rfl (fun _ => rfl) rfl rfl (j3) (by omega) (by omega) ?_)|refine wOp ?_|(refine wCm ?_ ?_<;>intro hc)|(refine wNl hK ?_;clear hK K))|refine wG ?_|(refine wCR ?_;intro K hK)|refine wPh ?_|fail)
    refine afA (j := j3) rfl heS1 hoS1 rfl rfl (by rw [List.length_set]; omega) (fun _ => rfl) (fun wS heS hoS => ?_)
    rw [atA] at hoS
    refine aiA ?_
    repeat' (first|(refine oLA ?_;first|refine wBk ?_|refine wOp ?_|(refine wCm ?_ ?_<;>intro hc)|(refine wNl hK ?_;clear hK K))|refine wG ?_|(refine wCR ?_;intro K hK)|refine wPh ?_|fail)
    exact a7A (i3 + 1, j3 - 1, Go.Sort.swp D1 i3 j3) (fun w5 e5 => ⟨heS.trans e5, by dsimp only; rw [swp_size]; exact hs1, hoS.ext e5, by dsimp only; omega, by dsimp only; omega, by dsimp only; omega, by dsimp only; omega, c5⟩) (by dsimp only; omega) (by dsimp only; exact (by repeat' (first | exact Sub.nil | refine Sub.val rfl (by first | with_reducible rfl | (congr 1; omega)) ?_ | refine Sub.same rfl ?_)))
end Srt
end Go.Proofs.YtfcioiobhpcngaaGreatDoor
end
section
set_option linter.unusedSimpArgs false
set_option linter.unusedVariables false
set_option maxRecDepth 3000
namespace Go.Proofs.YtfcioiobhpcngaaGreatDoor
namespace Srt
open Go.LA Go.ArrP Go.RowKit
set_option maxHeartbeats 16000000 in
theorem qoA {w0 w : World} {b cap n : Nat} {D0 : Array Int} (he0 : Ext w0 w) (ho0 : cpA w0 w b cap n D0) (hn : n = D0.size) (lo hi : Nat) (h1 : lo < hi) (h2 : hi ≤ D0.size) (hb : D0.size < 4611686018427387904) :
    Fc Tryz.prog 189 #[.slice (some ⟨b, 0, none⟩) n cap, .int .i64 lo, .int .i64 hi] w (fun e w' => e = .returned (.bool (Go.Sort.partialInsertionSort Go.Sort.ltInt D0 lo hi).2) ∧ Ext w0 w' ∧ cpA w0 w' b cap n (Go.Sort.partialInsertionSort Go.Sort.ltInt D0 lo hi).1) := by
  unfold Go.Sort.partialInsertionSort
  obtain ⟨R, hR⟩ : ∃ R, R = Go.Sort.partialIns Go.Sort.ltInt lo hi 5 (lo + 1) D0 := ⟨_, rfl⟩
  rw [← hR]
  refine Fc.of (args := [_, _, _]) Tryz.func189 rfl rfl Tryz.ntmps189 (Nat.le_of_ble_eq_true rfl) ?_
  repeat' (first|(refine oLA ?_;first|refine a0A rfl ?_|(refine oD 12 ?_; refine ayA rfl rfl rfl (by dsimp only [fits]; omega) ?_; rw [show ((lo : Int) + 1) = ((lo + 1 : Nat) : Int) by omega])|refine wOp ?_|(refine wCm ?_ ?_<;>intro hc)|(refine wNl hK ?_;clear hK K))|refine wG ?_|(refine wCR ?_;intro K hK)|fail)
  refine ahA (ι := Nat × Nat × Array Int) (fun i => [(0, .val (.slice (some ⟨b, 0, none⟩) n cap)), (1, .val (.int .i64 lo)), (2, .val (.int .i64 hi)), (6, .val (.bool false)), (7, .val (.int .i64 (i.2.1 : Int))), (8, .val (.int .i64 (5 - (i.1 : Int))))])
    (fun i w' => Ext w0 w' ∧ i.1 ≤ 5 ∧ i.2.2.size = D0.size ∧ cpA w0 w' b cap n i.2.2 ∧ lo + 1 ≤ i.2.1 ∧ i.2.1 ≤ hi ∧ Go.Sort.partialIns Go.Sort.ltInt lo hi i.1 i.2.1 i.2.2 = R) (fun i => i.1)
    (fun w2 e2 => ⟨(5, lo + 1, D0), ⟨he0.trans e2, Nat.le_refl _, rfl, ho0.ext e2, Nat.le_refl _, by dsimp only; omega, hR.symm⟩, by dsimp only; exact (by repeat' (first | exact Sub.nil | refine Sub.val rfl (by first | with_reducible rfl | (congr 1; omega)) ?_ | refine Sub.same rfl ?_))⟩) ?_
  rintro ⟨s, ii, D⟩ w1 ⟨he1, hs5, hs1, ho1, c1, c2, c3⟩
  dsimp only at hs5 hs1 ho1 c1 c2 c3 ⊢
  have hl1 := apA D
  cases s with
  | zero =>
    rw [Go.Sort.partialIns] at c3
    subst c3
    repeat' (first|(refine oLA ?_;first|refine a0A rfl ?_|refine wOp ?_|(refine wCm ?_ ?_<;>intro hc)|(refine wNl hK ?_;clear hK K))|refine wG ?_|(refine wCR ?_;intro K hK)|fail)
    exact blA rfl (fun x w5 e5 hx => by obtain rfl : x = _ := hx; exact ⟨rfl, Ext.trans (by assumption) e5, OwnI.ext (by assumption) e5⟩)
  | succ s =>
  obtain ⟨i3, hi3⟩ : ∃ i3, i3 = Go.Sort.scanSorted Go.Sort.ltInt D hi ii := ⟨_, rfl⟩
  have bi3 := Go.Sort.scanSorted_bd (lt := Go.Sort.ltInt) (d := D) (b := hi) _ ii (Nat.le_refl _) c2
  rw [← hi3] at bi3
  repeat' (first|(refine oLA ?_;first|refine wBk ?_|(refine oI ?_; refine a6A rfl rfl (fun _ => rfl) rfl rfl _ rfl (by omega) ?_)|(refine oL ?_; refine aeA ho1 rfl (fun _ => rfl) rfl (by omega) ?_; rw [cbA])|(refine oD 46 ?_; refine a9A rfl rfl rfl (by dsimp only [fits]; omega) ?_; rw [show ((i3 : Int) - 1) = ((i3 - 1 : Nat) : Int) by omega])|(refine oD 49 ?_; refine a9A rfl rfl rfl (by dsimp only [fits]; omega) ?_; rw [show ((i3 : Int) - 1) = ((i3 - 1 : Nat) : Int) by omega])|refine wOp ?_|(refine wCm ?_ ?_<;>intro hc)|(refine wNl hK ?_;clear hK K))|(refine oCX ?_;first|refine d8A 2 [(0, .val (.slice (some ⟨b, 0, none⟩) n cap)), (1, .val (.int .i64 lo)), (2, .val (.int .i64 hi)), (6, .val (.bool false)), (7, .val (.int .i64 (i3 : Nat))), (8, .val (.int .i64 (5 - ((s + 1 : Nat) : Int))))] ?_ ?_|refine ajA (id := 11) [15, 17] (by kernel_rfl) (by kernel_rfl) (by kernel_rfl) (a5A ?_))|refine wG ?_|(refine wCR ?_;intro K hK)|refine wPh ?_|fail)
  · refine b8A (ι := Nat) (fun i => [(0, .val (.slice (some ⟨b, 0, none⟩) n cap)), (1, .val (.int .i64 lo)), (2, .val (.int .i64 hi)), (6, .val (.bool false)), (7, .val (.int .i64 (i : Nat))), (8, .val (.int .i64 (5 - ((s + 1 : Nat) : Int))))])
      (fun i => ii ≤ i ∧ i ≤ hi ∧ Go.Sort.scanSorted Go.Sort.ltInt D hi i = i3) (fun i => hi - i) ii ⟨Nat.le_refl _, c2, by rw [hi3]⟩ (by repeat' (first | exact Sub.nil | refine Sub.val rfl (by first | with_reducible rfl | (congr 1; omega)) ?_ | refine Sub.same rfl ?_)) ?_
    rintro i ⟨g1, g2, g3⟩
    by_cases hij : i < hi
    · cases hp : Go.Sort.ltInt D[i]! D[i - 1]!
      · rw [Go.Sort.scanSorted_go hij hp] at g3
        repeat' (first|(refine oLA ?_;first|refine a0A rfl ?_|(refine oD 27 ?_; refine a9A rfl rfl rfl (by dsimp only [fits]; omega) ?_; rw [show ((i : Int) - 1) = ((i - 1 : Nat) : Int) by omega])|(refine oI ?_; refine a6A rfl rfl (fun _ => rfl) rfl rfl _ rfl (by omega) ?_)|(refine oL ?_; refine aeA ho1 rfl (fun _ => rfl) rfl (by omega) ?_; rw [cbA])|refine wOp ?_|(refine wCm ?_ ?_<;>intro hc)|(refine oCv ?_;first|(refine oC 177 ?_; refine a3A (f := 177) rfl rfl rfl rfl  (.val (.bool false)) (by intro u1 u2 w e hu1 hu2; (try obtain rfl : u1 = _ := hu1); (try obtain rfl : u2 = _ := hu2); exact agA (by rw [hp]) (avA _ _ _)) ?_))|(refine wNl hK ?_;clear hK K))|refine wG ?_|(refine wCR ?_;intro K hK)|fail)
        exact bpA (i + 1) ⟨by omega, by omega, g3⟩ (by omega) (by repeat' (first | exact Sub.nil | refine Sub.val rfl (by first | with_reducible rfl | (congr 1; omega)) ?_ | refine Sub.same rfl ?_))
      · rw [Go.Sort.scanSorted_stop (.inr hp)] at g3
        subst g3
        repeat' (first|(refine oLA ?_;first|refine a0A rfl ?_|(refine oD 27 ?_; refine a9A rfl rfl rfl (by dsimp only [fits]; omega) ?_; rw [show ((i : Int) - 1) = ((i - 1 : Nat) : Int) by omega])|(refine oI ?_; refine a6A rfl rfl (fun _ => rfl) rfl rfl _ rfl (by omega) ?_)|(refine oL ?_; refine aeA ho1 rfl (fun _ => rfl) rfl (by omega) ?_; rw [cbA])|refine wOp ?_|(refine wCm ?_ ?_<;>intro hc)|(refine oCv ?_;first|(refine oC 177 ?_; refine a3A (f := 177) rfl rfl rfl rfl  (.val (.bool true)) (by intro u1 u2 w e hu1 hu2; (try obtain rfl : u1 = _ := hu1); (try obtain rfl : u2 = _ := hu2); exact agA (by rw [hp]) (avA _ _ _)) ?_))|(refine wNl hK ?_;clear hK K))|refine wG ?_|(refine wCR ?_;intro K hK)|fail)
        exact boA (by repeat' (first | exact Sub.nil | refine Sub.val rfl (by first | with_reducible rfl | (congr 1; omega)) ?_ | refine Sub.same rfl ?_))
    · rw [Go.Sort.scanSorted_stop (.inl hij)] at g3
      subst g3
      repeat' (first|(refine oLA ?_;first|refine a0A rfl ?_|refine wOp ?_|(refine wCm ?_ ?_<;>intro hc)|(refine wNl hK ?_;clear hK K))|refine wG ?_|(refine wCR ?_;intro K hK)|fail)
      exact boA (by repeat' (first | exact Sub.nil | refine Sub.val rfl (by first | with_reducible rfl | (congr 1; omega)) ?_ | refine Sub.same rfl ?_))
  · skip
    rw [Go.Sort.pI_end hi3 (by omega)] at c3
    subst c3
    exact blA rfl (fun x w5 e5 hx => by obtain rfl : x = _ := hx; exact ⟨rfl, Ext.trans (by assumption) e5, OwnI.ext (by assumption) e5⟩)
  · skip
    rw [Go.Sort.pI_short hi3 (by omega) (by omega)] at c3
    subst c3
    exact blA rfl (fun x w5 e5 hx => by obtain rfl : x = _ := hx; exact ⟨rfl, Ext.trans (by assumption) e5, OwnI.ext (by assumption) e5⟩)
  · skip
    refine afA (j := i3) rfl he1 ho1 rfl rfl (by omega) (fun _ => rfl) (fun wS1 heS1 hoS1 => ?_)
    refine a5A ?_
    repeat' (first|(refine oLA ?_;first|refine wBk ?_|(refine oD 57 ?_; refine a6A rfl rfl (fun _ => rfl) rfl rfl ((i3 - 1)) (by omega) (by omega) ?_)|(refine oD 46 ?_; refine a9A rfl rfl rfl (by dsimp only [fits]; omega) ?_; rw [show ((i3 : Int) - 1) = ((i3 - 1 : Nat) : Int) by omega])|refine wOp ?_|(refine wCm ?_ ?_<;>intro hc)|(refine wNl hK ?_;clear hK K))|refine wG ?_|(refine wCR ?_;intro K hK)|refine wPh ?_|fail)
    refine afA (j := (i3 - 1)) rfl heS1 hoS1 rfl rfl (by rw [List.length_set]; omega) (fun _ => rfl) (fun wS heS hoS => ?_)
    rw [atA] at hoS
    obtain ⟨D2, e2⟩ : ∃ D2, D2 = Go.Sort.swp D i3 (i3 - 1) := ⟨_, rfl⟩
    obtain ⟨D3, e3⟩ : ∃ D3, D3 = if i3 - lo ≥ 2 then Go.Sort.shiftDown Go.Sort.ltInt (i3 - 1) D2 else D2 := ⟨_, rfl⟩
    obtain ⟨D4, e4⟩ : ∃ D4, D4 = if hi - i3 ≥ 2 then Go.Sort.shiftUp Go.Sort.ltInt hi (i3 + 1) D3 else D3 := ⟨_, rfl⟩
    rw [Go.Sort.pI_go hi3 (by omega) (by omega) e2 e3 e4] at c3
    rw [← e2] at hoS
    have hs2 : D2.size = D0.size := by rw [e2, swp_size]; exact hs1
    have hs3 : D3.size = D0.size := by rw [e3]; split; exact (Go.Sort.shiftDown_size _ _).trans hs2; exact hs2
    have hs4 : D4.size = D0.size := by rw [e4]; split; exact (Go.Sort.shiftUp_size _ _ _ (Nat.le_refl _)).trans hs3; exact hs3
    refine aiA ?_
    repeat' (first|(refine oLA ?_;first|refine wBk ?_|(refine oD 63 ?_; refine a9A rfl rfl rfl (by dsimp only [fits]; omega) ?_; rw [show ((i3 : Int) - 1) = ((i3 - 1 : Nat) : Int) by omega])|refine wOp ?_|(refine wCm ?_ ?_<;>intro hc)|(refine wNl hK ?_;clear hK K))|(refine oCX ?_;first|refine cqA (id := 12) (ι := Unit) (fun _ => [(0, .val (.slice (some ⟨b, 0, none⟩) n cap)), (1, .val (.int .i64 lo)), (2, .val (.int .i64 hi)), (6, .val (.bool false)), (7, .val (.int .i64 (i3 : Nat))), (8, .val (.int .i64 (5 - ((s + 1 : Nat) : Int))))]) (fun _ w' => Ext w0 w' ∧ cpA w0 w' b cap n D3) ?_ ?_)|refine wG ?_|(refine wCR ?_;intro K hK)|refine wPh ?_|fail)
    · skip
      rw [if_pos (by omega)] at e3
      refine ahA (ι := Nat × Array Int) (fun i => [(0, .val (.slice (some ⟨b, 0, none⟩) n cap)), (1, .val (.int .i64 lo)), (2, .val (.int .i64 hi)), (6, .val (.bool false)), (7, .val (.int .i64 (i3 : Nat))), (8, .val (.int .i64 (5 - ((s + 1 : Nat) : Int)))), (9, .val (.int .i64 (i.1 : Int)))])
        (fun i w' => Ext w0 w' ∧ i.1 ≤ i3 - 1 ∧ i.2.size = D0.size ∧ cpA w0 w' b cap n i.2 ∧ Go.Sort.shiftDown Go.Sort.ltInt i.1 i.2 = D3) (fun i => i.1)
        (fun w2 e2 => ⟨(i3 - 1, D2), ⟨heS.trans e2, Nat.le_refl _, hs2, hoS.ext e2, e3.symm⟩, by dsimp only; exact (by repeat' (first | exact Sub.nil | refine Sub.val rfl (by first | with_reducible rfl | (congr 1; omega)) ?_ | refine Sub.same rfl ?_))⟩) ?_
      rintro ⟨j, D5⟩ w5 ⟨he5, hj5, hs5', ho5, hr5⟩
      dsimp only at hj5 hs5' ho5 hr5 ⊢
      have hl5 := apA D5
      clear heS hoS heS1 hoS1
      cases j with
      | zero =>
        rw [Go.Sort.shiftDown] at hr5
        subst hr5
        repeat' (first|(refine oLA ?_;first|refine a0A rfl ?_|refine wOp ?_|(refine wCm ?_ ?_<;>intro hc)|(refine wNl hK ?_;clear hK K))|refine wG ?_|(refine wCR ?_;intro K hK)|fail)
        exact a7A () (fun w6 e6 => ⟨he5.trans e6, ho5.ext e6⟩) (by omega) (by repeat' (first | exact Sub.nil | refine Sub.val rfl (by first | with_reducible rfl | (congr 1; omega)) ?_ | refine Sub.same rfl ?_))
      | succ j =>
        rw [Go.Sort.shiftDown] at hr5
        cases hp : Go.Sort.ltInt D5[j + 1]! D5[j]!
        · rw [hp, if_pos (by rfl)] at hr5
          subst hr5
          repeat' (first|(refine oLA ?_;first|refine a0A rfl ?_|(refine oD 74 ?_; refine a9A rfl rfl rfl (by dsimp only [fits]; omega) ?_; rw [show (((j + 1 : Nat) : Int) - 1) = (j : Int) by omega])|(refine oI ?_; refine a6A rfl rfl (fun _ => rfl) rfl rfl _ rfl (by omega) ?_)|(refine oL ?_; refine aeA ho5 rfl (fun _ => rfl) rfl (by omega) ?_; rw [cbA])|refine wOp ?_|(refine wCm ?_ ?_<;>intro hc)|(refine oCv ?_;first|(refine oC 177 ?_; refine a3A (f := 177) rfl rfl rfl rfl  (.val (.bool false)) (by intro u1 u2 w e hu1 hu2; (try obtain rfl : u1 = _ := hu1); (try obtain rfl : u2 = _ := hu2); exact agA (by rw [hp]) (avA _ _ _)) ?_))|(refine wNl hK ?_;clear hK K))|refine wG ?_|(refine wCR ?_;intro K hK)|fail)
          exact a7A () (fun w6 e6 => ⟨he5.trans e6, ho5.ext e6⟩) (by omega) (by repeat' (first | exact Sub.nil | refine Sub.val rfl (by first | with_reducible rfl | (congr 1; omega)) ?_ | refine Sub.same rfl ?_))
        · rw [hp, if_neg (by simp)] at hr5
          repeat' (first|(refine oLA ?_;first|refine wBk ?_|(refine oD 74 ?_; refine a9A rfl rfl rfl (by dsimp only [fits]; omega) ?_; rw [show (((j + 1 : Nat) : Int) - 1) = (j : Int) by omega])|(refine oD 83 ?_; refine a9A rfl rfl rfl (by dsimp only [fits]; omega) ?_; rw [show (((j + 1 : Nat) : Int) - 1) = (j : Int) by omega])|(refine oD 86 ?_; refine a9A rfl rfl rfl (by dsimp only [fits]; omega) ?_; rw [show (((j + 1 : Nat) : Int) - 1) = (j : Int) by omega])|(refine oI ?_; refine a6A rfl rfl (fun _ => rfl) rfl rfl _ rfl (by omega) ?_)|(refine oL ?_; refine aeA ho5 rfl (fun _ => rfl) rfl (by omega) ?_; rw [cbA])|refine wOp ?_|(refine wCm ?_ ?_<;>intro hc)|(refine oCv ?_;first|(refine oC 177 ?_; refine a3A (f := 177) rfl rfl rfl rfl  (.val (.bool true)) (by intro u1 u2 w e hu1 hu2; (try obtain rfl : u1 = _ := hu1); (try obtain rfl : u2 = _ := hu2); exact agA (by rw [hp]) (avA _ _ _)) ?_))|(refine wNl hK ?_;clear hK K))|(refine oCX ?_;first|refine ajA (id := 17) [15, 17] (by kernel_rfl) (by kernel_rfl) (by kernel_rfl) (a5A ?_))|refine wG ?_|(refine wCR ?_;intro K hK)|refine wPh ?_|fail)
          refine afA (j := (j + 1)) rfl he5 ho5 rfl rfl (by omega) (fun _ => rfl) (fun wS1 heS1 hoS1 => ?_)
          refine a5A ?_
          repeat' (first|(refine oLA ?_;first|refine wBk ?_|(refine oD 94 ?_; refine a6A rfl rfl (fun _ => rfl) rfl rfl (j) (by omega) (by omega) ?_)|(refine oD 83 ?_; refine a9A rfl rfl rfl (by dsimp only [fits]; omega) ?_; rw [show (((j + 1 : Nat) : Int) - 1) = (j : Int) by omega])|refine wOp ?_|(refine wCm ?_ ?_<;>intro hc)|(refine wNl hK ?_;clear hK K))|refine wG ?_|(refine wCR ?_;intro K hK)|refine wPh ?_|fail)
          refine afA (j := j) rfl heS1 hoS1 rfl rfl (by rw [List.length_set]; omega) (fun _ => rfl) (fun wS heS hoS => ?_)
          rw [atA] at hoS
          refine aiA ?_
          repeat' (first|(refine oLA ?_;first|refine wBk ?_|(refine oD 67 ?_; refine a9A rfl rfl rfl (by dsimp only [fits]; omega) ?_; rw [show (((j + 1 : Nat) : Int) - 1) = (j : Int) by omega])|refine wOp ?_|(refine wCm ?_ ?_<;>intro hc)|(refine wNl hK ?_;clear hK K))|refine wG ?_|(refine wCR ?_;intro K hK)|refine wPh ?_|fail)
          exact a7A (j, Go.Sort.swp D5 (j + 1) j) (fun w6 e6 => ⟨heS.trans e6, by dsimp only; omega, by dsimp only; rw [swp_size]; exact hs5', hoS.ext e6, hr5⟩) (by dsimp only; omega) (by dsimp only; exact (by repeat' (first | exact Sub.nil | refine Sub.val rfl (by first | with_reducible rfl | (congr 1; omega)) ?_ | refine Sub.same rfl ?_)))
    · skip
      rw [if_neg (by omega)] at e3
      exact a7A () (fun w6 e6 => ⟨heS.trans e6, by rw [e3]; exact hoS.ext e6⟩) (by omega) (by repeat' (first | exact Sub.nil | refine Sub.val rfl (by first | with_reducible rfl | (congr 1; omega)) ?_ | refine Sub.same rfl ?_))
    · rintro - wX ⟨heX, hoX⟩
      have hl3 := apA D3
      repeat' (first|(refine oLA ?_;first|refine a0A rfl ?_|(refine oD 100 ?_; refine ayA rfl rfl rfl (by dsimp only [fits]; omega) ?_; rw [show ((i3 : Int) + 1) = ((i3 + 1 : Nat) : Int) by omega])|refine wOp ?_|(refine wCm ?_ ?_<;>intro hc)|(refine wNl hK ?_;clear hK K))|refine wG ?_|(refine wCR ?_;intro K hK)|fail)
      · skip
        rw [if_pos (by omega)] at e4
        refine ahA (ι := Nat × Array Int) (fun i => [(0, .val (.slice (some ⟨b, 0, none⟩) n cap)), (1, .val (.int .i64 lo)), (2, .val (.int .i64 hi)), (6, .val (.bool false)), (7, .val (.int .i64 (i3 : Nat))), (8, .val (.int .i64 (5 - ((s + 1 : Nat) : Int)))), (10, .val (.int .i64 (i.1 : Int)))])
          (fun i w' => Ext w0 w' ∧ i3 + 1 ≤ i.1 ∧ i.2.size = D0.size ∧ cpA w0 w' b cap n i.2 ∧ Go.Sort.shiftUp Go.Sort.ltInt hi i.1 i.2 = D4) (fun i => hi - i.1)
          (fun w2 e2 => ⟨(i3 + 1, D3), ⟨heX.trans e2, Nat.le_refl _, hs3, hoX.ext e2, e4.symm⟩, by dsimp only; exact (by repeat' (first | exact Sub.nil | refine Sub.val rfl (by first | with_reducible rfl | (congr 1; omega)) ?_ | refine Sub.same rfl ?_))⟩) ?_
        rintro ⟨j, D5⟩ w5 ⟨he5, hj5, hs5', ho5, hr5⟩
        dsimp only at hj5 hs5' ho5 hr5 ⊢
        have hl5 := apA D5
        clear heS hoS heS1 hoS1
        by_cases hjb : j < hi
        · cases hp : Go.Sort.ltInt D5[j]! D5[j - 1]!
          · rw [Go.Sort.shiftUp_stop (.inr hp)] at hr5
            subst hr5
            repeat' (first|(refine oLA ?_;first|refine a0A rfl ?_|(refine oD 112 ?_; refine a9A rfl rfl rfl (by dsimp only [fits]; omega) ?_; rw [show ((j : Int) - 1) = ((j - 1 : Nat) : Int) by omega])|(refine oI ?_; refine a6A rfl rfl (fun _ => rfl) rfl rfl _ rfl (by omega) ?_)|(refine oL ?_; refine aeA ho5 rfl (fun _ => rfl) rfl (by omega) ?_; rw [cbA])|refine wOp ?_|(refine wCm ?_ ?_<;>intro hc)|(refine oCv ?_;first|(refine oC 177 ?_; refine a3A (f := 177) rfl rfl rfl rfl  (.val (.bool false)) (by intro u1 u2 w e hu1 hu2; (try obtain rfl : u1 = _ := hu1); (try obtain rfl : u2 = _ := hu2); exact agA (by rw [hp]) (avA _ _ _)) ?_))|(refine wNl hK ?_;clear hK K))|refine wG ?_|(refine wCR ?_;intro K hK)|fail)
            exact a7A (s, i3, D5) (fun w6 e6 => ⟨he5.trans e6, by dsimp only; omega, hs4, ho5.ext e6, by dsimp only; omega, by dsimp only; omega, c3⟩) (by dsimp only; omega) (by dsimp only; exact (by repeat' (first | exact Sub.nil | refine Sub.val rfl (by first | with_reducible rfl | (congr 1; omega)) ?_ | refine Sub.same rfl ?_)))
          · rw [Go.Sort.shiftUp_go hjb hp] at hr5
            repeat' (first|(refine oLA ?_;first|refine wBk ?_|(refine oD 112 ?_; refine a9A rfl rfl rfl (by dsimp only [fits]; omega) ?_; rw [show ((j : Int) - 1) = ((j - 1 : Nat) : Int) by omega])|(refine oD 121 ?_; refine a9A rfl rfl rfl (by dsimp only [fits]; omega) ?_; rw [show ((j : Int) - 1) = ((j - 1 : Nat) : Int) by omega])|(refine oD 124 ?_; refine a9A rfl rfl rfl (by dsimp only [fits]; omega) ?_; rw [show ((j : Int) - 1) = ((j - 1 : Nat) : Int) by omega])|(refine oI ?_; refine a6A rfl rfl (fun _ => rfl) rfl rfl _ rfl (by omega) ?_)|(refine oL ?_; refine aeA ho5 rfl (fun _ => rfl) rfl (by omega) ?_; rw [cbA])|refine wOp ?_|(refine wCm ?_ ?_<;>intro hc)|(refine oCv ?_;first|(refine oC 177 ?_; refine a3A (f := 177) rfl rfl rfl rfl  (.val (.bool true)) (by intro u1 u2 w e hu1 hu2; (try obtain rfl : u1 = _ := hu1); (try obtain rfl : u2 = _ := hu2); exact agA (by rw [hp]) (avA _ _ _)) ?_))|(refine wNl hK ?_;clear hK K))|(refine oCX ?_;first|refine ajA (id := 23) [15, 17] (by kernel_rfl) (by kernel_rfl) (by kernel_rfl) (a5A ?_))|refine wG ?_|(refine wCR ?_;intro K hK)|refine wPh ?_|fail)
            refine afA (j := j) rfl he5 ho5 rfl rfl (by omega) (fun _ => rfl) (fun wS1 heS1 hoS1 => ?_)
            refine a5A ?_
            repeat' (first|(refine oLA ?_;first|refine wBk ?_|(refine oD 132 ?_; refine a6A rfl rfl (fun _ => rfl) rfl rfl ((j - 1)) (by omega) (by omega) ?_)|(refine oD 121 ?_; refine a9A rfl rfl rfl (by dsimp only [fits]; omega) ?_; rw [show ((j : Int) - 1) = ((j - 1 : Nat) : Int) by omega])|refine wOp ?_|(refine wCm ?_ ?_<;>intro hc)|(refine wNl hK ?_;clear hK K))|refine wG ?_|(refine wCR ?_;intro K hK)|refine wPh ?_|fail)
            refine afA (j := (j - 1)) rfl heS1 hoS1 rfl rfl (by rw [List.length_set]; omega) (fun _ => rfl) (fun wS heS hoS => ?_)
            rw [atA] at hoS
            refine aiA ?_
            repeat' (first|(refine oLA ?_;first|refine wBk ?_|refine wOp ?_|(refine wCm ?_ ?_<;>intro hc)|(refine wNl hK ?_;clear hK K))|refine wG ?_|(refine wCR ?_;intro K hK)|refine wPh ?_|fail)
            exact a7A (j + 1, Go.Sort.swp D5 j (j - 1)) (fun w6 e6 => ⟨heS.trans e6, by dsimp only; omega, by dsimp only; rw [swp_size]; exact hs5', hoS.ext e6, hr5⟩) (by dsimp only; omega) (by dsimp only; exact (by repeat' (first | exact Sub.nil | refine Sub.val rfl (by first | with_reducible rfl | (congr 1; omega)) ?_ | refine Sub.same rfl ?_)))
        · rw [Go.Sort.shiftUp_stop (.inl hjb)] at hr5
          subst hr5
          repeat' (first|(refine oLA ?_;first|refine a0A rfl ?_|refine wOp ?_|(refine wCm ?_ ?_<;>intro hc)|(refine wNl hK ?_;clear hK K))|refine wG ?_|(refine wCR ?_;intro K hK)|fail)
          exact a7A (s, i3, D5) (fun w6 e6 => ⟨he5.trans e6, by dsimp only; omega, hs4, ho5.ext e6, by dsimp only; omega, by dsimp only; omega, c3⟩) (by dsimp only; omega) (by dsimp only; exact (by repeat' (first | exact Sub.nil | refine Sub.val rfl (by first | with_reducible rfl | (congr 1; omega)) ?_ | refine Sub.same rfl ?_)))
      · skip
        rw [if_neg (by omega)] at e4
        rw [e4] at c3
        exact a7A (s, i3, D3) (fun w6 e6 => ⟨heX.trans e6, by dsimp only; omega, hs3, hoX.ext e6, by dsimp only; omega, by dsimp only; omega, c3⟩) (by dsimp only; omega) (by dsimp only; exact (by repeat' (first | exact Sub.nil | refine Sub.val rfl (by first | with_reducible rfl | (congr 1; omega)) ?_ | refine Sub.same rfl ?_)))
end Srt
end Go.Proofs.YtfcioiobhpcngaaGreatDoor
end
section
set_option linter.unusedSimpArgs false
set_option linter.unusedVariables false
set_option maxRecDepth 3000
namespace Go.Proofs.YtfcioiobhpcngaaGreatDoor
namespace Srt
open Go.LA Go.ArrP Go.RowKit
set_option maxHeartbeats 4000000 in
theorem urA {w : World} (n : Nat) (hn : n < 18446744073709551616) : Fc Tryz.prog 165 #[.int .u64 n] w (Ret w (.val (.int .i64 (Go.Sort.bitsLen n : Nat)))) := by
  have D32 : ∀ m : Nat, 4294967296 ≤ m → Go.Sort.bitsLen m = 32 + Go.Sort.bitsLen (m / 4294967296) := fun m h => Go.Sort.bitsLen_div (k := 32) h
  have D16 : ∀ m : Nat, 65536 ≤ m → Go.Sort.bitsLen m = 16 + Go.Sort.bitsLen (m / 65536) := fun m h => Go.Sort.bitsLen_div (k := 16) h
  have D8 : ∀ m : Nat, 256 ≤ m → Go.Sort.bitsLen m = 8 + Go.Sort.bitsLen (m / 256) := fun m h => Go.Sort.bitsLen_div (k := 8) h
  refine Fc.of (args := [_]) Tryz.func165 rfl rfl Tryz.ntmps165 (Nat.le_of_ble_eq_true rfl) ?_
  repeat' (first|(refine oLA ?_;first|refine a0A rfl ?_|(refine oD 22 ?_; refine xjA rfl rfl rfl rfl (by omega) (by omega) (by decide +kernel) (fun vT hT hT8 => ?_))|refine wOp ?_|(refine wCm ?_ ?_<;>intro hc)|(refine wNl hK ?_;clear hK K))|refine wG ?_|(refine wCR ?_;intro K hK)|fail)
  all_goals (refine abA rfl rfl (Ext.refl _) ?_; congr 1)
  · have z : ((n : Int) / 4294967296 / 65536 / 256).toNat = n / 4294967296 / 65536 / 256 := by omega
    rw [z] at hT
    have z2 : Go.Sort.bitsLen n = 56 + Go.Sort.bitsLen (n / 4294967296 / 65536 / 256) := by (rw [D32 _ (by omega), D16 _ (by omega), D8 _ (by omega)]) <;> omega
    omega
  · have z : ((n : Int) / 4294967296 / 65536).toNat = n / 4294967296 / 65536 := by omega
    rw [z] at hT
    have z2 : Go.Sort.bitsLen n = 48 + Go.Sort.bitsLen (n / 4294967296 / 65536) := by (rw [D32 _ (by omega), D16 _ (by omega)]) <;> omega
    omega
  · have z : ((n : Int) / 4294967296 / 256).toNat = n / 4294967296 / 256 := by omega
    rw [z] at hT
    have z2 : Go.Sort.bitsLen n = 40 + Go.Sort.bitsLen (n / 4294967296 / 256) := by (rw [D32 _ (by omega), D8 _ (by omega)]) <;> omega
    omega
  · have z : ((n : Int) / 4294967296).toNat = n / 4294967296 := by omega
    rw [z] at hT
    have z2 : Go.Sort.bitsLen n = 32 + Go.Sort.bitsLen (n / 4294967296) := by (rw [D32 _ (by omega)]) <;> omega
    omega
  · have z : ((n : Int) / 65536 / 256).toNat = n / 65536 / 256 := by omega
    rw [z] at hT
    have z2 : Go.Sort.bitsLen n = 24 + Go.Sort.bitsLen (n / 65536 / 256) := by (rw [D16 _ (by omega), D8 _ (by omega)]) <;> omega
    omega
  · have z : ((n : Int) / 65536).toNat = n / 65536 := by omega
    rw [z] at hT
    have z2 : Go.Sort.bitsLen n = 16 + Go.Sort.bitsLen (n / 65536) := by (rw [D16 _ (by omega)]) <;> omega
    omega
  · have z : ((n : Int) / 256).toNat = n / 256 := by omega
    rw [z] at hT
    have z2 : Go.Sort.bitsLen n = 8 + Go.Sort.bitsLen (n / 256) := by (rw [D8 _ (by omega)]) <;> omega
    omega
  · have z : ((n : Int)).toNat = n := by omega
    rw [z] at hT
    have z2 : Go.Sort.bitsLen n = 0 + Go.Sort.bitsLen (n) := by omega
    omega
theorem hsA {w : World} (n : Nat) (hn : n < 18446744073709551616) : Fc Tryz.prog 113 #[.int .u64 n] w (Ret w (.val (.int .i64 (Go.Sort.bitsLen n : Nat)))) := by
  refine Fc.of (args := [_]) Tryz.func113 rfl rfl Tryz.ntmps113 (Nat.le_of_ble_eq_true rfl) ?_
  repeat' (first|(refine oLA ?_;first|refine a0A rfl ?_|refine wOp ?_|(refine wCm ?_ ?_<;>intro hc)|(refine oCv ?_;first|(refine oC 165 ?_; refine a1A (f := 165) rfl rfl rfl  (.val (.int .i64 (Go.Sort.bitsLen n : Nat))) (by intro u1 w e hu1; (try obtain rfl : u1 = _ := hu1); exact urA n hn) ?_))|(refine wNl hK ?_;clear hK K))|refine wG ?_|(refine wCR ?_;intro K hK)|fail)
  exact abA rfl rfl (Ext.refl _) rfl
theorem t7A {w : World} (n : Nat) (hn : n < 4611686018427387904) : Fc Tryz.prog 194 #[.int .i64 n] w (Ret w (.val (.int .u64 ((2 ^ Go.Sort.bitsLen n : Nat) : Int)))) := by
  have hb := (Go.Sort.bitsLen_le_iff n 62).2 (by omega)
  refine Fc.of (args := [_]) Tryz.func194 rfl rfl Tryz.ntmps194 (Nat.le_of_ble_eq_true rfl) ?_
  repeat' (first|(refine oLA ?_;first|refine a0A rfl ?_|refine wOp ?_|(refine wCm ?_ ?_<;>intro hc)|(refine oCv ?_;first|(refine oC 113 ?_; refine a1A (f := 113) rfl rfl rfl  (.val (.int .i64 (Go.Sort.bitsLen n : Nat))) (by intro u1 w e hu1; (try obtain rfl : u1 = _ := hu1); exact hsA n (by omega)) ?_))|(refine wNl hK ?_;clear hK K))|refine wG ?_|(refine wCR ?_;intro K hK)|fail)
  refine abA rfl rfl (Ext.refl _) ?_
  congr 1
  rw [IntKind.wrap_u64, Int.toNat_natCast, Int.one_mul]
  have := Nat.pow_le_pow_right (n := 2) (by omega) hb
  rw [show ((2 : Int) ^ Go.Sort.bitsLen n) = ((2 ^ Go.Sort.bitsLen n : Nat) : Int) by push_cast; rfl]
  generalize 2 ^ Go.Sort.bitsLen n = p at *
  omega
end Srt
end Go.Proofs.YtfcioiobhpcngaaGreatDoor
end
section
set_option linter.unusedSimpArgs false
set_option linter.unusedVariables false
set_option maxRecDepth 3000
namespace Go.Proofs.YtfcioiobhpcngaaGreatDoor
namespace Srt
open Go.LA Go.ArrP Go.RowKit
set_option maxHeartbeats 4000000 in
theorem n5A {w0 w : World} {rb e2 : Nat} {kd2 : IntKind} {v2 : Value} {ys : List Int} {r : Int} (he : Ext w0 w) (hr : OwnI w0.heap.size 191 .u64 w (.slice (some ⟨rb, 0, none⟩) 1 1) [r]) (h0 : 0 ≤ r ∧ r < 18446744073709551616) (ho : OwnI w0.heap.size e2 kd2 w v2 ys) (hne : e2 ≠ 191) :
    Fc Tryz.prog 195 #[.pointer (some ⟨rb, 0, none⟩)] w (fun e w' => ∃ c : Nat, e = .returned (.int .u64 c) ∧ c < 18446744073709551616 ∧ Ext w0 w' ∧ OwnI w0.heap.size 191 .u64 w' (.slice (some ⟨rb, 0, none⟩) 1 1) [(c : Int)] ∧ OwnI w0.heap.size e2 kd2 w' v2 ys) := by
  refine Fc.of (args := [_]) Tryz.func195 rfl rfl Tryz.ntmps195 (Nat.le_of_ble_eq_true rfl) ?_
  repeat' (first|(refine oLA ?_;first|refine wBk ?_|(refine akA rfl rfl ?_)|(refine oL ?_; refine aeA hr rfl (fun _ => rfl) rfl (by exact Nat.zero_lt_one) ?_; rw [show [r].getD 0 0 = r from rfl])|(refine oD 10 ?_; refine kxA rfl rfl rfl (fun c1 hc1 => ?_) (by omega) (by rw [IntKind.wrap_u64]; omega))|refine wOp ?_|(refine wCm ?_ ?_<;>intro hc)|(refine wNl hK ?_;clear hK K))|(refine oCX ?_;first|refine ajA (id := 1) [9] (by kernel_rfl) (by kernel_rfl) (by kernel_rfl) (a5A ?_))|refine wG ?_|(refine wCR ?_;intro K hK)|refine wPh ?_|fail)
  refine fiA (j := 0) rfl he hr ho hne rfl rfl (by exact Nat.zero_lt_one) (fun _ => rfl) (fun w1 he1 hr1 ho1 => ?_)
  replace hr1 : OwnI w0.heap.size 191 .u64 w1 (.slice (some ⟨rb, 0, none⟩) 1 1) [(c1 : Int)] := hr1
  refine aiA ?_
  repeat' (first|(refine oLA ?_;first|refine wBk ?_|(refine akA rfl rfl ?_)|(refine oL ?_; refine aeA hr1 rfl (fun _ => rfl) rfl (by exact Nat.zero_lt_one) ?_; rw [show [(c1 : Int)].getD 0 0 = (c1 : Int) from rfl])|(refine oD 19 ?_; refine kxA rfl rfl rfl (fun c2 hc2 => ?_) (by omega) (by omega))|refine wOp ?_|(refine wCm ?_ ?_<;>intro hc)|(refine wNl hK ?_;clear hK K))|(refine oCX ?_;first|refine ajA (id := 2) [9] (by kernel_rfl) (by kernel_rfl) (by kernel_rfl) (a5A ?_))|refine wG ?_|(refine wCR ?_;intro K hK)|refine wPh ?_|fail)
  refine fiA (j := 0) rfl he1 hr1 ho1 hne rfl rfl (by exact Nat.zero_lt_one) (fun _ => rfl) (fun w2 he2 hr2 ho2 => ?_)
  replace hr2 : OwnI w0.heap.size 191 .u64 w2 (.slice (some ⟨rb, 0, none⟩) 1 1) [(c2 : Int)] := hr2
  refine aiA ?_
  repeat' (first|(refine oLA ?_;first|refine wBk ?_|(refine akA rfl rfl ?_)|(refine oL ?_; refine aeA hr2 rfl (fun _ => rfl) rfl (by exact Nat.zero_lt_one) ?_; rw [show [(c2 : Int)].getD 0 0 = (c2 : Int) from rfl])|(refine oD 28 ?_; refine kxA rfl rfl rfl (fun c3 hc3 => ?_) (by omega) (by rw [IntKind.wrap_u64]; omega))|refine wOp ?_|(refine wCm ?_ ?_<;>intro hc)|(refine wNl hK ?_;clear hK K))|(refine oCX ?_;first|refine ajA (id := 3) [9] (by kernel_rfl) (by kernel_rfl) (by kernel_rfl) (a5A ?_))|refine wG ?_|(refine wCR ?_;intro K hK)|refine wPh ?_|fail)
  refine fiA (j := 0) rfl he2 hr2 ho2 hne rfl rfl (by exact Nat.zero_lt_one) (fun _ => rfl) (fun w3 he3 hr3 ho3 => ?_)
  replace hr3 : OwnI w0.heap.size 191 .u64 w3 (.slice (some ⟨rb, 0, none⟩) 1 1) [(c3 : Int)] := hr3
  refine aiA ?_
  repeat' (first|(refine oLA ?_;first|refine wBk ?_|(refine akA rfl rfl ?_)|(refine oL ?_; refine aeA hr3 rfl (fun _ => rfl) rfl (by exact Nat.zero_lt_one) ?_; rw [show [(c3 : Int)].getD 0 0 = (c3 : Int) from rfl])|refine wOp ?_|(refine wCm ?_ ?_<;>intro hc)|(refine wNl hK ?_;clear hK K))|refine wG ?_|(refine wCR ?_;intro K hK)|refine wPh ?_|fail)
  exact blA rfl (fun x w5 e5 hx => by obtain rfl : x = _ := hx; exact ⟨c3, rfl, hc3, he3.trans e5, hr3.ext e5, ho3.ext e5⟩)
end Srt
end Go.Proofs.YtfcioiobhpcngaaGreatDoor
end
section
set_option linter.unusedSimpArgs false
set_option linter.unusedVariables false
set_option maxRecDepth 3000
namespace Go.Proofs.YtfcioiobhpcngaaGreatDoor
namespace Srt
open Go.LA Go.ArrP Go.RowKit
set_option maxHeartbeats 16000000 in
theorem viA {w0 w : World} {b cap n : Nat} {D0 : Array Int} (he0 : Ext w0 w) (ho0 : cpA w0 w b cap n D0) (hn : n = D0.size) (lo hi : Nat) (h1 : lo ≤ hi) (h2 : hi ≤ D0.size) (hb : D0.size < 4611686018427387904) :
    Fc Tryz.prog 186 #[.slice (some ⟨b, 0, none⟩) n cap, .int .i64 lo, .int .i64 hi] w (fun e w' => e = .returned (.tuple #[]) ∧ Ext w0 w' ∧ ∃ D', Go.Sort.PermIn lo hi D0 D' ∧ cpA w0 w' b cap n D') := by
  obtain ⟨L, hL⟩ : ∃ L, L = hi - lo := ⟨_, rfl⟩
  have hl0 := apA D0
  by_cases h8 : 8 ≤ L
  · obtain ⟨M, hM⟩ : ∃ M, M = 2 ^ Go.Sort.bitsLen L := ⟨_, rfl⟩
    have hM1 : 0 < M := by rw [hM]; exact Nat.two_pow_pos _
    have hM2 : M ≤ 2 * L := by rw [hM]; exact Go.Sort.two_pow_bitsLen_le (by omega)
    have hnp := fun w => t7A (w := w) L (by omega)
    rw [← hM] at hnp
    refine Fc.of (args := [_, _, _]) Tryz.func186 rfl rfl Tryz.ntmps186 (Nat.le_of_ble_eq_true rfl) ?_
    repeat' (first|(refine oLA ?_;first|refine a0A rfl ?_|(refine oD 13 ?_; refine a9A rfl rfl rfl (by dsimp only [fits]; omega) ?_; rw [show ((hi : Int) - lo) = (L : Int) by omega])|(refine oD 7 ?_; refine a4A (hK _ _ (c7A rfl rfl (by decide) (fun _ => rfl) (fun _ => rfl) (fun _ => rfl) rfl (by intro u hu; simp [Value.cells] at hu; subst hu; rfl) (fun rb wx ex hbx hbc => ?_))); clear hK K)|refine wOp ?_|(refine wCm ?_ ?_<;>intro hc)|(refine oCv ?_;first|(refine oC 194 ?_; refine a1A (f := 194) rfl rfl rfl  (.val (.int .u64 (M : Int))) (by intro u1 w e hu1; (try obtain rfl : u1 = _ := hu1); exact hnp _) ?_))|(refine wNl hK ?_;clear hK K))|refine wG ?_|(refine wCR ?_;intro K hK)|fail)
    have heX : Ext w0 wx := he0.trans ex
    have hr : OwnI w0.heap.size 191 .u64 wx (.slice (some ⟨rb, 0, none⟩) 1 1) [(L : Int)] := ⟨rfl, .inr ⟨rb, 1, _, rfl, Nat.le_trans he0.size hbx, hbc, Nat.le_refl _, by decide, rfl, rfl⟩⟩
    have hoX : cpA w0 wx b cap n D0 := ho0.ext ex
    refine ahA (ι := Nat × Array Int × Nat) (fun i => [(0, .val (.slice (some ⟨b, 0, none⟩) n cap)), (1, .val (.int .i64 lo)), (6, .val (.int .i64 (L : Int))), (7, .val (.pointer (some ⟨rb, 0, none⟩))), (8, .val (.int .u64 (M : Int))), (9, .val (.int .i64 ((lo + L / 4 * 2 - 1 + i.1 : Nat) : Int)))])
      (fun i w' => Ext w0 w' ∧ i.1 ≤ 3 ∧ Go.Sort.PermIn lo hi D0 i.2.1 ∧ cpA w0 w' b cap n i.2.1 ∧ i.2.2 < 18446744073709551616 ∧ OwnI w0.heap.size 191 .u64 w' (.slice (some ⟨rb, 0, none⟩) 1 1) [(i.2.2 : Int)]) (fun i => 3 - i.1)
      (fun w2 e2 => ⟨(0, D0, L), ⟨heX.trans e2, Nat.zero_le _, Go.Sort.permIn_refl _ _ _, hoX.ext e2, by dsimp only; omega, hr.ext e2⟩, by dsimp only; exact (by repeat' (first | exact Sub.nil | refine Sub.val rfl (by first | with_reducible rfl | (congr 1; omega)) ?_ | refine Sub.same rfl ?_))⟩) ?_
    rintro ⟨t, D, r⟩ w1 ⟨he1, ht3, hp1, ho1, hr1, hw1⟩
    dsimp only at ht3 hp1 ho1 hr1 hw1 ⊢
    have hs1 : D.size = D0.size := hp1.1
    have hl1 := apA D
    clear heX hr hoX
    by_cases ht : t < 3
    · have q0 : True := trivial
      repeat' (first|(refine oLA ?_;first|refine a0A rfl ?_|(refine oD 36 ?_; refine a4A (hK _ _ (fpA (f := 195) rfl (by decide) rfl rfl (fun v w' => ∃ c : Nat, v = .int .u64 (c : Int) ∧ c < 18446744073709551616 ∧ Ext w0 w' ∧ OwnI w0.heap.size 191 .u64 w' (.slice (some ⟨rb, 0, none⟩) 1 1) [(c : Int)] ∧ cpA w0 w' b cap n D) (fun w' e => (n5A (he1.trans e) (hw1.ext e) (by omega) (ho1.ext e) (by decide)).mono (by rintro e5 w5 ⟨c, h1, h2⟩; exact ⟨_, h1, c, rfl, h2⟩)) (fun v w2 hv => ?_))); clear hK K; obtain ⟨c, rfl, hcB, he2, hr2, ho2⟩ := hv)|(refine oD 38 ?_; refine a9A rfl rfl rfl (by dsimp only [fits]; omega) ?_; rw [show ((M : Int) - 1) = ((M - 1 : Nat) : Int) by omega])|(refine oD 39 ?_; refine pyA rfl rfl rfl (fun q hq => ?_) (by omega) (by omega))|(refine oD 46 ?_; refine a9A rfl rfl rfl (by dsimp only [fits]; omega) ?_; rw [show ((q : Int) - L) = ((q - L : Nat) : Int) by omega])|refine wOp ?_|(refine wCm ?_ ?_<;>intro hc)|(refine wNl hK ?_;clear hK K))|(refine oCX ?_;first|refine cqA (id := 8) (ι := Nat) (fun o => [(0, .val (.slice (some ⟨b, 0, none⟩) n cap)), (1, .val (.int .i64 lo)), (6, .val (.int .i64 (L : Int))), (7, .val (.pointer (some ⟨rb, 0, none⟩))), (8, .val (.int .u64 (M : Int))), (9, .val (.int .i64 ((lo + L / 4 * 2 - 1 + t : Nat) : Int))), (10, .val (.int .i64 (o : Int)))]) (fun o w' => Ext w0 w' ∧ o < L ∧ (∃ c3 : Nat, c3 < 18446744073709551616 ∧ OwnI w0.heap.size 191 .u64 w' (.slice (some ⟨rb, 0, none⟩) 1 1) [(c3 : Int)]) ∧ cpA w0 w' b cap n D) ?_ ?_)|refine wG ?_|(refine wCR ?_;intro K hK)|(refine oLX ?_;first|(refine amA rfl ?_; intro K hK))|fail)
      · exact a7A (q - L) (fun w6 e6 => ⟨he2.trans e6, by omega, ⟨c, hcB, hr2.ext e6⟩, ho2.ext e6⟩) (by omega) (by repeat' (first | exact Sub.nil | refine Sub.val rfl (by first | with_reducible rfl | (congr 1; omega)) ?_ | refine Sub.same rfl ?_))
      · exact a7A q (fun w6 e6 => ⟨he2.trans e6, by omega, ⟨c, hcB, hr2.ext e6⟩, ho2.ext e6⟩) (by omega) (by repeat' (first | exact Sub.nil | refine Sub.val rfl (by first | with_reducible rfl | (congr 1; omega)) ?_ | refine Sub.same rfl ?_))
      · rintro o w3 ⟨he3, ho, ⟨c3, hc3, hr3⟩, ho3⟩
        repeat' (first|(refine oLA ?_;first|refine wBk ?_|(refine oI ?_; refine a6A rfl rfl (fun _ => rfl) rfl rfl _ rfl (by omega) ?_)|(refine oL ?_; refine aeA ho3 rfl (fun _ => rfl) rfl (by omega) ?_; rw [cbA])|(refine oD 52 ?_; refine ayA rfl rfl rfl (by dsimp only [fits]; omega) ?_; rw [show ((lo : Int) + o) = ((lo + o : Nat) : Int) by omega])|(refine oD 56 ?_; refine ayA rfl rfl rfl (by dsimp only [fits]; omega) ?_; rw [show ((lo : Int) + o) = ((lo + o : Nat) : Int) by omega])|refine wOp ?_|(refine wCm ?_ ?_<;>intro hc)|(refine wNl hK ?_;clear hK K))|(refine oCX ?_;first|refine ajA (id := 10) [17, 19] (by kernel_rfl) (by kernel_rfl) (by kernel_rfl) (a5A ?_))|refine wG ?_|(refine wCR ?_;intro K hK)|refine wPh ?_|fail)
        refine fiA (j := lo + L / 4 * 2 - 1 + t) rfl he3 ho3 hr3 (by decide) rfl rfl (by omega) (fun _ => rfl) (fun wS1 heS1 hoS1 hrS1 => ?_)
        refine a5A ?_
        repeat' (first|(refine oLA ?_;first|refine wBk ?_|(refine oD 64 ?_; refine a6A rfl rfl (fun _ => rfl) rfl rfl (lo + o) (by omega) (by omega) ?_)|(refine oD 52 ?_; refine ayA rfl rfl rfl (by dsimp only [fits]; omega) ?_; rw [show ((lo : Int) + o) = ((lo + o : Nat) : Int) by omega])|refine wOp ?_|(refine wCm ?_ ?_<;>intro hc)|(refine wNl hK ?_;clear hK K))|refine wG ?_|(refine wCR ?_;intro K hK)|refine wPh ?_|fail)
        refine fiA (j := lo + o) rfl heS1 hoS1 hrS1 (by decide) rfl rfl (by rw [List.length_set]; omega) (fun _ => rfl) (fun wS heS hoS hrS => ?_)
        rw [atA] at hoS
        refine aiA ?_
        repeat' (first|(refine oLA ?_;first|refine wBk ?_|refine wOp ?_|(refine wCm ?_ ?_<;>intro hc)|(refine wNl hK ?_;clear hK K))|refine wG ?_|(refine wCR ?_;intro K hK)|refine wPh ?_|fail)
        exact a7A (t + 1, Go.Sort.swp D (lo + L / 4 * 2 - 1 + t) (lo + o), c3) (fun w6 e6 => ⟨heS.trans e6, by dsimp only; omega, Go.Sort.permIn_trans _ _ _ _ _ hp1 (Go.Sort.swp_permIn _ _ _ _ _ (by omega) (by omega) (by omega) (by omega) (by omega)), hoS.ext e6, hc3, hrS.ext e6⟩) (by dsimp only; omega) (by dsimp only; exact (by repeat' (first | exact Sub.nil | refine Sub.val rfl (by first | with_reducible rfl | (congr 1; omega)) ?_ | refine Sub.same rfl ?_)))
    · have q0 : True := trivial
      repeat' (first|(refine oLA ?_;first|refine a0A rfl ?_|refine wOp ?_|(refine wCm ?_ ?_<;>intro hc)|(refine wNl hK ?_;clear hK K))|refine wG ?_|(refine wCR ?_;intro K hK)|fail)
      exact b2A rfl (fun w5 e5 => ⟨rfl, he1.trans e5, D, hp1, ho1.ext e5⟩) (.inl rfl)
  · have q0 : True := trivial
    refine Fc.of (args := [_, _, _]) Tryz.func186 rfl rfl Tryz.ntmps186 (Nat.le_of_ble_eq_true rfl) ?_
    repeat' (first|(refine oLA ?_;first|refine a0A rfl ?_|refine wOp ?_|(refine wCm ?_ ?_<;>intro hc)|(refine wNl hK ?_;clear hK K))|refine wG ?_|(refine wCR ?_;intro K hK)|fail)
    exact b2A rfl (fun w5 e5 => ⟨rfl, he0.trans e5, D0, Go.Sort.permIn_refl _ _ _, ho0.ext e5⟩) (.inl rfl)
end Srt
end Go.Proofs.YtfcioiobhpcngaaGreatDoor
end
section
set_option linter.unusedSimpArgs false
set_option linter.unusedVariables false
set_option maxRecDepth 3000
namespace Go.Proofs.YtfcioiobhpcngaaGreatDoor
namespace Srt
open Go.LA Go.ArrP Go.RowKit
def Sw (w0 w : World) (sb : Nat) : Prop := ∃ s, OwnI w0.heap.size 3 .i64 w (.slice (some ⟨sb, 0, none⟩) 1 1) [s]
theorem Sw.ext {w0 w w' : World} {sb : Nat} (h : Sw w0 w sb) (e : Ext w w') : Sw w0 w' sb := by obtain ⟨s, h⟩ := h; exact ⟨s, h.ext e⟩
set_option maxHeartbeats 4000000 in
theorem iiA {w0 w : World} {b cap n sb : Nat} {D : Array Int} (he0 : Ext w0 w) (ho0 : cpA w0 w b cap n D) (hs0 : Sw w0 w sb) (hn : n = D.size) (hb : D.size < 4611686018427387904) (lo hi : Nat) (h2 : hi ≤ D.size) (x y : Nat) (hx : lo ≤ x ∧ x < hi) (hy : lo ≤ y ∧ y < hi) :
    Fc Tryz.prog 206 #[(.slice (some ⟨b, 0, none⟩) n cap), .int .i64 x, .int .i64 y, (.pointer (some ⟨sb, 0, none⟩))] w (fun e w' => ∃ p q : Nat, e = .returned (.tuple #[.int .i64 p, .int .i64 q]) ∧ (lo ≤ p ∧ p < hi) ∧ (lo ≤ q ∧ q < hi) ∧ Ext w0 w' ∧ cpA w0 w' b cap n D ∧ Sw w0 w' sb) := by
  have hl := apA D
  obtain ⟨s, hs⟩ := hs0
  cases hp : Go.Sort.ltInt D[y]! D[x]!
  · have q0 : True := trivial
    refine Fc.of (args := [_, _, _, _]) Tryz.func206 rfl rfl Tryz.ntmps206 (Nat.le_of_ble_eq_true rfl) ?_
    repeat' (first|(refine oLA ?_;first|refine a0A rfl ?_|(refine oI ?_; refine a6A rfl rfl (fun _ => rfl) rfl rfl _ rfl (by omega) ?_)|(refine oL ?_; refine aeA ho0 rfl (fun _ => rfl) rfl (by omega) ?_; rw [cbA])|refine wOp ?_|(refine wCm ?_ ?_<;>intro hc)|(refine oCv ?_;first|(refine oC 177 ?_; refine a3A (f := 177) rfl rfl rfl rfl  (.val (.bool false)) (by intro u1 u2 w e hu1 hu2; (try obtain rfl : u1 = _ := hu1); (try obtain rfl : u2 = _ := hu2); exact agA (by rw [hp]) (avA _ _ _)) ?_))|(refine wNl hK ?_;clear hK K))|refine wG ?_|(refine wCR ?_;intro K hK)|fail)
    exact dqA rfl (fun u v w5 e5 hu hv => by obtain rfl : u = _ := hu; obtain rfl : v = _ := hv; exact ⟨x, y, rfl, hx, hy, he0.trans e5, ho0.ext e5, s, hs.ext e5⟩)
  · have q0 : True := trivial
    refine Fc.of (args := [_, _, _, _]) Tryz.func206 rfl rfl Tryz.ntmps206 (Nat.le_of_ble_eq_true rfl) ?_
    repeat' (first|(refine oLA ?_;first|refine a0A rfl ?_|(refine oD 21 ?_; refine aeA hs rfl (fun _ => rfl) rfl (by exact Nat.zero_lt_one) ?_; rw [show [s].getD 0 0 = s from rfl])|(refine oD 22 ?_; refine l2A rfl rfl rfl ?_)|(refine akA rfl rfl ?_)|(refine oSt ?_; refine a4A (hK _ _ (piA (j := 0) rfl he0 hs ho0 (by decide) rfl rfl (by exact Nat.zero_lt_one) (fun _ => rfl) (fun w1 he1 hs1 ho1 => ?_))); clear hK K)|(refine oI ?_; refine a6A rfl rfl (fun _ => rfl) rfl rfl _ rfl (by omega) ?_)|(refine oL ?_; refine aeA ho0 rfl (fun _ => rfl) rfl (by omega) ?_; rw [cbA])|refine wOp ?_|(refine wCm ?_ ?_<;>intro hc)|(refine oCv ?_;first|(refine oC 177 ?_; refine a3A (f := 177) rfl rfl rfl rfl  (.val (.bool true)) (by intro u1 u2 w e hu1 hu2; (try obtain rfl : u1 = _ := hu1); (try obtain rfl : u2 = _ := hu2); exact agA (by rw [hp]) (avA _ _ _)) ?_))|(refine wNl hK ?_;clear hK K))|refine wG ?_|(refine wCR ?_;intro K hK)|fail)
    exact dqA rfl (fun u v w5 e5 hu hv => by obtain rfl : u = _ := hu; obtain rfl : v = _ := hv; exact ⟨y, x, rfl, hy, hx, he1.trans e5, ho1.ext e5, _, OwnI.ext hs1 e5⟩)
set_option maxHeartbeats 4000000 in
theorem o8A {w0 w : World} {b cap n sb : Nat} {D : Array Int} (he0 : Ext w0 w) (ho0 : cpA w0 w b cap n D) (hs0 : Sw w0 w sb) (hn : n = D.size) (hb : D.size < 4611686018427387904) (lo hi : Nat) (h2 : hi ≤ D.size) (x y z : Nat) (hx : lo ≤ x ∧ x < hi) (hy : lo ≤ y ∧ y < hi) (hz : lo ≤ z ∧ z < hi) :
    Fc Tryz.prog 204 #[(.slice (some ⟨b, 0, none⟩) n cap), .int .i64 x, .int .i64 y, .int .i64 z, (.pointer (some ⟨sb, 0, none⟩))] w (fun e w' => ∃ p : Nat, e = .returned (.int .i64 p) ∧ (lo ≤ p ∧ p < hi) ∧ Ext w0 w' ∧ cpA w0 w' b cap n D ∧ Sw w0 w' sb) := by
  refine Fc.of (args := [_, _, _, _, _]) Tryz.func204 rfl rfl Tryz.ntmps204 (Nat.le_of_ble_eq_true rfl) ?_
  repeat' (first|(refine oLA ?_;first|refine a0A rfl ?_|(refine oD 16 ?_; refine a4A (hK _ _ (d5A (f := 206) rfl (by decide) rfl rfl rfl rfl rfl (fun v w' => ∃ p q : Nat, v = .tuple #[.int .i64 p, .int .i64 q] ∧ (lo ≤ p ∧ p < hi) ∧ (lo ≤ q ∧ q < hi) ∧ Ext w0 w' ∧ cpA w0 w' b cap n D ∧ Sw w0 w' sb) (fun w' e => (iiA (he0.trans e) (ho0.ext e) (hs0.ext e) hn hb lo hi h2 x y (by omega) (by omega)).mono (by rintro e5 w5 ⟨p, q, h1, h2⟩; exact ⟨_, h1, p, q, rfl, h2⟩)) (fun v w1 hv => ?_))); clear hK K; obtain ⟨p1, q1, rfl, bp1, bq1, he1, ho1, hs1⟩ := hv)|(refine oD 24 ?_; refine a4A (hK _ _ (d5A (f := 206) rfl (by decide) rfl rfl rfl rfl rfl (fun v w' => ∃ p q : Nat, v = .tuple #[.int .i64 p, .int .i64 q] ∧ (lo ≤ p ∧ p < hi) ∧ (lo ≤ q ∧ q < hi) ∧ Ext w0 w' ∧ cpA w0 w' b cap n D ∧ Sw w0 w' sb) (fun w' e => (iiA (he1.trans e) (ho1.ext e) (hs1.ext e) hn hb lo hi h2 q1 z (by omega) (by omega)).mono (by rintro e5 w5 ⟨p, q, h1, h2⟩; exact ⟨_, h1, p, q, rfl, h2⟩)) (fun v w2 hv => ?_))); clear hK K; obtain ⟨p2, q2, rfl, bp2, bq2, he2, ho2, hs2⟩ := hv)|(refine oD 32 ?_; refine a4A (hK _ _ (d5A (f := 206) rfl (by decide) rfl rfl rfl rfl rfl (fun v w' => ∃ p q : Nat, v = .tuple #[.int .i64 p, .int .i64 q] ∧ (lo ≤ p ∧ p < hi) ∧ (lo ≤ q ∧ q < hi) ∧ Ext w0 w' ∧ cpA w0 w' b cap n D ∧ Sw w0 w' sb) (fun w' e => (iiA (he2.trans e) (ho2.ext e) (hs2.ext e) hn hb lo hi h2 p1 p2 (by omega) (by omega)).mono (by rintro e5 w5 ⟨p, q, h1, h2⟩; exact ⟨_, h1, p, q, rfl, h2⟩)) (fun v w3 hv => ?_))); clear hK K; obtain ⟨p3, q3, rfl, bp3, bq3, he3, ho3, hs3⟩ := hv)|(refine c5A rfl rfl ?_)|(refine c4A rfl rfl ?_)|refine wOp ?_|(refine wCm ?_ ?_<;>intro hc)|(refine wNl hK ?_;clear hK K))|refine wG ?_|(refine wCR ?_;intro K hK)|(refine oLX ?_;first|(refine amA rfl ?_; intro K hK))|fail)
  exact blA rfl (fun u w5 e5 hu => by obtain rfl : u = _ := hu; exact ⟨q3, rfl, bq3, he3.trans e5, ho3.ext e5, hs3.ext e5⟩)
theorem imA {w0 w : World} {b cap n sb : Nat} {D : Array Int} (he0 : Ext w0 w) (ho0 : cpA w0 w b cap n D) (hs0 : Sw w0 w sb) (hn : n = D.size) (hb : D.size < 4611686018427387904) (lo hi : Nat) (h2 : hi ≤ D.size) (x : Nat) (hx : lo + 1 ≤ x ∧ x + 1 < hi) :
    Fc Tryz.prog 203 #[(.slice (some ⟨b, 0, none⟩) n cap), .int .i64 x, (.pointer (some ⟨sb, 0, none⟩))] w (fun e w' => ∃ p : Nat, e = .returned (.int .i64 p) ∧ (lo ≤ p ∧ p < hi) ∧ Ext w0 w' ∧ cpA w0 w' b cap n D ∧ Sw w0 w' sb) := by
  refine Fc.of (args := [_, _, _]) Tryz.func203 rfl rfl Tryz.ntmps203 (Nat.le_of_ble_eq_true rfl) ?_
  repeat' (first|(refine oLA ?_;first|refine a0A rfl ?_|(refine oD 9 ?_; refine a9A rfl rfl rfl (by dsimp only [fits]; omega) ?_; rw [show ((x : Int) - 1) = ((x - 1 : Nat) : Int) by omega])|(refine oD 12 ?_; refine ayA rfl rfl rfl (by dsimp only [fits]; omega) ?_; rw [show ((x : Int) + 1) = ((x + 1 : Nat) : Int) by omega])|(refine oD 14 ?_; refine a4A (hK _ _ (gkA (f := 204) rfl (by decide) rfl rfl rfl rfl rfl rfl (fun v w' => ∃ p : Nat, v = .int .i64 p ∧ (lo ≤ p ∧ p < hi) ∧ Ext w0 w' ∧ cpA w0 w' b cap n D ∧ Sw w0 w' sb) (fun w' e => (o8A (he0.trans e) (ho0.ext e) (hs0.ext e) hn hb lo hi h2 (x - 1) x (x + 1) (by omega) (by omega) (by omega)).mono (by rintro e5 w5 ⟨p, h1, h2⟩; exact ⟨_, h1, p, rfl, h2⟩)) (fun v w1 hv => ?_))); clear hK K; obtain ⟨p, rfl, bp, he1, ho1, hs1⟩ := hv)|(refine c5A rfl rfl ?_)|(refine c4A rfl rfl ?_)|refine wOp ?_|(refine wCm ?_ ?_<;>intro hc)|(refine wNl hK ?_;clear hK K))|refine wG ?_|(refine wCR ?_;intro K hK)|(refine oLX ?_;first|(refine amA rfl ?_; intro K hK))|fail)
  exact blA rfl (fun u w5 e5 hu => by obtain rfl : u = _ := hu; exact ⟨p, rfl, bp, he1.trans e5, ho1.ext e5, hs1.ext e5⟩)
end Srt
end Go.Proofs.YtfcioiobhpcngaaGreatDoor
end
section
set_option linter.unusedSimpArgs false
set_option linter.unusedVariables false
set_option maxRecDepth 3000
namespace Go.Proofs.YtfcioiobhpcngaaGreatDoor
namespace Srt
open Go.LA Go.ArrP Go.RowKit
set_option maxHeartbeats 8000000 in
theorem vdA {w0 w : World} {b cap n : Nat} {D : Array Int} (he0 : Ext w0 w) (ho0 : cpA w0 w b cap n D) (hn : n = D.size) (hb : D.size < 4611686018427387904) (lo hi : Nat) (h1 : lo < hi) (h2 : hi ≤ D.size) :
    Fc Tryz.prog 187 #[(.slice (some ⟨b, 0, none⟩) n cap), .int .i64 lo, .int .i64 hi] w (fun e w' => ∃ (p : Nat) (h : Int), e = .returned (.tuple #[.int .i64 p, .int .i64 h]) ∧ (lo ≤ p ∧ p < hi) ∧ Ext w0 w' ∧ cpA w0 w' b cap n D) := by
  obtain ⟨L, hL⟩ : ∃ L, L = hi - lo := ⟨_, rfl⟩
  refine Fc.of (args := [_, _, _]) Tryz.func187 rfl rfl Tryz.ntmps187 (Nat.le_of_ble_eq_true rfl) ?_
  repeat' (first|(refine oLA ?_;first|refine a0A rfl ?_|(refine oD 15 ?_; refine a9A rfl rfl rfl (by dsimp only [fits]; omega) ?_; rw [show ((hi : Int) - lo) = (L : Int) by omega])|(refine oD 9 ?_; refine a4A (hK _ _ (vrA rfl (by decide) (fun _ => rfl) (fun sb wx ex hbx hbc => ?_))); clear hK K; have heX : Ext w0 wx := he0.trans ex; have hsX : Sw w0 wx sb := ⟨0, rfl, .inr ⟨sb, 1, _, rfl, Nat.le_trans he0.size hbx, hbc, Nat.le_refl _, by decide, rfl, rfl⟩⟩; have hoX : cpA w0 wx b cap n D := ho0.ext ex)|(refine oD 20 ?_; refine ayA rfl rfl rfl (by dsimp only [fits]; omega) ?_; rw [show ((lo : Int) + (L : Int) / 4 * 1) = ((lo + L / 4 * 1 : Nat) : Int) by omega])|(refine oD 25 ?_; refine ayA rfl rfl rfl (by dsimp only [fits]; omega) ?_; rw [show ((lo : Int) + (L : Int) / 4 * 2) = ((lo + L / 4 * 2 : Nat) : Int) by omega])|(refine oD 30 ?_; refine ayA rfl rfl rfl (by dsimp only [fits]; omega) ?_; rw [show ((lo : Int) + (L : Int) / 4 * 3) = ((lo + L / 4 * 3 : Nat) : Int) by omega])|(refine oD 37 ?_; refine a4A (hK _ _ (c1A (f := 203) rfl (by decide) rfl rfl rfl rfl (fun v w' => ∃ p : Nat, v = .int .i64 p ∧ (lo ≤ p ∧ p < hi) ∧ Ext w0 w' ∧ cpA w0 w' b cap n D ∧ Sw w0 w' sb) (fun w' e => (imA (heX.trans e) (hoX.ext e) (hsX.ext e) hn hb lo hi h2 (lo + L / 4 * 1) (by omega)).mono (by rintro e5 w5 ⟨p, h1, h2⟩; exact ⟨_, h1, p, rfl, h2⟩)) (fun v w1 hv => ?_))); clear hK K; obtain ⟨p1, rfl, bp1, he1, ho1, hs1⟩ := hv)|(refine oD 40 ?_; refine a4A (hK _ _ (c1A (f := 203) rfl (by decide) rfl rfl rfl rfl (fun v w' => ∃ p : Nat, v = .int .i64 p ∧ (lo ≤ p ∧ p < hi) ∧ Ext w0 w' ∧ cpA w0 w' b cap n D ∧ Sw w0 w' sb) (fun w' e => (imA (he1.trans e) (ho1.ext e) (hs1.ext e) hn hb lo hi h2 (lo + L / 4 * 2) (by omega)).mono (by rintro e5 w5 ⟨p, h1, h2⟩; exact ⟨_, h1, p, rfl, h2⟩)) (fun v w2 hv => ?_))); clear hK K; obtain ⟨p2, rfl, bp2, he2, ho2, hs2⟩ := hv)|(refine oD 43 ?_; refine a4A (hK _ _ (c1A (f := 203) rfl (by decide) rfl rfl rfl rfl (fun v w' => ∃ p : Nat, v = .int .i64 p ∧ (lo ≤ p ∧ p < hi) ∧ Ext w0 w' ∧ cpA w0 w' b cap n D ∧ Sw w0 w' sb) (fun w' e => (imA (he2.trans e) (ho2.ext e) (hs2.ext e) hn hb lo hi h2 (lo + L / 4 * 3) (by omega)).mono (by rintro e5 w5 ⟨p, h1, h2⟩; exact ⟨_, h1, p, rfl, h2⟩)) (fun v w3 hv => ?_))); clear hK K; obtain ⟨p3, rfl, bp3, he3, ho3, hs3⟩ := hv)|(refine c5A rfl rfl ?_)|(refine c4A rfl rfl ?_)|refine wOp ?_|(refine wCm ?_ ?_<;>intro hc)|(refine wNl hK ?_;clear hK K))|(refine oCX ?_;first|refine cqA (id := 6) (ι := Nat) (fun j => [(9, .val (.pointer (some ⟨sb, 0, none⟩))), (11, .val (.int .i64 (j : Int)))]) (fun p w' => (lo ≤ p ∧ p < hi) ∧ Ext w0 w' ∧ cpA w0 w' b cap n D ∧ Sw w0 w' sb) ?_ ?_|refine cqA (id := 7) (ι := Nat × Nat × Nat) (fun i => [(0, .val (.slice (some ⟨b, 0, none⟩) n cap)), (1, .val (.int .i64 lo)), (9, .val (.pointer (some ⟨sb, 0, none⟩))), (10, .val (.int .i64 ((i.1 : Nat) : Int))), (11, .val (.int .i64 ((i.2.1 : Nat) : Int))), (12, .val (.int .i64 ((i.2.2 : Nat) : Int)))]) (fun i w' => (lo ≤ i.1 ∧ i.1 < hi) ∧ (lo ≤ i.2.1 ∧ i.2.1 < hi) ∧ (lo ≤ i.2.2 ∧ i.2.2 < hi) ∧ Ext w0 w' ∧ cpA w0 w' b cap n D ∧ Sw w0 w' sb) ?_ ?_)|refine wG ?_|(refine wCR ?_;intro K hK)|(refine oLX ?_;first|(refine amA rfl ?_; intro K hK))|fail)
  · exact a7A (p1, p2, p3) (fun w6 e6 => ⟨bp1, bp2, bp3, he3.trans e6, ho3.ext e6, hs3.ext e6⟩) (by omega) (by dsimp only; exact (by repeat' (first | exact Sub.nil | refine Sub.val rfl (by first | with_reducible rfl | (congr 1; omega)) ?_ | refine Sub.same rfl ?_)))
  · exact a7A (lo + L / 4 * 1, lo + L / 4 * 2, lo + L / 4 * 3) (fun w6 e6 => ⟨by dsimp only; omega, by dsimp only; omega, by dsimp only; omega, heX.trans e6, hoX.ext e6, hsX.ext e6⟩) (by omega) (by dsimp only; exact (by repeat' (first | exact Sub.nil | refine Sub.val rfl (by first | with_reducible rfl | (congr 1; omega)) ?_ | refine Sub.same rfl ?_)))
  · rintro ⟨i, j, k⟩ w3 ⟨bi, bj, bk, he3, ho3, hs3⟩
    dsimp only at bi bj bk ⊢
    repeat' (first|(refine oLA ?_;first|refine a0A rfl ?_|(refine oD 48 ?_; refine a4A (hK _ _ (gkA (f := 204) rfl (by decide) rfl rfl rfl rfl rfl rfl (fun v w' => ∃ p : Nat, v = .int .i64 p ∧ (lo ≤ p ∧ p < hi) ∧ Ext w0 w' ∧ cpA w0 w' b cap n D ∧ Sw w0 w' sb) (fun w' e => (o8A (he3.trans e) (ho3.ext e) (hs3.ext e) hn hb lo hi h2 i j k bi bj bk).mono (by rintro e5 w5 ⟨p, h1, h2⟩; exact ⟨_, h1, p, rfl, h2⟩)) (fun v w1 hv => ?_))); clear hK K; obtain ⟨p, rfl, bp, he1, ho1, hs1⟩ := hv)|(refine c5A rfl rfl ?_)|(refine c4A rfl rfl ?_)|refine wOp ?_|(refine wCm ?_ ?_<;>intro hc)|(refine wNl hK ?_;clear hK K))|refine wG ?_|(refine wCR ?_;intro K hK)|(refine oLX ?_;first|(refine amA rfl ?_; intro K hK))|fail)
    exact a7A p (fun w6 e6 => ⟨bp, he1.trans e6, ho1.ext e6, hs1.ext e6⟩) (by omega) (by repeat' (first | exact Sub.nil | refine Sub.val rfl (by first | with_reducible rfl | (congr 1; omega)) ?_ | refine Sub.same rfl ?_))
  · exact a7A (lo + L / 4 * 2) (fun w6 e6 => ⟨by omega, heX.trans e6, hoX.ext e6, hsX.ext e6⟩) (by omega) (by repeat' (first | exact Sub.nil | refine Sub.val rfl (by first | with_reducible rfl | (congr 1; omega)) ?_ | refine Sub.same rfl ?_))
  · rintro j w3 ⟨bj, he3, ho3, s, hs3⟩
    repeat' (first|(refine oLA ?_;first|refine a0A rfl ?_|(refine oD 49 ?_; refine aeA hs3 rfl (fun _ => rfl) rfl (by exact Nat.zero_lt_one) ?_; rw [show [s].getD 0 0 = s from rfl])|refine wOp ?_|(refine wCm ?_ ?_<;>intro hc)|(refine wNl hK ?_;clear hK K))|refine wG ?_|(refine wCR ?_;intro K hK)|fail)
    all_goals exact dqA rfl (fun u v w5 e5 hu hv => by obtain rfl : u = _ := hu; obtain rfl : v = _ := hv; exact ⟨j, _, rfl, bj, he3.trans e5, ho3.ext e5⟩)
end Srt
end Go.Proofs.YtfcioiobhpcngaaGreatDoor
end
section
set_option linter.unusedSimpArgs false
set_option linter.unusedVariables false
set_option maxRecDepth 3000
namespace Go.Proofs.YtfcioiobhpcngaaGreatDoor
namespace Srt
open Go.LA Go.ArrP Go.RowKit
end Srt
end Go.Proofs.YtfcioiobhpcngaaGreatDoor
namespace Go.LA
structure CXh (P : Program) (N : Nat) (wb : World) (c : Code) (E : Env) (Q : Exit → Act → World → Prop) : Prop where
  out : CX P N wb c E Q
theorem j7A {P : Program} {N : Nat} {wb : World} {E : Env} {Q : Exit → Act → World → Prop} {id : Nat} {l : Array Oper} {m : Bool} {c1 c' : Code} (h : CXh P N wb (.seq (.seq (.region id l m) c1) c') E Q) : CX P N wb (.seq (.seq (.region id l m) c1) c') E Q := h.out
theorem pzA {P : Program} {N : Nat} {wb : World} {E : Env} {Q : Exit → Act → World → Prop} {c : Code} (h : CX P N wb c E Q) : CXh P N wb c E Q := ⟨h⟩
end Go.LA
namespace Go.Proofs.YtfcioiobhpcngaaGreatDoor
namespace Srt
open Go.LA Go.ArrP Go.RowKit
set_option maxHeartbeats 16000000 in
theorem uhA (m : Nat) : ∀ {w0 w : World} {b cap n : Nat} {D0 : Array Int} (he0 : Ext w0 w) (ho0 : cpA w0 w b cap n D0) (hn : n = D0.size) (hb : D0.size < 4611686018427387904) (lo hi lim : Nat) (hm : hi - lo ≤ m) (h1 : lo ≤ hi) (h2 : hi ≤ D0.size) (hB0 : Go.Sort.Below Go.Sort.ltInt lo hi D0) (hl0 : lim < 4611686018427387904),
    Fc Tryz.prog 149 #[(.slice (some ⟨b, 0, none⟩) n cap), .int .i64 lo, .int .i64 hi, .int .i64 lim] w (fun e w' => e = .returned (.tuple #[]) ∧ Ext w0 w' ∧ ∃ D', Go.Sort.PermIn lo hi D0 D' ∧ Go.Sort.SortedIn Go.Sort.ltInt lo hi D' ∧ cpA w0 w' b cap n D') := by
  induction m using Nat.strongRecOn with
  | ind m ih =>
  intro w0 w b cap n D0 he0 ho0 hn hb lo hi lim hm h1 h2 hB0 hl0
  have swo : Go.Sort.SWO Go.Sort.ltInt := Go.Sort.swo_ltInt
  refine Fc.of (args := [_, _, _, _]) Tryz.func149 rfl rfl Tryz.ntmps149 (Nat.le_of_ble_eq_true rfl) ?_
  repeat' (first|(refine oLA ?_;first|refine a0A rfl ?_|refine wOp ?_|(refine wCm ?_ ?_<;>intro hc)|(refine wNl hK ?_;clear hK K))|refine wG ?_|(refine wCR ?_;intro K hK)|fail)
  refine ahA (ι := Nat × Nat × Nat × Bool × Bool × Array Int) (fun i => [(0, .val (.slice (some ⟨b, 0, none⟩) n cap)), (1, .val (.int .i64 ((i.1 : Nat) : Int))), (2, .val (.int .i64 ((i.2.1 : Nat) : Int))), (3, .val (.int .i64 ((i.2.2.1 : Nat) : Int))), (8, .val (.bool i.2.2.2.1)), (9, .val (.bool i.2.2.2.2.1))])
    (fun i w' => Ext w0 w' ∧ i.1 ≤ i.2.1 ∧ i.2.1 ≤ D0.size ∧ i.2.2.2.2.2.size = D0.size ∧ i.2.1 - i.1 ≤ hi - lo ∧ i.2.2.1 < 4611686018427387904 ∧ Go.Sort.Below Go.Sort.ltInt i.1 i.2.1 i.2.2.2.2.2 ∧ (∀ R, Go.Sort.PermIn i.1 i.2.1 i.2.2.2.2.2 R → Go.Sort.SortedIn Go.Sort.ltInt i.1 i.2.1 R → Go.Sort.PermIn lo hi D0 R ∧ Go.Sort.SortedIn Go.Sort.ltInt lo hi R) ∧ cpA w0 w' b cap n i.2.2.2.2.2) (fun i => i.2.1 - i.1)
    (fun w2 e2 => ⟨(lo, hi, lim, true, true, D0), ⟨he0.trans e2, h1, h2, rfl, Nat.le_refl _, hl0, hB0, fun R p s => ⟨p, s⟩, ho0.ext e2⟩, by dsimp only; exact (by repeat' (first | exact Sub.nil | refine Sub.val rfl (by first | with_reducible rfl | (congr 1; omega)) ?_ | refine Sub.same rfl ?_))⟩) ?_
  rintro ⟨a, z, l, wb, wp, D⟩ w1 ⟨he1, haz, hz, hs1, hza, hl1, hB1, hG1, ho1⟩
  dsimp only at haz hz hs1 hza hl1 hB1 hG1 ho1 ⊢
  by_cases h12 : z - a ≤ 12
  · have q0 : True := trivial
    repeat' (first|(refine oLA ?_;first|refine a0A rfl ?_|(refine oD 21 ?_; refine a9A rfl rfl rfl (by dsimp only [fits]; omega) ?_; rw [show ((z : Int) - a) = ((z - a : Nat) : Int) by omega])|(refine oD 27 ?_; refine a4A (hK _ _ (fdA (f := 184) (fun w' => Ext w0 w' ∧ cpA w0 w' b cap n (Go.Sort.insertionSort Go.Sort.ltInt D a z)) (fun w' e => v0A (he1.trans e) (ho1.ext e) (hn.trans hs1.symm) a z haz (by omega) (by omega)) rfl (by decide) rfl rfl rfl rfl (fun w2 hw2 => ?_))); clear hK K; obtain ⟨he2, ho2⟩ := hw2)|refine wOp ?_|(refine wCm ?_ ?_<;>intro hc)|(refine wNl hK ?_;clear hK K))|refine wG ?_|(refine wCR ?_;intro K hK)|fail)
    have hh := Go.Sort.insertionSort_holds (lt := Go.Sort.ltInt) swo D a z haz (by omega)
    have hg := hG1 _ hh.1 hh.2
    exact b2A rfl (fun w5 e5 => ⟨rfl, he2.trans e5, _, hg.1, hg.2, ho2.ext e5⟩) (.inr rfl)
  by_cases hlz : l = 0
  · have q0 : True := trivial
    repeat' (first|(refine oLA ?_;first|refine a0A rfl ?_|(refine oD 21 ?_; refine a9A rfl rfl rfl (by dsimp only [fits]; omega) ?_; rw [show ((z : Int) - a) = ((z - a : Nat) : Int) by omega])|(refine oD 33 ?_; refine a4A (hK _ _ (fdA (f := 185) (fun w' => Ext w0 w' ∧ cpA w0 w' b cap n (Go.Sort.heapSort Go.Sort.ltInt D a z)) (fun w' e => r8A (he1.trans e) (ho1.ext e) (hn.trans hs1.symm) a z haz (by omega) (by omega)) rfl (by decide) rfl rfl rfl rfl (fun w2 hw2 => ?_))); clear hK K; obtain ⟨he2, ho2⟩ := hw2)|refine wOp ?_|(refine wCm ?_ ?_<;>intro hc)|(refine wNl hK ?_;clear hK K))|refine wG ?_|(refine wCR ?_;intro K hK)|fail)
    have hh := Go.Sort.heapSort_holds (lt := Go.Sort.ltInt) swo D a z haz (by omega)
    have hg := hG1 _ hh.1 hh.2
    exact b2A rfl (fun w5 e5 => ⟨rfl, he2.trans e5, _, hg.1, hg.2, ho2.ext e5⟩) (.inr rfl)
  repeat' (first|(refine oLA ?_;first|refine a0A rfl ?_|(refine oD 21 ?_; refine a9A rfl rfl rfl (by dsimp only [fits]; omega) ?_; rw [show ((z : Int) - a) = ((z - a : Nat) : Int) by omega])|refine wOp ?_|(refine wCm ?_ ?_<;>intro hc)|(refine wNl hK ?_;clear hK K))|(refine oCX ?_;first|refine j7A (id := 7) ?_)|refine wG ?_|(refine wCR ?_;intro K hK)|fail)
  refine pzA (cqA (id := 7) (ι := Nat × Array Int) (fun i => [(0, .val (.slice (some ⟨b, 0, none⟩) n cap)), (1, .val (.int .i64 ((a : Nat) : Int))), (2, .val (.int .i64 ((z : Nat) : Int))), (3, .val (.int .i64 ((i.1 : Nat) : Int))), (8, .val (.bool wb)), (9, .val (.bool wp)), (10, .val (.int .i64 ((z - a : Nat) : Int)))]) (fun i w' => i.1 < 4611686018427387904 ∧ Go.Sort.PermIn a z D i.2 ∧ Ext w0 w' ∧ cpA w0 w' b cap n i.2) ?_ ?_)
  · cases wb
    · have q0 : True := trivial
      repeat' (first|(refine oLA ?_;first|refine a0A rfl ?_|(refine oD 39 ?_; refine a4A (hK _ _ (fdA (f := 186) (fun w' => Ext w0 w' ∧ ∃ D', Go.Sort.PermIn a z D D' ∧ cpA w0 w' b cap n D') (fun w' e => viA (he1.trans e) (ho1.ext e) (hn.trans hs1.symm) a z haz (by omega) (by omega)) rfl (by decide) rfl rfl rfl rfl (fun w2 hw2 => ?_))); clear hK K; obtain ⟨he2, D2, hp2, ho2⟩ := hw2)|(refine oD 41 ?_; refine a9A rfl rfl rfl (by dsimp only [fits]; omega) ?_; rw [show ((l : Int) - 1) = ((l - 1 : Nat) : Int) by omega])|refine wOp ?_|(refine wCm ?_ ?_<;>intro hc)|(refine wNl hK ?_;clear hK K))|refine wG ?_|(refine wCR ?_;intro K hK)|fail)
      exact a7A (l - 1, D2) (fun w6 e6 => ⟨by dsimp only; omega, hp2, he2.trans e6, ho2.ext e6⟩) (by omega) (by dsimp only; exact (by repeat' (first | exact Sub.nil | refine Sub.val rfl (by first | with_reducible rfl | (congr 1; omega)) ?_ | refine Sub.same rfl ?_)))
    · have q0 : True := trivial
      repeat' (first|(refine oLA ?_;first|refine a0A rfl ?_|refine wOp ?_|(refine wCm ?_ ?_<;>intro hc)|(refine wNl hK ?_;clear hK K))|refine wG ?_|(refine wCR ?_;intro K hK)|fail)
      exact a7A (l, D) (fun w6 e6 => ⟨hl1, Go.Sort.permIn_refl _ _ _, he1.trans e6, ho1.ext e6⟩) (by omega) (by dsimp only; exact (by repeat' (first | exact Sub.nil | refine Sub.val rfl (by first | with_reducible rfl | (congr 1; omega)) ?_ | refine Sub.same rfl ?_)))
  rintro ⟨l2, D2⟩ w2 ⟨hl2, hp2, he2, ho2⟩
  dsimp only at hl2 hp2 ho2 ⊢
  have hs2 : D2.size = D0.size := hp2.1.trans hs1
  repeat' (first|(refine oLA ?_;first|refine a0A rfl ?_|(refine oD 46 ?_; refine a4A (hK _ _ (c1A (f := 187) rfl (by decide) rfl rfl rfl rfl (fun v w' => ∃ (p : Nat) (h : Int), v = .tuple #[.int .i64 p, .int .i64 h] ∧ (a ≤ p ∧ p < z) ∧ Ext w0 w' ∧ cpA w0 w' b cap n D2) (fun w' e => (vdA (he2.trans e) (ho2.ext e) (hn.trans hs2.symm) (by omega) a z (by omega) (by omega)).mono (by rintro e5 w5 ⟨p, h, h1, h2⟩; exact ⟨_, h1, p, h, rfl, h2⟩)) (fun v w3 hv => ?_))); clear hK K; obtain ⟨pv, hint, rfl, bpv, he3, ho3⟩ := hv)|(refine oD 54 ?_; refine a4A (hK _ _ (fdA (f := 188) (fun w' => Ext w0 w' ∧ cpA w0 w' b cap n (Go.Sort.reverseRange D2 a z)) (fun w' e => uaA (he3.trans e) (ho3.ext e) (hn.trans hs2.symm) a z (by omega) (by omega) (by omega)) rfl (by decide) rfl rfl rfl rfl (fun w4 hw4 => ?_))); clear hK K; obtain ⟨he4, ho4⟩ := hw4)|(refine oD 60 ?_; refine a9A rfl rfl rfl (by dsimp only [fits]; omega) ?_; rw [show ((z : Int) - 1 - ((pv : Int) - a)) = ((z - 1 - (pv - a) : Nat) : Int) by omega])|(refine c5A rfl rfl ?_)|(refine c4A rfl rfl ?_)|refine wOp ?_|(refine wCm ?_ ?_<;>intro hc)|(refine wNl hK ?_;clear hK K))|(refine oCX ?_;first|refine j7A (id := 15) ?_|refine cqA (id := 11) (ι := Nat × Int × Array Int) (fun i => [(0, .val (.slice (some ⟨b, 0, none⟩) n cap)), (1, .val (.int .i64 ((a : Nat) : Int))), (2, .val (.int .i64 ((z : Nat) : Int))), (3, .val (.int .i64 ((l2 : Nat) : Int))), (8, .val (.bool wb)), (9, .val (.bool wp)), (10, .val (.int .i64 ((z - a : Nat) : Int))), (11, .val (.int .i64 ((i.1 : Nat) : Int))), (12, .val (.int .i64 i.2.1))]) (fun i w' => (a ≤ i.1 ∧ i.1 < z) ∧ Go.Sort.PermIn a z D i.2.2 ∧ Ext w0 w' ∧ cpA w0 w' b cap n i.2.2) ?_ ?_)|refine wG ?_|(refine wCR ?_;intro K hK)|(refine oLX ?_;first|(refine amA rfl ?_; intro K hK))|fail)
  · exact a7A (z - 1 - (pv - a), 1, Go.Sort.reverseRange D2 a z) (fun w6 e6 => ⟨by dsimp only; omega, Go.Sort.permIn_trans _ _ _ _ _ hp2 (Go.Sort.reverseRange_holds D2 a z haz (by omega)), he4.trans e6, ho4.ext e6⟩) (by omega) (by dsimp only; exact (by repeat' (first | exact Sub.nil | refine Sub.val rfl (by first | with_reducible rfl | (congr 1; omega)) ?_ | refine Sub.same rfl ?_)))
  · exact a7A (pv, hint, D2) (fun w6 e6 => ⟨bpv, hp2, he3.trans e6, ho3.ext e6⟩) (by omega) (by dsimp only; exact (by repeat' (first | exact Sub.nil | refine Sub.val rfl (by first | with_reducible rfl | (congr 1; omega)) ?_ | refine Sub.same rfl ?_)))
  rintro ⟨p3, hint3, D3⟩ w3 ⟨bp3, hp3, he3, ho3⟩
  dsimp only at bp3 hp3 ho3 ⊢
  clear ho2 he2 hp2 hs2
  have hs3 : D3.size = D0.size := hp3.1.trans hs1
  have hB3 : Go.Sort.Below Go.Sort.ltInt a z D3 := hB1.perm (by omega) hp3
  have hpi := Go.Sort.partialInsertionSort_holds (lt := Go.Sort.ltInt) swo D3 a z (by omega) (by omega) hB3
  refine cqA (id := 15) (ι := Array Int) (fun i => [(0, .val (.slice (some ⟨b, 0, none⟩) n cap)), (1, .val (.int .i64 ((a : Nat) : Int))), (2, .val (.int .i64 ((z : Nat) : Int))), (3, .val (.int .i64 ((l2 : Nat) : Int))), (8, .val (.bool wb)), (9, .val (.bool wp)), (10, .val (.int .i64 ((z - a : Nat) : Int))), (11, .val (.int .i64 ((p3 : Nat) : Int)))]) (fun i w' => Go.Sort.PermIn a z D i ∧ Ext w0 w' ∧ cpA w0 w' b cap n i) ?_ ?_
  · by_cases hh1 : hint3 = 1
    · cases hpb : (Go.Sort.partialInsertionSort Go.Sort.ltInt D3 a z).2 <;> cases wb <;> cases wp
      all_goals
        repeat' (first|(refine oLA ?_;first|refine a0A rfl ?_|(refine oD 72 ?_; refine a4A (hK _ _ (c1A (f := 189) rfl (by decide) rfl rfl rfl rfl (fun v w' => v = .bool (Go.Sort.partialInsertionSort Go.Sort.ltInt D3 a z).2 ∧ Ext w0 w' ∧ cpA w0 w' b cap n (Go.Sort.partialInsertionSort Go.Sort.ltInt D3 a z).1) (fun w' e => (qoA (he3.trans e) (ho3.ext e) (hn.trans hs3.symm) a z (by omega) (by omega) (by omega)).mono (by rintro e5 w5 ⟨h1, h2⟩; exact ⟨_, h1, rfl, h2⟩)) (fun v w5 hv => ?_))); clear hK K; obtain ⟨rfl, he5, ho5⟩ := hv; rw [hpb])|(refine c5A rfl rfl ?_)|(refine c4A rfl rfl ?_)|refine wOp ?_|(refine wCm ?_ ?_<;>intro hc)|(refine wNl hK ?_;clear hK K))|refine wG ?_|(refine wCR ?_;intro K hK)|(refine oLX ?_;first|(refine amA rfl ?_; intro K hK))|fail)
      all_goals first
        | (have hg := hG1 _ (Go.Sort.permIn_trans _ _ _ _ _ hp3 hpi.1) (hpi.2 hpb); exact b2A rfl (fun w6 e6 => ⟨rfl, he5.trans e6, _, hg.1, hg.2, ho5.ext e6⟩) (.inr rfl))
        | exact a7A (Go.Sort.partialInsertionSort Go.Sort.ltInt D3 a z).1 (fun w6 e6 => ⟨Go.Sort.permIn_trans _ _ _ _ _ hp3 hpi.1, he5.trans e6, ho5.ext e6⟩) (by omega) (by repeat' (first | exact Sub.nil | refine Sub.val rfl (by first | with_reducible rfl | (congr 1; omega)) ?_ | refine Sub.same rfl ?_))
        | exact a7A D3 (fun w6 e6 => ⟨hp3, he3.trans e6, ho3.ext e6⟩) (by omega) (by repeat' (first | exact Sub.nil | refine Sub.val rfl (by first | with_reducible rfl | (congr 1; omega)) ?_ | refine Sub.same rfl ?_))
    · cases wb <;> cases wp
      all_goals
        repeat' (first|(refine oLA ?_;first|refine a0A rfl ?_|refine wOp ?_|(refine wCm ?_ ?_<;>intro hc)|(refine wNl hK ?_;clear hK K))|refine wG ?_|(refine wCR ?_;intro K hK)|fail)
      all_goals exact a7A D3 (fun w6 e6 => ⟨hp3, he3.trans e6, ho3.ext e6⟩) (by omega) (by repeat' (first | exact Sub.nil | refine Sub.val rfl (by first | with_reducible rfl | (congr 1; omega)) ?_ | refine Sub.same rfl ?_))
  intro D4 w4 ⟨hp4, he4, ho4⟩
  clear hpi hB3 hs3 hp3 ho3 he3
  have hs4 : D4.size = D0.size := hp4.1.trans hs1
  have hl4 := apA D4
  have hB4 : Go.Sort.Below Go.Sort.ltInt a z D4 := hB1.perm (by omega) hp4
  by_cases hc : 0 < a ∧ Go.Sort.ltInt D4[a - 1]! D4[p3]! = false
  · obtain ⟨mid, D5, hx⟩ : ∃ mid D5, Go.Sort.partitionEqual Go.Sort.ltInt D4 a z p3 = (mid, D5) := ⟨_, _, rfl⟩
    obtain ⟨r1, r2, r3, r4, r5⟩ := Go.Sort.round_eq swo (Go.Sort.partitionEqual_holds Go.Sort.ltInt) hc.1 bp3.1 bp3.2 (by omega) hB4 hc.2 hx
    repeat' (first|(refine oLA ?_;first|refine a0A rfl ?_|(refine oD 79 ?_; refine a6A rfl rfl (fun _ => rfl) rfl rfl (a - 1) (by omega) (by omega) ?_)|(refine oI ?_; refine a6A rfl rfl (fun _ => rfl) rfl rfl _ rfl (by omega) ?_)|(refine oL ?_; refine aeA ho4 rfl (fun _ => rfl) rfl (by omega) ?_; rw [cbA])|(refine oD 92 ?_; refine a4A (hK _ _ (d5A (f := 190) rfl (by decide) rfl rfl rfl rfl rfl (fun v w' => v = .int .i64 (mid : Int) ∧ Ext w0 w' ∧ cpA w0 w' b cap n D5) (fun w' e => (nwA (he4.trans e) (ho4.ext e) (hn.trans hs4.symm) a z p3 (by omega) (by omega) (by omega) (by omega)).mono (by rw [hx]; rintro e5 w5 ⟨h1, h2⟩; exact ⟨_, h1, rfl, h2⟩)) (fun v w6 hv => ?_))); clear hK K; obtain ⟨rfl, he6, ho6⟩ := hv)|(refine c5A rfl rfl ?_)|(refine c4A rfl rfl ?_)|refine wOp ?_|(refine wCm ?_ ?_<;>intro hc)|(refine oCv ?_;first|(refine oC 177 ?_; refine a3A (f := 177) rfl rfl rfl rfl  (.val (.bool false)) (by intro u1 u2 w e hu1 hu2; (try obtain rfl : u1 = _ := hu1); (try obtain rfl : u2 = _ := hu2); exact agA (by rw [hc.2]) (avA _ _ _)) ?_))|(refine wNl hK ?_;clear hK K))|refine wG ?_|(refine wCR ?_;intro K hK)|(refine oLX ?_;first|(refine amA rfl ?_; intro K hK))|fail)
    exact a7A (mid, z, l2, wb, wp, D5) (fun w7 e7 => ⟨he6.trans e7, by dsimp only; omega, by dsimp only; omega, by dsimp only; exact r3.trans hs4, by dsimp only; omega, hl2, r4, fun R p s => hG1 R (Go.Sort.permIn_trans _ _ _ _ _ hp4 (r5 R p s).1) (r5 R p s).2, ho6.ext e7⟩) (by dsimp only; omega) (by dsimp only; exact (by repeat' (first | exact Sub.nil | refine Sub.val rfl (by first | with_reducible rfl | (congr 1; omega)) ?_ | refine Sub.same rfl ?_)))
  refine cqA (id := 17) (ι := Unit) (fun _ => [(0, .val (.slice (some ⟨b, 0, none⟩) n cap)), (1, .val (.int .i64 ((a : Nat) : Int))), (2, .val (.int .i64 ((z : Nat) : Int))), (3, .val (.int .i64 ((l2 : Nat) : Int))), (8, .val (.bool wb)), (9, .val (.bool wp)), (10, .val (.int .i64 ((z - a : Nat) : Int))), (11, .val (.int .i64 ((p3 : Nat) : Int)))]) (fun _ w' => Ext w0 w' ∧ cpA w0 w' b cap n D4) ?_ ?_
  · by_cases ha0 : 0 < a
    · cases hp : Go.Sort.ltInt D4[a - 1]! D4[p3]!
      · exact absurd ⟨ha0, hp⟩ hc
      · have q0 : True := trivial
        repeat' (first|(refine oLA ?_;first|refine a0A rfl ?_|(refine oD 79 ?_; refine a6A rfl rfl (fun _ => rfl) rfl rfl (a - 1) (by omega) (by omega) ?_)|(refine oI ?_; refine a6A rfl rfl (fun _ => rfl) rfl rfl _ rfl (by omega) ?_)|(refine oL ?_; refine aeA ho4 rfl (fun _ => rfl) rfl (by omega) ?_; rw [cbA])|refine wOp ?_|(refine wCm ?_ ?_<;>intro hc)|(refine oCv ?_;first|(refine oC 177 ?_; refine a3A (f := 177) rfl rfl rfl rfl  (.val (.bool true)) (by intro u1 u2 w e hu1 hu2; (try obtain rfl : u1 = _ := hu1); (try obtain rfl : u2 = _ := hu2); exact agA (by rw [hp]) (avA _ _ _)) ?_))|(refine wNl hK ?_;clear hK K))|refine wG ?_|(refine wCR ?_;intro K hK)|fail)
        exact a7A () (fun w7 e7 => ⟨he4.trans e7, ho4.ext e7⟩) (by omega) (by repeat' (first | exact Sub.nil | refine Sub.val rfl (by first | with_reducible rfl | (congr 1; omega)) ?_ | refine Sub.same rfl ?_))
    · have q0 : True := trivial
      repeat' (first|(refine oLA ?_;first|refine a0A rfl ?_|refine wOp ?_|(refine wCm ?_ ?_<;>intro hc)|(refine wNl hK ?_;clear hK K))|refine wG ?_|(refine wCR ?_;intro K hK)|fail)
      exact a7A () (fun w7 e7 => ⟨he4.trans e7, ho4.ext e7⟩) (by omega) (by repeat' (first | exact Sub.nil | refine Sub.val rfl (by first | with_reducible rfl | (congr 1; omega)) ?_ | refine Sub.same rfl ?_))
  · intro _ w5 ⟨he5, ho5⟩
    obtain ⟨mid, ap, D5, hx⟩ : ∃ mid ap D5, Go.Sort.partition Go.Sort.ltInt D4 a z p3 = (mid, ap, D5) := ⟨_, _, _, rfl⟩
    obtain ⟨r1, r2, r3, hBa, hBr, hleft, hright⟩ := Go.Sort.round_part swo (Go.Sort.partition_holds Go.Sort.ltInt) bp3.1 bp3.2 (by omega) hB4 hx
    repeat' (first|(refine oLA ?_;first|refine a0A rfl ?_|(refine oD 99 ?_; refine a4A (hK _ _ (d5A (f := 191) rfl (by decide) rfl rfl rfl rfl rfl (fun v w' => v = .tuple #[.int .i64 (mid : Int), .bool ap] ∧ Ext w0 w' ∧ cpA w0 w' b cap n D5) (fun w' e => (qsA (he5.trans e) (ho5.ext e) (hn.trans hs4.symm) a z p3 (by omega) (by omega) (by omega) (by omega)).mono (by rw [hx]; rintro e5 w5 ⟨h1, h2⟩; exact ⟨_, h1, rfl, h2⟩)) (fun v wA hv => ?_))); clear hK K; obtain ⟨rfl, heA, hoA⟩ := hv)|(refine oD 105 ?_; refine a9A rfl rfl rfl (by dsimp only [fits]; omega) ?_; rw [show ((mid : Int) - a) = ((mid - a : Nat) : Int) by omega])|(refine oD 108 ?_; refine a9A rfl rfl rfl (by dsimp only [fits]; omega) ?_; rw [show ((z : Int) - mid) = ((z - mid : Nat) : Int) by omega])|(refine oD 123 ?_; refine ayA rfl rfl rfl (by dsimp only [fits]; omega) ?_; rw [show ((mid : Int) + 1) = ((mid + 1 : Nat) : Int) by omega])|(refine oD 129 ?_; refine ayA rfl rfl rfl (by dsimp only [fits]; omega) ?_; rw [show ((mid : Int) + 1) = ((mid + 1 : Nat) : Int) by omega])|(refine oD 121 ?_; refine a4A (hK _ _ (eiA (f := 149) (fun w' => Ext w0 w' ∧ ∃ D', Go.Sort.PermIn a mid D5 D' ∧ Go.Sort.SortedIn Go.Sort.ltInt a mid D' ∧ cpA w0 w' b cap n D') (fun w' e => ih (m - 1) (by omega) (heA.trans e) (hoA.ext e) (hn.trans (r3.trans hs4).symm) (by omega) a mid l2 (by omega) (by omega) (by omega) hBa hl2) rfl (by decide) rfl rfl rfl rfl rfl (fun w6 hw6 => ?_))); clear hK K; obtain ⟨he6, D6, hp6, hs6, ho6⟩ := hw6)|(refine oD 132 ?_; refine a4A (hK _ _ (eiA (f := 149) (fun w' => Ext w0 w' ∧ ∃ D', Go.Sort.PermIn (mid + 1) z D5 D' ∧ Go.Sort.SortedIn Go.Sort.ltInt (mid + 1) z D' ∧ cpA w0 w' b cap n D') (fun w' e => ih (m - 1) (by omega) (heA.trans e) (hoA.ext e) (hn.trans (r3.trans hs4).symm) (by omega) (mid + 1) z l2 (by omega) (by omega) (by omega) hBr hl2) rfl (by decide) rfl rfl rfl rfl rfl (fun w6 hw6 => ?_))); clear hK K; obtain ⟨he6, D6, hp6, hs6, ho6⟩ := hw6)|(refine c5A rfl rfl ?_)|(refine c4A rfl rfl ?_)|refine wOp ?_|(refine wCm ?_ ?_<;>intro hc)|(refine wNl hK ?_;clear hK K))|refine wG ?_|(refine wCR ?_;intro K hK)|(refine oLX ?_;first|(refine amA rfl ?_; intro K hK))|fail)
    · exact a7A (mid + 1, z, l2, true, ap, D6) (fun w7 e7 => ⟨he6.trans e7, by dsimp only; omega, by dsimp only; omega, by dsimp only; exact hp6.1.trans (r3.trans hs4), by dsimp only; omega, hl2, (hleft D6 hp6 hs6).1, fun R p s => hG1 R (Go.Sort.permIn_trans _ _ _ _ _ hp4 ((hleft D6 hp6 hs6).2 R p s).1) ((hleft D6 hp6 hs6).2 R p s).2, ho6.ext e7⟩) (by dsimp only; omega) (by dsimp only; exact (by repeat' (first | exact Sub.nil | refine Sub.val rfl (by first | with_reducible rfl | (congr 1; omega)) ?_ | refine Sub.same rfl ?_)))
    · exact a7A (mid + 1, z, l2, false, ap, D6) (fun w7 e7 => ⟨he6.trans e7, by dsimp only; omega, by dsimp only; omega, by dsimp only; exact hp6.1.trans (r3.trans hs4), by dsimp only; omega, hl2, (hleft D6 hp6 hs6).1, fun R p s => hG1 R (Go.Sort.permIn_trans _ _ _ _ _ hp4 ((hleft D6 hp6 hs6).2 R p s).1) ((hleft D6 hp6 hs6).2 R p s).2, ho6.ext e7⟩) (by dsimp only; omega) (by dsimp only; exact (by repeat' (first | exact Sub.nil | refine Sub.val rfl (by first | with_reducible rfl | (congr 1; omega)) ?_ | refine Sub.same rfl ?_)))
    · exact a7A (a, mid, l2, true, ap, D6) (fun w7 e7 => ⟨he6.trans e7, by dsimp only; omega, by dsimp only; omega, by dsimp only; exact hp6.1.trans (r3.trans hs4), by dsimp only; omega, hl2, (hright D6 hp6 hs6).1, fun R p s => hG1 R (Go.Sort.permIn_trans _ _ _ _ _ hp4 ((hright D6 hp6 hs6).2 R p s).1) ((hright D6 hp6 hs6).2 R p s).2, ho6.ext e7⟩) (by dsimp only; omega) (by dsimp only; exact (by repeat' (first | exact Sub.nil | refine Sub.val rfl (by first | with_reducible rfl | (congr 1; omega)) ?_ | refine Sub.same rfl ?_)))
    · exact a7A (a, mid, l2, false, ap, D6) (fun w7 e7 => ⟨he6.trans e7, by dsimp only; omega, by dsimp only; omega, by dsimp only; exact hp6.1.trans (r3.trans hs4), by dsimp only; omega, hl2, (hright D6 hp6 hs6).1, fun R p s => hG1 R (Go.Sort.permIn_trans _ _ _ _ _ hp4 ((hright D6 hp6 hs6).2 R p s).1) ((hright D6 hp6 hs6).2 R p s).2, ho6.ext e7⟩) (by dsimp only; omega) (by dsimp only; exact (by repeat' (first | exact Sub.nil | refine Sub.val rfl (by first | with_reducible rfl | (congr 1; omega)) ?_ | refine Sub.same rfl ?_)))
end Srt
end Go.Proofs.YtfcioiobhpcngaaGreatDoor
end
section
set_option linter.unusedSimpArgs false
set_option linter.unusedVariables false
set_option maxRecDepth 3000
namespace Go.Proofs.YtfcioiobhpcngaaGreatDoor
namespace Srt
open Go.LA Go.ArrP Go.RowKit
set_option maxHeartbeats 1000000 in
theorem insN16_c {w : World} : Fc Tryz.prog 184 #[.slice none 0 0, .int .i64 0, .int .i64 0] w (fun e w' => e = .returned (.tuple #[]) ∧ Ext w w') := by
  refine Fc.of (args := [_, _, _]) Tryz.func184 rfl rfl Tryz.ntmps184 (Nat.le_of_ble_eq_true rfl) ?_
  repeat' (first|(refine oLA ?_;first|refine a0A rfl ?_|refine wOp ?_|(refine wCm ?_ ?_<;>intro hc)|(refine wNl hK ?_;clear hK K))|refine wG ?_|(refine wCR ?_;intro K hK)|fail)
  refine b8A (ι := Unit) (fun i => [(0, .val (.slice none 0 0)), (2, .val (.int .i64 0)), (6, .val (.int .i64 1))]) (fun _ => True) (fun _ => 0) () trivial (by repeat' (first | exact Sub.nil | refine Sub.val rfl (by first | with_reducible rfl | (congr 1; omega)) ?_ | refine Sub.same rfl ?_)) ?_
  rintro _ -
  repeat' (first|(refine oLA ?_;first|refine a0A rfl ?_|refine wOp ?_|(refine wCm ?_ ?_<;>intro hc)|(refine wNl hK ?_;clear hK K))|refine wG ?_|(refine wCR ?_;intro K hK)|fail)
  exact b2A rfl (fun w5 e5 => ⟨rfl, e5⟩) (.inl rfl)
theorem qqA {w : World} (lim : Nat) (hl : lim < 4611686018427387904) : Fc Tryz.prog 149 #[.slice none 0 0, .int .i64 0, .int .i64 0, .int .i64 lim] w (fun e w' => e = .returned (.tuple #[]) ∧ Ext w w') := by
  refine Fc.of (args := [_, _, _, _]) Tryz.func149 rfl rfl Tryz.ntmps149 (Nat.le_of_ble_eq_true rfl) ?_
  repeat' (first|(refine oLA ?_;first|refine a0A rfl ?_|refine wOp ?_|(refine wCm ?_ ?_<;>intro hc)|(refine wNl hK ?_;clear hK K))|refine wG ?_|(refine wCR ?_;intro K hK)|fail)
  refine b8A (ι := Unit) (fun i => [(0, .val (.slice none 0 0)), (1, .val (.int .i64 0)), (2, .val (.int .i64 0)), (3, .val (.int .i64 lim))]) (fun _ => True) (fun _ => 0) () trivial (by repeat' (first | exact Sub.nil | refine Sub.val rfl (by first | with_reducible rfl | (congr 1; omega)) ?_ | refine Sub.same rfl ?_)) ?_
  rintro _ -
  repeat' (first|(refine oLA ?_;first|refine a0A rfl ?_|(refine oD 27 ?_; refine a4A (hK _ _ (fdA (f := 184) (fun w' => Ext w w') (fun w' e => insN16_c.mono (by rintro e5 w5 ⟨h1, h2⟩; exact ⟨h1, e.trans h2⟩)) rfl (by decide) rfl rfl rfl rfl (fun w2 hw2 => ?_))); clear hK K)|refine wOp ?_|(refine wCm ?_ ?_<;>intro hc)|(refine wNl hK ?_;clear hK K))|refine wG ?_|(refine wCR ?_;intro K hK)|fail)
  exact b2A rfl (fun w5 e5 => ⟨rfl, hw2.trans e5⟩) (.inr rfl)
set_option maxHeartbeats 1000000 in
theorem sort16_c {w0 w : World} {v : Value} {xs : List Int} (he0 : Ext w0 w) (ho : OwnI w0.heap.size 72 .u16 w v xs) (hb : xs.length < 4611686018427387904) :
    Fc Tryz.prog 105 #[v] w (fun e w' => e = .returned (.tuple #[]) ∧ Ext w0 w' ∧ OwnI w0.heap.size 72 .u16 w' v (xs.mergeSort (fun x y => decide (x ≤ y)))) := by
  rcases ho.2 with ⟨rfl, h0⟩ | ⟨b, cap, cur, rfl, hx⟩
  · have hx0 : xs = [] := List.eq_nil_of_length_eq_zero h0
    subst hx0
    refine Fc.of (args := [_]) Tryz.func105 rfl rfl Tryz.ntmps105 (Nat.le_of_ble_eq_true rfl) ?_
    repeat' (first|(refine oLA ?_;first|refine a0A rfl ?_|(refine cyA ?_; refine bmA rfl _ rfl rfl (by exact (HasI.val (OwnI.slI ho)).c) ?_)|(refine oD 10 ?_; refine a4A (hK _ _ (eiA (f := 149) (fun w' => Ext w0 w') (fun w' e => (qqA (Go.Sort.bitsLen 0) (by decide)).mono (by rintro e5 w5 ⟨h1, h2⟩; exact ⟨h1, (he0.trans e).trans h2⟩)) rfl (by decide) rfl rfl rfl rfl rfl (fun w2 hw2 => ?_))); clear hK K)|refine wOp ?_|(refine wCm ?_ ?_<;>intro hc)|(refine oCv ?_;first|(refine oC 113 ?_; refine a1A (f := 113) rfl rfl rfl  (.val (.int .i64 (Go.Sort.bitsLen 0 : Nat))) (by intro u1 w e hu1; (try obtain rfl : u1 = _ := hu1); exact hsA 0 (by omega)) ?_))|(refine wNl hK ?_;clear hK K))|refine wG ?_|(refine wCR ?_;intro K hK)|fail)
    exact b2A rfl (fun w5 e5 => ⟨rfl, hw2.trans e5, by rw [List.mergeSort_nil]; exact OwnI.nil⟩) (.inl rfl)
  · have hk : Go.Sort.bitsLen xs.length ≤ 62 := (Go.Sort.bitsLen_le_iff _ 62).2 (by omega)
    have ho1 : cpA w0 w b cap xs.length xs.toArray := ho
    refine Fc.of (args := [_]) Tryz.func105 rfl rfl Tryz.ntmps105 (Nat.le_of_ble_eq_true rfl) ?_
    repeat' (first|(refine oLA ?_;first|refine a0A rfl ?_|(refine cyA ?_; refine bmA rfl _ rfl rfl (by exact (HasI.val (OwnI.slI ho)).c) ?_)|(refine oD 10 ?_; refine a4A (hK _ _ (eiA (f := 149) (fun w' => Ext w0 w' ∧ ∃ D', Go.Sort.PermIn 0 xs.length xs.toArray D' ∧ Go.Sort.SortedIn Go.Sort.ltInt 0 xs.length D' ∧ cpA w0 w' b cap xs.length D') (fun w' e => uhA xs.length (he0.trans e) (ho1.ext e) (by simp) (by simpa using hb) 0 xs.length (Go.Sort.bitsLen xs.length) (by omega) (by omega) (by simp) (.inl rfl) (by omega)) rfl (by decide) rfl rfl rfl rfl rfl (fun w2 hw2 => ?_))); clear hK K; obtain ⟨he2, D', hp, hs, ho2⟩ := hw2)|refine wOp ?_|(refine wCm ?_ ?_<;>intro hc)|(refine oCv ?_;first|(refine oC 113 ?_; refine a1A (f := 113) rfl rfl rfl  (.val (.int .i64 (Go.Sort.bitsLen xs.length : Nat))) (by intro u1 w e hu1; (try obtain rfl : u1 = _ := hu1); exact hsA xs.length (by omega)) ?_))|(refine wNl hK ?_;clear hK K))|refine wG ?_|(refine wCR ?_;intro K hK)|fail)
    have hu := Go.Sort.sorted_unique_holds (lt := Go.Sort.ltInt) Go.Sort.swo_ltInt (by intro x y h1 h2; simp [Go.Sort.ltInt] at h1 h2; omega) xs.toArray D' (by simpa using hp) (by simpa using hs)
    have hle : (fun x y : Int => !Go.Sort.ltInt y x) = (fun x y => decide (x ≤ y)) := by
      funext x y; unfold Go.Sort.ltInt; by_cases h : x ≤ y <;> simp [h] <;> omega
    rw [hle] at hu
    exact b2A rfl (fun w5 e5 => ⟨rfl, he2.trans e5, by have h3 := OwnI.ext ho2 e5; rw [hu] at h3; exact h3⟩) (.inl rfl)
end Srt
end Go.Proofs.YtfcioiobhpcngaaGreatDoor
end
section
set_option linter.unusedSimpArgs false
set_option linter.unusedVariables false
set_option maxRecDepth 3000
namespace Go.Proofs.YtfcioiobhpcngaaGreatDoor
open Go.LA Go.ArrP Go.RowKit
variable {A B : Nat → Prop}
theorem wxA (w : World) : Fc Tryz.prog 11 #[] w (Ret w (.pred (t4A w.heap.size #[nilS, nilS] tS))) := by
  refine Fc.of (args := []) Tryz.func11 rfl rfl Tryz.ntmps11 (Nat.le_of_ble_eq_true rfl) ?_
  repeat' (first|(refine oLA ?_;first|refine a0A rfl ?_|refine hfA (c := .agg #[nilS, nilS]) rfl (fun _ => by kernel_rfl) ?_|refine k1A rfl rfl ?_|refine wOp ?_|(refine wCm ?_ ?_<;>intro hc)|(refine wNl hK ?_;clear hK K))|refine wG ?_|(refine wCR ?_;intro K hK)|fail)
  exact alA rfl rfl (Ext.refl _) (fun v w' e hv => hv)
theorem lfA {w : World} {base base' : Nat} {cs : Array Value} {e : TypeId} (hb : base' ≤ base) (en : Ending) (w' : World) (h : Ret w (.pred (t4A base cs e)) en w') : Ret w (.pred (t4A base' cs e)) en w' := by
  obtain ⟨v, h1, h2, b, h3, h4⟩ := h
  exact ⟨v, h1, h2, b, Nat.le_trans hb h3, h4⟩
theorem nzA {w : World} {v : Value} {p : Nat → Bool} (h : NSet B A w v p) : NSet B (fun k => A k ∧ k < w.heap.size) w v p := h.imp id (fun h => h.mono (fun _ _ h => h) (fun k hk ha => ⟨ha, hk⟩))
theorem el_ss : El Tryz.prog 60 52 (.slice none 0 0) 1 24 := ⟨rfl, rfl, rfl, by decide⟩
set_option maxHeartbeats 4000000 in
theorem xdA {w : World} {va vb fv : Value} {p q : Nat → Bool} {F : Bool → Bool → Bool} {B1 B2 : Nat → Prop} (ha : NSet B1 A w va p) (hb : NSet B2 A w vb q) (hF : F false false = false)
    (hfv : ∀ w' A' u v' kp kq p' q', Ext w w' → Cn A' w' u p' kp → Cn A' w' v' q' kq → Fsh A' w' → Clb Tryz.prog fv [u, v'] w' (Ret w' (.pred (cnP A' (two F p' q') (aqA (two F p' q'))))))
    (hT : Tab w) (hB : Fsh B w) (hA : Fsh A w) : Fc Tryz.prog 58 #[va, vb, fv] w (Ret w (.pred (rsP B A (two F p q)))) := by
  have hk1 : ∀ w', Ext w w' → _ := fun w' e => oeA (ha.ext e)
  have hk2 : ∀ w', Ext w w' → _ := fun w' e => oeA (hb.ext e)
  have hl1 := bnA p
  have hl2 := bnA q
  have hn1 := gbA p
  have hn2 := gbA q
  have hdd := v9A p q
  obtain ⟨xs, hxs⟩ : ∃ xs, xs = (b3A p ++ b3A q).mergeSort (fun x y => decide (x ≤ y)) := ⟨_, rfl⟩
  have hxl : xs.length ≤ 131072 := by rw [hxs, List.length_mergeSort, List.length_append]; omega
  obtain ⟨e, he⟩ : ∃ e, e = fun k => ne p k || ne q k := ⟨_, rfl⟩
  obtain ⟨U, hU⟩ : ∃ U, U = adA e 65536 := ⟨_, rfl⟩
  rw [← he, ← hU, ← hxs] at hdd
  have hUl : U.length = cnt e 65536 := by rw [hU, baA]
  have hUle : cnt e 65536 ≤ 65536 := cnt_le _ _
  refine Fc.of (args := [_, _, _]) Tryz.func58 rfl rfl Tryz.ntmps58 (Nat.le_of_ble_eq_true rfl) ?_
  repeat' (first|(refine oLA ?_;first|refine a0A rfl ?_|(refine oD 13 ?_; refine a4A (hK _ _ (byA 7 rfl (fun v7 w7 e7 h7 => ?_))); clear hK K; obtain ⟨b, hbb, rfl, h7⟩ := h7; refine amA (by kernel_rfl) (fun K hK => dbA rfl rfl ?_))|(refine oD 14 ?_; refine oC 40 ?_; refine a1A (f := 40) rfl rfl rfl  (.pred (bjA w.heap.size tK .u16 (b3A p))) (by intro u1 w e hu1; (try obtain rfl : u1 = _ := hu1); exact (hk1 _ (e7.trans e)).mono (aaA (e7.trans e).size)) ?_)|(refine oD 16 ?_; refine oC 40 ?_; refine a1A (f := 40) rfl rfl rfl  (.pred (bjA w.heap.size tK .u16 (b3A q))) (by intro u1 w e hu1; (try obtain rfl : u1 = _ := hu1); exact (hk2 _ (e7.trans e)).mono (aaA (e7.trans e).size)) ?_)|refine wOp ?_|(refine wCm ?_ ?_<;>intro hc)|(refine oCv ?_;first|(refine oC 11 ?_; refine dcA (f := 11) rfl rfl  (.pred (t4A w.heap.size #[nilS, nilS] tS)) (by intro w e; exact (wxA _).mono (lfA e.size)) ?_))|(refine wNl hK ?_;clear hK K))|refine wG ?_|(refine wCR ?_;intro K hK)|fail)
  all_goals skip
  refine a4A (hK _ _ (byA 16 rfl (fun v16 w16 e16 h16 => byA 14 rfl (fun v14 w14 e14 h14 => ?_))))
  clear hK K
  replace h16 : OwnI w.heap.size tK .u16 w14 v16 (b3A q) := OwnI.ext h16 e14
  replace h14 : OwnI w.heap.size tK .u16 w14 v14 (b3A p) := h14
  have x14 := e7.trans (e16.trans e14)
  replace h7 := (e16.trans e14).block h7
  have hcc : ∀ w', Ext w14 w' → ∀ u, Own w14.heap.size 52 1 w' u 2 [v14, v16] → _ := fun w' x u hu => rlA (Own.slC hu) (h14.ext x).slI (h16.ext x).slI (by omega) (by omega)
  refine amA (by kernel_rfl) (fun K hK => meA rfl el_ss rfl rfl (OwnI.cells h14) (OwnI.cells h16) ?_)
  repeat' (first|(refine oLA ?_;first|refine a0A rfl ?_|(refine oD 19 ?_; refine a4A (hK _ _ (byA 8 rfl (fun v8 w8 e8 h8 => ?_))); clear hK K; replace h8 : OwnI w14.heap.size tK .u16 w8 v8 (b3A p ++ b3A q) := h8; refine amA (by kernel_rfl) (fun K hK => dbA rfl rfl ?_))|(refine oD 20 ?_; refine a4A (hK _ _ (fpA rfl (by decide) rfl rfl (fun v w' => v = .tuple #[] ∧ Ext w14 w' ∧ OwnI w14.heap.size tK .u16 w' v8 xs) (fun w1 e1 => (Srt.sort16_c (e8.trans e1) (h8.ext e1) (by rw [List.length_append]; omega)).mono (fun en w' h => ⟨_, h.1, rfl, h.2.1, hxs ▸ h.2.2⟩)) (fun v w20 hm => ?_))); clear hK K; obtain ⟨rfl, x20, h20⟩ := hm)|(refine oD 22 ?_; refine a4A (hK _ _ (fpA rfl (by decide) rfl rfl (fun v w' => Ext w14 w' ∧ OwnI w14.heap.size tK .u16 w' v U) (fun w1 e1 => (otA (x20.trans e1) (h20.ext e1) (by omega)).mono (fun en w' h => by obtain ⟨v', h1, h2, h3⟩ := h; exact ⟨v', h1, h2, hdd ▸ h3⟩)) (fun v22 w22 hm => ?_))); clear hK K; obtain ⟨x22, h22⟩ := hm; refine amA (by kernel_rfl) (fun K hK => ?_))|(refine cyA ?_; refine bmA rfl _ rfl rfl (HasI.ownV h22).c ?_)|refine wOp ?_|(refine wCm ?_ ?_<;>intro hc)|(refine oCv ?_;first|(refine oC 104 ?_; refine a1A (f := 104) rfl rfl rfl  (.pred (bjA w14.heap.size tK .u16 (b3A p ++ b3A q))) (by intro u1 w e hu1; (try obtain rfl : u1 = _ := hu1); exact (hcc _ e _ hu1).mono (aaA e.size)) ?_))|(refine wNl hK ?_;clear hK K))|refine wG ?_|(refine wCR ?_;intro K hK)|fail)
  all_goals skip
  clear hdd hcc hk1 hk2 h20 h8 hxs
  replace h7 := x22.block h7
  have lt22 : ∀ k, v22.ownBlock = some k → k < w22.heap.size := fun k hk => (Own.lt h22 k hk).2
  have nb22 : v22.ownBlock ≠ some b := Own.apart h22 h7 (by decide)
  have x022 : Ext w w22 := x14.trans x22
  obtain ⟨R, hR⟩ : ∃ R, R = two F p q := ⟨_, rfl⟩
  have hRe : ∀ k, e k = false → ne R k = false := fun k hk => by rw [hR]; exact wdA hF (by rw [he] at hk; exact hk)
  have hRtop : ∀ x, TOP ≤ x → R x = false := fun x hx => by rw [hR]; unfold two; rw [lmA ha x hx, lmA hb x hx, hF]
  have hRb : ∀ k, blk R k = two F (blk p k) (blk q k) := fun k => by rw [hR]; exact vjA hF p q k
  rw [← hR]
  refine ahA (ι := Nat) (fun i => [(0, .val va), (1, .val vb), (2, .val fv), (7, .val (.pointer (some ⟨b, 0, none⟩))), (22, .val v22), (23, .val (.int .i64 U.length)), (24, .val (.int .i64 i))]) (fun i w' => i ≤ U.length ∧ Ext w w' ∧ w22.heap.size ≤ w'.heap.size ∧ OwnI w.heap.size tK .u16 w' v22 U ∧ ∃ kv lv, RS A w' b kv lv (ggA R (kq e i)) ∧ ∀ k, onw b kv lv k → k = b ∨ w22.heap.size ≤ k) (fun i => U.length - i)
    (fun w2 e2 => ⟨0, ⟨Nat.zero_le _, x022.trans e2, e2.size, Own.base (h22.ext e2) x14.size, nilS, nilS, by rw [rkA (fun j hj => hRe j (r2A hj))]; exact RS.new (e2.block h7), fun k hk => by
      rcases hk with rfl | hk | hk
      · exact .inl rfl
      · cases hk
      · cases hk⟩, (by repeat' (first | exact Sub.nil | refine Sub.val rfl (by first | with_reducible rfl | (congr 1; omega)) ?_ | refine Sub.same rfl ?_))⟩) ?_
  rintro i w1 ⟨hi, hx1, hs1, hu1, kv, lv, hS, hon⟩
  have honw : ∀ k, onw b kv lv k → w.heap.size ≤ k := fun k hk => by
    rcases hon k hk with rfl | h
    · exact hbb
    · exact Nat.le_trans x022.size h
  by_cases hil : i < U.length
  · obtain ⟨k1, k2, k3, k4⟩ := r3A (e := e) (i := i) (by omega)
    rw [← hU] at k4
    have hst := riA hRe (i := i) (by omega)
    obtain ⟨k, hk⟩ : ∃ k, k = kq e i := ⟨_, rfl⟩
    rw [← hk] at k1 k2 k4 hst hS
    have hA1 : Fsh A w1 := hA.ext hx1
    have hF1 := hS.fsh hA1
    have g1 : ∀ w', Ext w1 w' → _ := fun w' x => r9A ((nzA ha).ext (hx1.trans x)) k1
    have g2 : ∀ w', Ext w1 w' → _ := fun w' x => r9A ((nzA hb).ext (hx1.trans x)) k1
    have hmn : ∀ w' v' p' kk, Cn (fun k => A k ∧ k < w.heap.size) w' v' p' kk → Cn (fun k => A k ∧ kv.ownBlock ≠ some k) w' v' p' kk := fun w' v' p' kk h => h.mono fun j _ hj => ⟨hj.1, fun hkv => by
      have := honw j (.inr (.inl hkv)); omega⟩
    have hof : ∀ w', Ext w1 w' → ∀ u v', Cn (fun k => A k ∧ k < w.heap.size) w' u (blk p k) (aqA (blk p k)) → Cn (fun k => A k ∧ k < w.heap.size) w' v' (blk q k) (aqA (blk q k)) → Clb Tryz.prog fv [u, v'] w' (Ret w' (.pred (cnP (fun k => A k ∧ kv.ownBlock ≠ some k) (blk R k) (aqA (blk R k))))) :=
      fun w' x u v' h1 h2 => by rw [hRb]; exact hfv w' _ u v' _ _ _ _ (hx1.trans x) (hmn _ _ _ _ h1) (hmn _ _ _ _ h2) (hF1.ext x)
    have hlen : ∀ w' u, Cn (fun k => A k ∧ kv.ownBlock ≠ some k) w' u (blk R k) (aqA (blk R k)) → _ := fun w' u h => hsA h
    have hne : ne R k = true ↔ 0 < cnt (blk R k) 65536 := ne_cnt
    obtain ⟨c, hc⟩ : ∃ c, c = cnt (blk R k) 65536 := ⟨_, rfl⟩
    have hcl := cnt_le (blk R k) 65536
    rw [← hc] at hlen hne hcl
    by_cases hc0 : c = 0
    · have hnf : ne R k = false := by
        cases h : ne R k
        · rfl
        · have := hne.1 h; omega
      rw [rjA hnf] at hst
      clear hc hne
      repeat' (first|(refine oLA ?_;first|refine a0A rfl ?_|(refine oD 26 ?_; refine asA rfl _ rfl (fun _ => rfl) rfl (HasI.ownV hu1) rfl hil ?_; rw [k4])|(refine oD 31 ?_; refine oC 47 ?_; refine a3A (f := 47) rfl rfl rfl rfl  (.pred (cnP (fun k => A k ∧ k < w.heap.size) (blk p k) (aqA (blk p k)))) (by intro u1 u2 w e hu1 hu2; (try obtain rfl : u1 = _ := hu1); (try obtain rfl : u2 = _ := hu2); exact g1 _ e) ?_)|(refine oD 34 ?_; refine oC 47 ?_; refine a3A (f := 47) rfl rfl rfl rfl  (.pred (cnP (fun k => A k ∧ k < w.heap.size) (blk q k) (aqA (blk q k)))) (by intro u1 u2 w e hu1 hu2; (try obtain rfl : u1 = _ := hu1); (try obtain rfl : u2 = _ := hu2); exact g2 _ e) ?_)|(refine oD 11 ?_; refine a4A (hK _ _ (kwA (q := 35) (φ := cnP (fun k => A k ∧ kv.ownBlock ≠ some k) (blk R k) (aqA (blk R k))) (n := 4) rfl rfl (by decide) rfl rfl b4A (fun _ => rfl) rfl (fun _ => rfl) (fun b11 c11 w11 e11 hb11 hh11 hn11 hc11 => ?_))); clear hK K)|(refine oD 36 ?_; refine cvA rfl hh11 hn11 rfl (fun _ => rfl) (fun _ => rfl) ?_)|(refine oD 37 ?_; refine oC 51 ?_; refine a1A (f := 51) rfl rfl rfl  (.val (.int .i64 c)) (by intro u1 w e hu1; (try obtain rfl : u1 = _ := hu1); exact hlen _ _ (Cn.ext hc11 e)) ?_)|refine wOp ?_|(refine wCm ?_ ?_<;>intro hc)|(refine oCv ?_;first|(refine oD 35 ?_; refine jzA rfl rfl rfl rfl (.pred (cnP (fun k => A k ∧ kv.ownBlock ≠ some k) (blk R k) (aqA (blk R k)))) (by intro vf u1 u2 w' e hf hu1 hu2; obtain rfl : vf = _ := hf; exact hof _ e _ _ hu1 hu2) ?_))|(refine wNl hK ?_;clear hK K))|refine wG ?_|(refine wCR ?_;intro K hK)|fail)
      all_goals skip
      exact a7A (i + 1) (fun w5 e5 => ⟨hil, hx1.trans (e11.trans e5), Nat.le_trans hs1 (e11.trans e5).size, hu1.ext (e11.trans e5), kv, lv, by rw [hst]; exact hS.ext (e11.trans e5), hon⟩) (by omega) (by repeat' (first | exact Sub.nil | refine Sub.val rfl (by first | with_reducible rfl | (congr 1; omega)) ?_ | refine Sub.same rfl ?_))
    · clear hne
      have hq1 : ∀ i, 65536 ≤ i → blk R k i = false := fun i hi => doA (by omega)
      have hq0 : 0 < cnt (blk R k) 65536 := by rw [← hc]; exact Nat.pos_of_ne_zero hc0
      have hlast : ∀ j, k ≤ j → ne (ggA R k) j = false := fun j hj => m3A R hj
      have hnkc := gbA (ggA R k)
      clear hc
      repeat' (first|(refine oLA ?_;first|refine wBk ?_|(refine oD 26 ?_; refine asA rfl _ rfl (fun _ => rfl) rfl (HasI.ownV hu1) rfl hil ?_; rw [k4])|(refine oD 31 ?_; refine oC 47 ?_; refine a3A (f := 47) rfl rfl rfl rfl  (.pred (cnP (fun k => A k ∧ k < w.heap.size) (blk p k) (aqA (blk p k)))) (by intro u1 u2 w e hu1 hu2; (try obtain rfl : u1 = _ := hu1); (try obtain rfl : u2 = _ := hu2); exact g1 _ e) ?_)|(refine oD 34 ?_; refine oC 47 ?_; refine a3A (f := 47) rfl rfl rfl rfl  (.pred (cnP (fun k => A k ∧ k < w.heap.size) (blk q k) (aqA (blk q k)))) (by intro u1 u2 w e hu1 hu2; (try obtain rfl : u1 = _ := hu1); (try obtain rfl : u2 = _ := hu2); exact g2 _ e) ?_)|(refine oD 11 ?_; refine a4A (hK _ _ (kwA (q := 35) (φ := cnP (fun k => A k ∧ kv.ownBlock ≠ some k) (blk R k) (aqA (blk R k))) (n := 4) rfl rfl (by decide) rfl rfl b4A (fun _ => rfl) rfl (fun _ => rfl) (fun b11 c11 w11 e11 hb11 hh11 hn11 hc11 => ?_))); clear hK K)|(refine oD 36 ?_; refine cvA rfl hh11 hn11 rfl (fun _ => rfl) (fun _ => rfl) ?_)|(refine oD 37 ?_; refine oC 51 ?_; refine a1A (f := 51) rfl rfl rfl  (.val (.int .i64 c)) (by intro u1 w e hu1; (try obtain rfl : u1 = _ := hu1); exact hlen _ _ (Cn.ext hc11 e)) ?_)|(refine oD 39 ?_; refine dbA rfl rfl ?_; have hS11 := hS.ext e11; have hcA : Cn (fun j => A j ∧ kv.ownBlock ≠ some j ∧ j < w11.heap.size) w11 (.agg c11) (blk R k) (aqA (blk R k)) := Cn.mono hc11 fun j hj ha => ⟨ha.1, ha.2, hj⟩)|(refine oNc ?_; refine akA rfl rfl ?_)|(refine oF 0 ?_; refine a2A (a' := ⟨b, 0, none⟩) rfl rfl (fun _ => rfl) ?_)|(refine oF 1 ?_; refine a2A (a' := ⟨b, 1, none⟩) rfl rfl (fun _ => rfl) ?_)|(refine oLt 52 ?_; refine a8A (c := kv) rfl (fun _ => rfl) rfl hS11.hb rfl ?_)|(refine oLt 53 ?_; refine a8A (c := lv) rfl (fun _ => rfl) rfl hS11.hb rfl ?_)|(refine oD 46 ?_; refine ezA rfl clA rfl rfl ?_)|(refine oD 52 ?_; refine cvA rfl hh11 hn11 rfl (fun _ => rfl) (fun _ => rfl) ?_)|(refine oD 53 ?_; refine j1A (base := w11.heap.size) (Nat.le_refl _) rfl e6A rfl (fun v w e h => by obtain rfl : v = _ := h; exact hcA.ext e) ?_)|refine wOp ?_|(refine wCm ?_ ?_<;>intro hc)|(refine oCv ?_;first|(refine oD 35 ?_; refine jzA rfl rfl rfl rfl (.pred (cnP (fun k => A k ∧ kv.ownBlock ≠ some k) (blk R k) (aqA (blk R k)))) (by intro vf u1 u2 w' e hf hu1 hu2; obtain rfl : vf = _ := hf; exact hof _ e _ _ hu1 hu2) ?_))|(refine wNl hK ?_;clear hK K))|(refine oCX ?_;first|refine ajA (id := 9) [8, 15, 18, 21] (by kernel_rfl) (by kernel_rfl) (by kernel_rfl) (a5A ?_))|refine wG ?_|(refine wCR ?_;intro K hK)|refine wPh ?_|fail)
      have hplK : ∀ w', Ext w11 w' → Plain (fun j => A j ∧ kv.ownBlock ≠ some j ∧ j < w11.heap.size) (fun j => kv.ownBlock = some j) w' := fun w' x j hj => by
        obtain ⟨cur, hcur⟩ := bwA (hS11.hk.ext x) hj
        exact ⟨cur, _, _, hcur, by decide, by decide, fun ha => absurd hj ha.2.1⟩
      have hplL : ∀ (AA : Nat → Prop) w' n cs, Own 0 tC 4 w' lv n cs → Plain AA (fun j => lv.ownBlock = some j) w' := fun AA w' n cs ho j hj => by
        obtain ⟨cur, hcur⟩ := bwA ho hj
        exact ⟨cur, _, _, hcur, by decide, by decide, fun _ => by decide⟩
      have lkv : ∀ k, kv.ownBlock = some k → k < w11.heap.size := fun k h => hS11.lt (.inr (.inl h))
      have llv : ∀ k, lv.ownBlock = some k → k < w11.heap.size := fun k h => hS11.lt (.inr (.inr h))
      have hsn := slot_ne hS11
      obtain ⟨Q, q1, q2, q3⟩ := hS11.hl
      have hklen := bnA (ggA R k)
      have hnkl := gbA (ggA R k)
      refine f6A rfl clA rfl hS11.hk rfl HasC.own (fun u hu => by rw [List.mem_singleton] at hu; subst hu; rfl) (by unfold maxLen; omega) (by omega) (fun kv' w1' w2 e1 ho' hf hl => ⟨(53, .pred (u5A w11.heap.size (fun j => A j ∧ kv.ownBlock ≠ some j ∧ j < w11.heap.size) (blk R k) (aqA (blk R k)))) :: _, fun t u _ hu => jpA (fun u hu => ?_) c0A t u hu, a5A ?_⟩)
      · exact RowCn.fr hu hf (hplK _ e1) (fun j hj h => by have := lkv j h; omega)
      have hb2 := hf.at (e1.block hS11.hb) (fun h => hsn.1 h)
      have hh2 := hf.at (e1.block hh11) (fun h => Own.apart hS11.hk hh11 (by decide) h)
      have q22 : Own 0 tC 4 w2 lv (nk (ggA R k)) (b9A Q) := hf.own (q2.ext e1) (fun k h1 h2 => hsn.2.2 k h2 h1)
      have hc2 := (hcA.ext e1).fr hf (hplK _ e1)
      have sz2 := Nat.le_trans e1.size hf.size
      repeat' (first|(refine oLA ?_;first|refine wBk ?_|(refine oNc ?_; refine akA rfl rfl ?_)|(refine oF 0 ?_; refine a2A (a' := ⟨b, 0, none⟩) rfl rfl (fun _ => rfl) ?_)|(refine oF 1 ?_; refine a2A (a' := ⟨b, 1, none⟩) rfl rfl (fun _ => rfl) ?_)|(refine oLt 52 ?_; refine a8A (c := kv) rfl (fun _ => rfl) rfl hb2 rfl ?_)|(refine oLt 53 ?_; refine a8A (c := lv) rfl (fun _ => rfl) rfl hb2 rfl ?_)|(refine oLt 65 ?_; refine cvA (n := 4) rfl hh2 hn11 rfl (fun _ => rfl) (fun _ => rfl) ?_)|(refine oD 53 ?_; refine j1A (base := w11.heap.size) sz2 rfl e6A rfl (fun v w e h => by obtain rfl : v = _ := h; exact hc2.ext e) ?_)|refine wOp ?_|(refine wCm ?_ ?_<;>intro hc)|(refine wNl hK ?_;clear hK K))|refine wG ?_|(refine wCR ?_;intro K hK)|refine wPh ?_|fail)
      refine pfA 53 rfl (by decide) rfl (fun v53 w3 e3 h53 => ?_)
      obtain ⟨qc, r1, r2, r3⟩ := h53
      refine f6A rfl e6A rfl (q22.ext e3) rfl (HasC.ownV r1) r3 (by unfold maxLen; omega) (by omega) (fun lv' w3' w4 e3' hol hfl hll => ⟨_, fun t u _ hu => c0A t u hu, a5A ?_⟩)
      have x23 := e3.trans e3'
      have hb4 := hfl.at (x23.block hb2) (fun h => hsn.2.1 h)
      have r14 := hfl.own (ho'.ext x23) (fun k h1 h2 => by
        obtain ⟨cur, hcur⟩ := bwA (ho'.ext x23) h1
        exact Own.apart (q22.ext x23) hcur (by decide) h2)
      have rc4 := (r2.ext e3').fr hfl (hplL _ _ _ _ (q22.ext x23))
      obtain ⟨ck1, ck2⟩ := e1A r14
      obtain ⟨cl1, cl2⟩ := e1A hol
      have hF4 : Fr (onw b kv lv) w11 w4 := (((Fr.of e1).trans (hf.mono fun k h => .inr (.inl h))).trans (Fr.of x23)).trans (hfl.mono fun k h => .inr (.inr h))
      repeat' (first|(refine oLA ?_;first|refine wBk ?_|(refine oNc ?_; refine akA rfl rfl ?_)|(refine oF 0 ?_; refine a2A (a' := ⟨b, 0, none⟩) rfl rfl (fun _ => rfl) ?_)|(refine oF 1 ?_; refine a2A (a' := ⟨b, 1, none⟩) rfl rfl (fun _ => rfl) ?_)|(refine oLt 52 ?_; refine a8A (c := kv) rfl (fun _ => rfl) rfl hb4 rfl ?_)|(refine oLt 53 ?_; refine a8A (c := lv) rfl (fun _ => rfl) rfl hb4 rfl ?_)|refine wOp ?_|(refine wCm ?_ ?_<;>intro hc)|(refine wNl hK ?_;clear hK K))|refine wG ?_|(refine wCR ?_;intro K hK)|refine wPh ?_|fail)
      refine dxA (news := [kv']) rfl rfl rfl hb4 ck1 (fun _ => rfl) (Nat.le_of_ble_eq_true rfl) (fun u hu => by rw [List.mem_singleton] at hu; subst hu; exact ck2) (fun w6 e6 => ⟨_, fun t u hu => c0A t u hu, a5A ?_⟩)
      have hb6 : (w6.setRow b #[kv', lv]).heap[b]? = _ := setRow_heap w6 b _ _ _ _ (e6.block hb4)
      have rc7 := (rc4.ext e6).setRow (e6.block hb4) ⟨by decide, by decide, by decide⟩ #[kv', lv]
      obtain ⟨w7, hw7⟩ : ∃ w7, w7 = w6.setRow b #[kv', lv] := ⟨_, rfl⟩
      have hF7 : Fr (onw b kv lv) w11 w7 := hw7 ▸ ((hF4.trans (Fr.of e6)).setRow (.inl rfl) _)
      have r17 : Own 0 tK 1 w7 kv' _ _ := hw7 ▸ Own.setRow (r14.ext e6) _ (Own.apart (r14.ext e6) (e6.block hb4) (by decide))
      have s17 : Own 0 tC 4 w7 lv' _ _ := hw7 ▸ Own.setRow (hol.ext e6) _ (Own.apart (hol.ext e6) (e6.block hb4) (by decide))
      rw [show (#[kv, lv].toList.take 0 ++ [kv'] ++ #[kv, lv].toList.drop (0 + [kv'].length)).toArray = #[kv', lv] from rfl]
      rw [← hw7] at hb6 rc7 ⊢
      clear hw7
      repeat' (first|(refine oLA ?_;first|refine wBk ?_|(refine oNc ?_; refine akA rfl rfl ?_)|(refine oF 0 ?_; refine a2A (a' := ⟨b, 0, none⟩) rfl rfl (fun _ => rfl) ?_)|(refine oF 1 ?_; refine a2A (a' := ⟨b, 1, none⟩) rfl rfl (fun _ => rfl) ?_)|(refine oLt 52 ?_; refine a8A (c := kv) rfl (fun _ => rfl) rfl hb6 rfl ?_)|(refine oLt 53 ?_; refine a8A (c := lv) rfl (fun _ => rfl) rfl hb6 rfl ?_)|refine wOp ?_|(refine wCm ?_ ?_<;>intro hc)|(refine wNl hK ?_;clear hK K))|refine wG ?_|(refine wCR ?_;intro K hK)|refine wPh ?_|fail)
      refine dxA (news := [lv']) rfl rfl rfl hb6 cl1 (fun _ => rfl) (Nat.le_of_ble_eq_true rfl) (fun u hu => by rw [List.mem_singleton] at hu; subst hu; exact cl2) (fun w8 e8 => ⟨_, fun t u hu => c0A t u hu, aiA ?_⟩)
      have hb8 : (w8.setRow b #[kv', lv']).heap[b]? = _ := setRow_heap w8 b _ _ _ _ (e8.block hb6)
      have rc9 := (rc7.ext e8).setRow (e8.block hb6) ⟨by decide, by decide, by decide⟩ #[kv', lv']
      obtain ⟨w9, hw9⟩ : ∃ w9, w9 = w8.setRow b #[kv', lv'] := ⟨_, rfl⟩
      have hF9 : Fr (onw b kv lv) w11 w9 := hw9 ▸ ((hF7.trans (Fr.of e8)).setRow (.inl rfl) _)
      have r19 : Own 0 tK 1 w9 kv' _ _ := hw9 ▸ Own.setRow (r17.ext e8) _ (Own.apart (r17.ext e8) (e8.block hb6) (by decide))
      have s19 : Own 0 tC 4 w9 lv' _ _ := hw9 ▸ Own.setRow (s17.ext e8) _ (Own.apart (s17.ext e8) (e8.block hb6) (by decide))
      rw [show (#[kv', lv].toList.take 1 ++ [lv'] ++ #[kv', lv].toList.drop (1 + [lv'].length)).toArray = #[kv', lv'] from rfl]
      rw [← hw9] at hb8 rc9 ⊢
      clear hw9
      have hkk9 : OwnI 0 tK .u16 w9 kv' (b3A (ggA R k) ++ [(k : Int)]) := by unfold OwnI; rw [List.map_append, List.length_append, List.length_singleton]; exact r19
      have hmut : Mut A w11 b kv lv _ w9 := hS11.app k1 hlast hq1 hq0 q1 q3 (Cn.loc hl e1.size rc9) hF9 hb8 hkk9 s19 (hl.le e1.size) (hll.le (by have := x23.size; omega))
      repeat' (first|(refine oLA ?_;first|refine wBk ?_|(refine oNc ?_; refine akA rfl rfl ?_)|(refine oF 0 ?_; refine a2A (a' := ⟨b, 0, none⟩) rfl rfl (fun _ => rfl) ?_)|(refine oF 1 ?_; refine a2A (a' := ⟨b, 1, none⟩) rfl rfl (fun _ => rfl) ?_)|(refine oLt 52 ?_; refine a8A (c := kv) rfl (fun _ => rfl) rfl hb8 rfl ?_)|(refine oLt 53 ?_; refine a8A (c := lv) rfl (fun _ => rfl) rfl hb8 rfl ?_)|refine wOp ?_|(refine wCm ?_ ?_<;>intro hc)|(refine wNl hK ?_;clear hK K))|refine wG ?_|(refine wCR ?_;intro K hK)|refine wPh ?_|fail)
      all_goals skip
      obtain ⟨kv9, lv9, m1, m2, m3, m4⟩ := hmut
      have hu9 := m2.own (hu1.ext e11) (fun j h1 h2 => by
        rcases hon j h2 with rfl | h3
        · exact nb22 h1
        · have := lt22 j h1; omega)
      have hon9 : ∀ j, onw b kv9 lv9 j → j = b ∨ w22.heap.size ≤ j := fun j hj => by
        have hs11 := e11.size
        rcases hj with rfl | hj | hj
        · exact .inl rfl
        · rcases m3 with m3 | m3
          · exact hon j (.inr (.inl (m3 ▸ hj)))
          · have := m3 j hj; exact .inr (by omega)
        · rcases m4 with m4 | m4
          · exact hon j (.inr (.inr (m4 ▸ hj)))
          · have := m4 j hj; exact .inr (by omega)
      have x9 := Fr.ext (hx1.trans e11) m2 honw
      have sz9 := Nat.le_trans (Nat.le_trans hs1 e11.size) m2.size
      exact a7A (i + 1) (fun w5 e5 => ⟨hil, x9.trans e5, Nat.le_trans sz9 e5.size, Own.ext hu9 e5, kv9, lv9, by rw [hst]; exact m1.ext e5, hon9⟩) (by omega) (by repeat' (first | exact Sub.nil | refine Sub.val rfl (by first | with_reducible rfl | (congr 1; omega)) ?_ | refine Sub.same rfl ?_))
  · have hie : i = U.length := by omega
    rw [hie, hUl, taA (Nat.le_refl _), vaA hRtop] at hS
    repeat' (first|(refine oLA ?_;first|refine a0A rfl ?_|refine wOp ?_|(refine wCm ?_ ?_<;>intro hc)|(refine wNl hK ?_;clear hK K))|refine wG ?_|(refine wCR ?_;intro K hK)|fail)
    all_goals skip
    exact alA rfl rfl hx1 (fun u w5 e5 hu => by obtain rfl : u = _ := hu; exact ⟨b, kv, lv, rfl, hS.ext e5, fun k hk => hB k (honw k hk)⟩)
end Go.Proofs.YtfcioiobhpcngaaGreatDoor
end
section
set_option linter.unusedSimpArgs false
set_option linter.unusedVariables false
set_option maxRecDepth 3000
namespace Go.Proofs.YtfcioiobhpcngaaGreatDoor
open Go.LA Go.ArrP Go.RowKit
variable {A B : Nat → Prop}
set_option maxHeartbeats 400000 in
theorem t3A {w0 w : World} {b : Nat} {kv lv va : Value} {p : Nat → Bool} {xs : List Int} {k : Nat} (hx0 : Ext w0 w) (hT : Tab w0) (hB : ∀ k, onw b kv lv k → w0.heap.size ≤ k) (hS : RS A w b kv lv p) (hA : Fsh A w) (hk : k < 65536) (hlast : ∀ j, k ≤ j → ne p j = false) (ha : SlI .u16 w va xs) (hi : Inc xs) (hlo : Low xs) (h0 : 0 < xs.length) :
    Fc Tryz.prog 62 #[.pointer (some ⟨b, 0, none⟩), .int .u16 k, va] w (fun en w' => en = .returned (.tuple #[]) ∧ Mut A w b kv lv (upd p k (bkA xs)) w') := by
  have hF := hS.fsh hA
  have hq1 : ∀ i, 65536 ≤ i → bkA xs i = false := fun i hi' => by
    unfold bkA; exact decide_eq_false fun h => by have := hlo _ h; omega
  have hq0 : 0 < cnt (bkA xs) 65536 := by
    rw [← baA, hxA hi hlo]; exact h0
  have hnkc := gbA p
  obtain ⟨q, hq⟩ : ∃ q, q = bkA xs := ⟨_, rfl⟩
  have hof : ∀ w', Ext w w' → _ := fun w' e => ujA (ha.ext e) hi hlo (hF.ext e)
  rw [← hq] at hq1 hq0 hof ⊢
  clear hq
  refine Fc.of (args := [_, _, _]) Tryz.func62 rfl rfl Tryz.ntmps62 (Nat.le_of_ble_eq_true rfl) ?_
  repeat' (first|(refine oLA ?_;first|refine wBk ?_|(refine oD 6 ?_; refine a4A (hK _ _ (kwA (q := 11) (φ := cnP (fun k => A k ∧ kv.ownBlock ≠ some k) q 1) (n := 4) rfl rfl (by decide) rfl rfl b4A (fun _ => rfl) rfl (fun _ => rfl) (fun b11 c11 w11 e11 hb11 hh11 hn11 hc11 => ?_))); clear hK K; refine amA (by kernel_rfl) (fun K hK => ?_))|(refine oD 13 ?_; refine dbA rfl rfl ?_; have hS11 := hS.ext e11; have hcA : Cn (fun j => A j ∧ kv.ownBlock ≠ some j ∧ j < w11.heap.size) w11 (.agg c11) q 1 := Cn.mono hc11 fun j hj ha => ⟨ha.1, ha.2, hj⟩)|(refine oNc ?_; refine akA rfl rfl ?_)|(refine oF 0 ?_; refine a2A (a' := ⟨b, 0, none⟩) rfl rfl (fun _ => rfl) ?_)|(refine oF 1 ?_; refine a2A (a' := ⟨b, 1, none⟩) rfl rfl (fun _ => rfl) ?_)|(refine oLt 52 ?_; refine a8A (c := kv) rfl (fun _ => rfl) rfl hS11.hb rfl ?_)|(refine oLt 53 ?_; refine a8A (c := lv) rfl (fun _ => rfl) rfl hS11.hb rfl ?_)|(refine oD 20 ?_; refine ezA rfl clA rfl rfl ?_)|(refine oD 26 ?_; refine cvA rfl hh11 hn11 rfl (fun _ => rfl) (fun _ => rfl) ?_)|refine wOp ?_|(refine wCm ?_ ?_<;>intro hc)|(refine oCv ?_;first|(refine oC 32 ?_; refine a1A (f := 32) rfl rfl rfl  (.tup2 (.pred (cnP (fun k => A k ∧ kv.ownBlock ≠ some k) q 1)) (.val (.bool true))) (by intro u1 w e hu1; (try obtain rfl : u1 = _ := hu1); exact hof _ e) ?_))|(refine wNl hK ?_;clear hK K))|(refine oCX ?_;first|refine ajA (id := 1) [8, 16, 19, 22] (by kernel_rfl) (by kernel_rfl) (by kernel_rfl) (a5A ?_))|refine wG ?_|(refine wCR ?_;intro K hK)|refine wPh ?_|fail)
  all_goals skip
  have hplK : ∀ w', Ext w11 w' → Plain (fun j => A j ∧ kv.ownBlock ≠ some j ∧ j < w11.heap.size) (fun j => kv.ownBlock = some j) w' := fun w' x j hj => by
    obtain ⟨cur, hcur⟩ := bwA (hS11.hk.ext x) hj
    exact ⟨cur, _, _, hcur, by decide, by decide, fun ha => absurd hj ha.2.1⟩
  have hplL : ∀ (AA : Nat → Prop) w' n cs, Own 0 tC 4 w' lv n cs → Plain AA (fun j => lv.ownBlock = some j) w' := fun AA w' n cs ho j hj => by
    obtain ⟨cur, hcur⟩ := bwA ho hj
    exact ⟨cur, _, _, hcur, by decide, by decide, fun _ => by decide⟩
  have lkv : ∀ k, kv.ownBlock = some k → k < w11.heap.size := fun k h => hS11.lt (.inr (.inl h))
  have llv : ∀ k, lv.ownBlock = some k → k < w11.heap.size := fun k h => hS11.lt (.inr (.inr h))
  have hsn := slot_ne hS11
  obtain ⟨Q, q1, q2, q3⟩ := hS11.hl
  have hklen := bnA p
  have hnkl := gbA p
  refine f6A rfl clA rfl hS11.hk rfl HasC.own (fun u hu => by rw [List.mem_singleton] at hu; subst hu; rfl) (by unfold maxLen; omega) (by omega) (fun kv' w1' w2 e1 ho' hf hl => ⟨_, fun t u _ hu => c0A t u hu, a5A ?_⟩)
  have hT2 := hT.ext (Fr.ext (hx0.trans (e11.trans e1)) hf (fun j h => hB j (.inr (.inl h)))); have hF3 : Fsh (fun j => A j ∧ kv.ownBlock ≠ some j ∧ kv'.ownBlock ≠ some j) w2 := fun j hj => ⟨hA j (Nat.le_trans (Nat.le_trans e11.size e1.size) (Nat.le_trans hf.size hj)), fun h => by have h1 := lkv j h; have h2 := e1.size; have h3 := hf.size; omega, fun h => by have h1 := (Own.lt ho' j h).2; omega⟩
  have hb2 := hf.at (e1.block hS11.hb) (fun h => hsn.1 h)
  have hh2 := hf.at (e1.block hh11) (fun h => Own.apart hS11.hk hh11 (by decide) h)
  have q22 : Own 0 tC 4 w2 lv (nk p) (b9A Q) := hf.own (q2.ext e1) (fun k h1 h2 => hsn.2.2 k h2 h1)
  have hc2 := (hcA.ext e1).fr hf (hplK _ e1)
  have sz2 := Nat.le_trans e1.size hf.size
  repeat' (first|(refine oLA ?_;first|refine wBk ?_|(refine oNc ?_; refine akA rfl rfl ?_)|(refine oF 0 ?_; refine a2A (a' := ⟨b, 0, none⟩) rfl rfl (fun _ => rfl) ?_)|(refine oF 1 ?_; refine a2A (a' := ⟨b, 1, none⟩) rfl rfl (fun _ => rfl) ?_)|(refine oLt 52 ?_; refine a8A (c := kv) rfl (fun _ => rfl) rfl hb2 rfl ?_)|(refine oLt 53 ?_; refine a8A (c := lv) rfl (fun _ => rfl) rfl hb2 rfl ?_)|(refine oLt 65 ?_; refine cvA (n := 4) rfl hh2 hn11 rfl (fun _ => rfl) (fun _ => rfl) ?_)|(first | (refine oD 27 ?_; refine oC 75 ?_; refine a1A (f := 75) rfl rfl rfl  (.pred (cnP (fun j => A j ∧ kv.ownBlock ≠ some j ∧ kv'.ownBlock ≠ some j) q (aqA q))) (by intro u1 w e hu1; (try obtain rfl : u1 = _ := hu1); exact d4A ((Cn.loc3 hl e1.size hc2).ext e) (hT2.ext e) (hF3.ext e)) ?_) | (refine oD 28 ?_; refine j1A (base := w11.heap.size) sz2 rfl e6A rfl (fun v w e h => h) ?_))|refine wOp ?_|(refine wCm ?_ ?_<;>intro hc)|(refine wNl hK ?_;clear hK K))|refine wG ?_|(refine wCR ?_;intro K hK)|refine wPh ?_|fail)
  refine pfA 28 rfl (by decide) rfl (fun v53 w3 e3 h53 => ?_)
  obtain ⟨qc, r1, r2, r3⟩ := h53
  refine f6A rfl e6A rfl (q22.ext e3) rfl (HasC.ownV r1) r3 (by unfold maxLen; omega) (by omega) (fun lv' w3' w4 e3' hol hfl hll => ⟨_, fun t u _ hu => c0A t u hu, a5A ?_⟩)
  have x23 := e3.trans e3'
  have hb4 := hfl.at (x23.block hb2) (fun h => hsn.2.1 h)
  have r14 := hfl.own (ho'.ext x23) (fun k h1 h2 => by
    obtain ⟨cur, hcur⟩ := bwA (ho'.ext x23) h1
    exact Own.apart (q22.ext x23) hcur (by decide) h2)
  have rc4 := (r2.ext e3').fr hfl (hplL _ _ _ _ (q22.ext x23))
  obtain ⟨ck1, ck2⟩ := e1A r14
  obtain ⟨cl1, cl2⟩ := e1A hol
  have hF4 : Fr (onw b kv lv) w11 w4 := (((Fr.of e1).trans (hf.mono fun k h => .inr (.inl h))).trans (Fr.of x23)).trans (hfl.mono fun k h => .inr (.inr h))
  repeat' (first|(refine oLA ?_;first|refine wBk ?_|(refine oNc ?_; refine akA rfl rfl ?_)|(refine oF 0 ?_; refine a2A (a' := ⟨b, 0, none⟩) rfl rfl (fun _ => rfl) ?_)|(refine oF 1 ?_; refine a2A (a' := ⟨b, 1, none⟩) rfl rfl (fun _ => rfl) ?_)|(refine oLt 52 ?_; refine a8A (c := kv) rfl (fun _ => rfl) rfl hb4 rfl ?_)|(refine oLt 53 ?_; refine a8A (c := lv) rfl (fun _ => rfl) rfl hb4 rfl ?_)|refine wOp ?_|(refine wCm ?_ ?_<;>intro hc)|(refine wNl hK ?_;clear hK K))|refine wG ?_|(refine wCR ?_;intro K hK)|refine wPh ?_|fail)
  refine dxA (news := [kv']) rfl rfl rfl hb4 ck1 (fun _ => rfl) (Nat.le_of_ble_eq_true rfl) (fun u hu => by rw [List.mem_singleton] at hu; subst hu; exact ck2) (fun w6 e6 => ⟨_, fun t u hu => c0A t u hu, a5A ?_⟩)
  have hb6 : (w6.setRow b #[kv', lv]).heap[b]? = _ := setRow_heap w6 b _ _ _ _ (e6.block hb4)
  have rc7 := (rc4.ext e6).setRow (e6.block hb4) ⟨by decide, by decide, by decide⟩ #[kv', lv]
  obtain ⟨w7, hw7⟩ : ∃ w7, w7 = w6.setRow b #[kv', lv] := ⟨_, rfl⟩
  have hF7 : Fr (onw b kv lv) w11 w7 := hw7 ▸ ((hF4.trans (Fr.of e6)).setRow (.inl rfl) _)
  have r17 : Own 0 tK 1 w7 kv' _ _ := hw7 ▸ Own.setRow (r14.ext e6) _ (Own.apart (r14.ext e6) (e6.block hb4) (by decide))
  have s17 : Own 0 tC 4 w7 lv' _ _ := hw7 ▸ Own.setRow (hol.ext e6) _ (Own.apart (hol.ext e6) (e6.block hb4) (by decide))
  rw [show (#[kv, lv].toList.take 0 ++ [kv'] ++ #[kv, lv].toList.drop (0 + [kv'].length)).toArray = #[kv', lv] from rfl]
  rw [← hw7] at hb6 rc7 ⊢
  clear hw7
  repeat' (first|(refine oLA ?_;first|refine wBk ?_|(refine oNc ?_; refine akA rfl rfl ?_)|(refine oF 0 ?_; refine a2A (a' := ⟨b, 0, none⟩) rfl rfl (fun _ => rfl) ?_)|(refine oF 1 ?_; refine a2A (a' := ⟨b, 1, none⟩) rfl rfl (fun _ => rfl) ?_)|(refine oLt 52 ?_; refine a8A (c := kv) rfl (fun _ => rfl) rfl hb6 rfl ?_)|(refine oLt 53 ?_; refine a8A (c := lv) rfl (fun _ => rfl) rfl hb6 rfl ?_)|refine wOp ?_|(refine wCm ?_ ?_<;>intro hc)|(refine wNl hK ?_;clear hK K))|refine wG ?_|(refine wCR ?_;intro K hK)|refine wPh ?_|fail)
  refine dxA (news := [lv']) rfl rfl rfl hb6 cl1 (fun _ => rfl) (Nat.le_of_ble_eq_true rfl) (fun u hu => by rw [List.mem_singleton] at hu; subst hu; exact cl2) (fun w8 e8 => ⟨_, fun t u hu => c0A t u hu, aiA ?_⟩)
  have hb8 : (w8.setRow b #[kv', lv']).heap[b]? = _ := setRow_heap w8 b _ _ _ _ (e8.block hb6)
  have rc9 := (rc7.ext e8).setRow (e8.block hb6) ⟨by decide, by decide, by decide⟩ #[kv', lv']
  obtain ⟨w9, hw9⟩ : ∃ w9, w9 = w8.setRow b #[kv', lv'] := ⟨_, rfl⟩
  have hF9 : Fr (onw b kv lv) w11 w9 := hw9 ▸ ((hF7.trans (Fr.of e8)).setRow (.inl rfl) _)
  have r19 : Own 0 tK 1 w9 kv' _ _ := hw9 ▸ Own.setRow (r17.ext e8) _ (Own.apart (r17.ext e8) (e8.block hb6) (by decide))
  have s19 : Own 0 tC 4 w9 lv' _ _ := hw9 ▸ Own.setRow (s17.ext e8) _ (Own.apart (s17.ext e8) (e8.block hb6) (by decide))
  rw [show (#[kv', lv].toList.take 1 ++ [lv'] ++ #[kv', lv].toList.drop (1 + [lv'].length)).toArray = #[kv', lv'] from rfl]
  rw [← hw9] at hb8 rc9 ⊢
  clear hw9
  have hkk9 : OwnI 0 tK .u16 w9 kv' (b3A p ++ [(k : Int)]) := by unfold OwnI; rw [List.map_append, List.length_append, List.length_singleton]; exact r19
  have hmut : Mut A w11 b kv lv _ w9 := hS11.app hk hlast hq1 hq0 q1 q3 (rc9.mono fun j _ ha => ⟨ha.1, ha.2.2⟩) hF9 hb8 hkk9 s19 (hl.le e1.size) (hll.le (by have := x23.size; omega))
  repeat' (first|(refine oLA ?_;first|refine wBk ?_|(refine oNc ?_; refine akA rfl rfl ?_)|(refine oF 0 ?_; refine a2A (a' := ⟨b, 0, none⟩) rfl rfl (fun _ => rfl) ?_)|(refine oF 1 ?_; refine a2A (a' := ⟨b, 1, none⟩) rfl rfl (fun _ => rfl) ?_)|(refine oLt 52 ?_; refine a8A (c := kv) rfl (fun _ => rfl) rfl hb8 rfl ?_)|(refine oLt 53 ?_; refine a8A (c := lv) rfl (fun _ => rfl) rfl hb8 rfl ?_)|refine wOp ?_|(refine wCm ?_ ?_<;>intro hc)|(refine wNl hK ?_;clear hK K))|refine wG ?_|(refine wCR ?_;intro K hK)|refine wPh ?_|fail)
  all_goals skip
  exact b2A rfl (fun w5 e5 => ⟨rfl, (hmut.from e11).ext e5⟩) (.inl rfl)
end Go.Proofs.YtfcioiobhpcngaaGreatDoor
end
