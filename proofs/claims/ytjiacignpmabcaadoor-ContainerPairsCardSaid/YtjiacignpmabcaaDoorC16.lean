import Derived.Test.YtjiacignpmabcaaDoorC15

set_option linter.unusedSimpArgs false
set_option linter.unusedVariables false
set_option maxRecDepth 3000
namespace Go.Proofs.YtjiacignpmabcaaDoor
open Go.LA Go.ArrP Go.RowKit
set_option maxHeartbeats 4000000 in
theorem rruns06_c (w : World) (v : Value) (base : Nat) (p : Nat → Bool) (h : MkI base tM w v p) : Fc Tryd.prog 57 #[v] w (Ret w (.pred (ownR w.heap.size 70 (runsL p)))) := by
  obtain ⟨b, rfl, -, hb⟩ := h
  refine Fc.of (args := [_]) Tryd.func57 rfl rfl Tryd.ntmps57 (Nat.le_of_ble_eq_true rfl) ?_
  repeat' (first
   |(refine oLA ?_;first
   |refine LA_pass rfl ?_|(refine wOpB ?_;try dsimp only [Int.reduceToNat, Int.reducePow])|refine wOp ?_|(refine wOpD ?_;try dsimp only [Int.reduceToNat, Int.toNat_natCast])|(refine LA_cmp rfl rfl rfl rfl (fun hc => ?_) (fun hc => ?_)<;>dsimp only [cmpP] at hc)|(refine LA_nil (hK [] _ (LX_nil ?_));clear hK K)|(refine LA_nil (hK _ ?_);clear hK K))
   |(refine oCX ?_;first
   |refine wCX ?_|(refine wCR ?_;intro K hK))
   |(refine oPX ?_;first
   |refine wPX ?_)
   |(refine oLX ?_;first
   |refine LX_nil ?_))
  refine CX_loopV (ι := Nat × Value) (fun i => [(0, .val (.pointer (some ⟨b, 0, none⟩))), (3, .val i.2), (4, .val (.int .i64 i.1))]) (fun i w' => Ext w w' ∧ i.1 ≤ 65536 ∧ OwnR w.heap.size 70 w' i.2 (opn p i.1)) (fun i => 65536 - i.1)
    (fun w2 e2 => ⟨(0, .slice none 0 0), ⟨e2, Nat.zero_le _, OwnR.nil⟩, (by repeat' (first | exact Sub.nil | refine Sub.val rfl (by first | with_reducible rfl | (congr 1; omega)) ?_ | refine Sub.same rfl ?_))⟩) ?_
  rintro ⟨k, so⟩ w1 ⟨he, hk, ho⟩
  dsimp only at hk ho ⊢
  have hb1 := he.block hb
  by_cases hkl : k < 65536
  · have hget : (marks p)[0 + k * 1]? = some (.bool (p k)) := by rw [show 0 + k * 1 = k by omega]; exact marks_get p (by omega)
    have hget2 : (marks p)[0 + (k - 1) * 1]? = some (.bool (p (k - 1))) := by rw [show 0 + (k - 1) * 1 = k - 1 by omega]; exact marks_get p (by omega)
    have hol : (opn p k).length ≤ k := by rw [many_opn]; exact cnt_le _ _
    cases hp : p k
    · rw [hp] at hget
      have hno := opn_no hp
      repeat' (first
       |(refine oLA ?_;first
       |refine LA_pass rfl ?_
       |refine LA_nilCheck rfl rfl ?_
       |refine LA_indexArr (n := 65536) (s := 1) rfl rfl (fun _ => rfl) rfl rfl k rfl (by omega) ?_
       |refine LA_loadB rfl (fun _ => rfl) rfl hb1 hget ?_|(refine wOpB ?_;try dsimp only [Int.reduceToNat, Int.reducePow])|refine wOp ?_|(refine wOpD ?_;try dsimp only [Int.reduceToNat, Int.toNat_natCast])|(refine LA_cmp rfl rfl rfl rfl (fun hc => ?_) (fun hc => ?_)<;>dsimp only [cmpP] at hc)|(refine LA_nil (hK [] _ (LX_nil ?_));clear hK K)|(refine LA_nil (hK _ ?_);clear hK K))
       |(refine oCX ?_;first
       |refine wCX ?_|(refine wCR ?_;intro K hK))
       |(refine oPX ?_;first
       |refine wPX ?_)
       |(refine oLX ?_;first
       |refine LX_nil ?_))
      all_goals skip
      exact PX_rndV (k + 1, so) (fun w5 e5 => ⟨he.trans e5, hkl, by dsimp only; rw [hno]; exact ho.ext e5⟩) (by dsimp only; omega) (by repeat' (first | exact Sub.nil | refine Sub.val rfl (by first | with_reducible rfl | (congr 1; omega)) ?_ | refine Sub.same rfl ?_))
    · rw [hp] at hget
      by_cases hA : 0 < k ∧ p (k - 1) = true
      · obtain ⟨Y, rfl⟩ : ∃ Y, k = Y + 1 := ⟨k - 1, by omega⟩
        have hbl : bel p (Y + 1) = true := hA.2
        rw [hA.2] at hget2
        have hfl := frm_lt p (Y + 1) hbl
        rw [opn_at hbl] at ho
        have hnew := opn_more hp hbl
        obtain ⟨f, hf⟩ : ∃ f : Int, f = frm p (Y + 1) := ⟨_, rfl⟩
        obtain ⟨a, ha⟩ : ∃ a, a = rnC p (Y + 1) := ⟨_, rfl⟩
        obtain ⟨m, hm⟩ : ∃ m : Int, m = ((Y + 1 : Nat) : Int) - f - 1 := ⟨_, rfl⟩
        rw [← hf, ← ha, ← hm] at ho
        rw [← hf, ← ha, show ((Y + 1 : Nat) : Int) - f = m + 1 by omega] at hnew
        have hal : a.length ≤ Y + 1 := ha ▸ rnC_len _ _
        have hfb : 0 ≤ f ∧ f < Y + 1 := by omega
        obtain ⟨gb, cap, cur, rfl, hgb, hgc, hgn, hgm, hgs, hgt⟩ := ho.row (by simp)
        have hra := last_at hgt
        have hln : ((a ++ [(f, m)]).length : Int) = (a.length : Int) + 1 := by simp
        have hlN : (a ++ [(f, m)]).length = a.length + 1 := by simp
        repeat' (first
         |(refine oLA ?_;first
         |refine LA_pass rfl ?_
         |refine LA_nilCheck rfl rfl ?_
         |(refine oD 19 ?_; refine LA_indexArr (n := 65536) (s := 1) rfl rfl (fun _ => rfl) rfl rfl (Y + 1) rfl (by omega) ?_)
         |(refine oD 30 ?_; refine LA_indexArr (n := 65536) (s := 1) rfl rfl (fun _ => rfl) rfl rfl (Y + 1 - 1) (by omega) (by omega) ?_)
         |(refine oD 20 ?_; refine LA_loadB rfl (fun _ => rfl) rfl hb1 hget ?_)
         |(refine oD 31 ?_; refine LA_loadB rfl (fun _ => rfl) rfl hb1 hget2 ?_)
         |(refine oD 35 ?_; refine LA_lenR rfl _ rfl rfl (HasR.ownV ho) ?_; rw [hln])
         |(refine oD 36 ?_; refine LA_subF rfl rfl rfl (by dsimp only [fits]; omega) ?_; rw [Int.add_sub_cancel])
         |(refine oD 37 ?_; refine LA_indexS (s := 2) rfl rfl (fun _ => rfl) rfl rfl (by omega) (by omega) ?_; rw [Int.toNat_natCast])
         |(refine oD 41 ?_; refine LA_indexS (s := 2) rfl rfl (fun _ => rfl) rfl rfl (by omega) (by omega) ?_; rw [Int.toNat_natCast])
         |(refine oF 1 ?_; refine LA_fieldAddr (a := ⟨gb, 0 + a.length * 2, none⟩) (a' := ⟨gb, a.length * 2 + 1, none⟩) rfl rfl (fun w => by rw [Nat.zero_add]; rfl) ?_)
         |(refine oD 39 ?_; refine LA_loadB rfl (fun _ => rfl) rfl hgc hra ?_)
         |(refine LA_stop (hK _ _ (LX_store1 rfl rfl rfl hgc (fun _ => rfl) (by omega) rfl rfl (fun w4 e4 => ?_))); clear hK K; dsimp only [vals]; refine LX_la (by kernel_rfl) (fun K hK => ?_))|(refine wOpB ?_;try dsimp only [Int.reduceToNat, Int.reducePow])|refine wOp ?_|(refine wOpD ?_;try dsimp only [Int.reduceToNat, Int.toNat_natCast])|(refine LA_cmp rfl rfl rfl rfl (fun hc => ?_) (fun hc => ?_)<;>dsimp only [cmpP] at hc)|(refine LA_nil (hK [] _ (LX_nil ?_));clear hK K)|(refine LA_nil (hK _ ?_);clear hK K))
         |(refine oCX ?_;first
         |refine wCX ?_|(refine wCR ?_;intro K hK))
         |(refine oPX ?_;first
         |refine wPX ?_)
         |(refine oLX ?_;first
         |refine LX_nil ?_))
        all_goals skip
        refine PX_rndV (Y + 1 + 1, _) (fun w5 e5 => ⟨((he.trans e4).setRow hgb _).trans e5, hkl, ?_⟩) (by dsimp only; omega) (by repeat' (first | exact Sub.nil | refine Sub.val rfl (by first | with_reducible rfl | (congr 1; omega)) ?_ | refine Sub.same rfl ?_))
        dsimp only
        rw [hnew]
        exact OwnR.ext (OwnR.bump hgb (e4.block hgc) hgn hgm hgs hgt (m + 1)) e5
      · have hbl : bel p k = false := by
          cases k with
          | zero => rfl
          | succ Y =>
            show p Y = false
            cases hY : p Y
            · rfl
            · exact absurd ⟨by omega, hY⟩ hA
        have hnew := opn_new hp hbl
        have hA' : 0 < k → p (k - 1) = false := fun h0 => by
          cases hY : p (k - 1)
          · rfl
          · exact absurd ⟨h0, hY⟩ hA
        by_cases hk0 : 0 < k
        · rw [hA' hk0] at hget2
          repeat' (first
           |(refine oLA ?_;first
           |refine LA_pass rfl ?_
           |refine LA_nilCheck rfl rfl ?_
           |(refine oD 19 ?_; refine LA_indexArr (n := 65536) (s := 1) rfl rfl (fun _ => rfl) rfl rfl k rfl (by omega) ?_)
           |(refine oD 30 ?_; refine LA_indexArr (n := 65536) (s := 1) rfl rfl (fun _ => rfl) rfl rfl (k - 1) (by omega) (by omega) ?_)
           |(refine oD 20 ?_; refine LA_loadB rfl (fun _ => rfl) rfl hb1 hget ?_)
           |(refine oD 31 ?_; refine LA_loadB rfl (fun _ => rfl) rfl hb1 hget2 ?_)
           |refine LA_build1 (c := runV k 0) rfl rfl (fun w => run_build w _ _ _ (by kernel_rfl)) ?_
           |refine LA_oneS rfl run_el rfl rfl (by decide) ?_
           |(refine LA_stop (hK _ _ (LX_appendR rfl (by decide) run_el rfl ho rfl (by omega) (by omega) he (fun v' w' he' ho' => ?_))); clear hK K; dsimp only [vals]; refine LX_la (by kernel_rfl) (fun K hK => ?_))|(refine wOpB ?_;try dsimp only [Int.reduceToNat, Int.reducePow])|refine wOp ?_|(refine wOpD ?_;try dsimp only [Int.reduceToNat, Int.toNat_natCast])|(refine LA_cmp rfl rfl rfl rfl (fun hc => ?_) (fun hc => ?_)<;>dsimp only [cmpP] at hc)|(refine LA_nil (hK [] _ (LX_nil ?_));clear hK K)|(refine LA_nil (hK _ ?_);clear hK K))
           |(refine oCX ?_;first
           |refine wCX ?_|(refine wCR ?_;intro K hK))
           |(refine oPX ?_;first
           |refine wPX ?_)
           |(refine oLX ?_;first
           |refine LX_nil ?_))
          all_goals skip
          exact PX_rndV (k + 1, v') (fun w5 e5 => ⟨he'.trans e5, hkl, by dsimp only; rw [hnew]; exact ho'.ext e5⟩) (by dsimp only; omega) (by repeat' (first | exact Sub.nil | refine Sub.val rfl (by first | with_reducible rfl | (congr 1; omega)) ?_ | refine Sub.same rfl ?_))
        · obtain rfl : k = 0 := by omega
          repeat' (first
           |(refine oLA ?_;first
           |refine LA_pass rfl ?_
           |refine LA_nilCheck rfl rfl ?_
           |(refine oD 19 ?_; refine LA_indexArr (n := 65536) (s := 1) rfl rfl (fun _ => rfl) rfl rfl 0 rfl (by omega) ?_)
           |(refine oD 20 ?_; refine LA_loadB rfl (fun _ => rfl) rfl hb1 hget ?_)
           |refine LA_build1 (c := runV ((0 : Nat) : Int) 0) rfl rfl (fun w => run_build w _ _ _ (by kernel_rfl)) ?_
           |refine LA_oneS rfl run_el rfl rfl (by decide) ?_
           |(refine LA_stop (hK _ _ (LX_appendR rfl (by decide) run_el rfl ho rfl (by omega) (by omega) he (fun v' w' he' ho' => ?_))); clear hK K; dsimp only [vals]; refine LX_la (by kernel_rfl) (fun K hK => ?_))|(refine wOpB ?_;try dsimp only [Int.reduceToNat, Int.reducePow])|refine wOp ?_|(refine wOpD ?_;try dsimp only [Int.reduceToNat, Int.toNat_natCast])|(refine LA_cmp rfl rfl rfl rfl (fun hc => ?_) (fun hc => ?_)<;>dsimp only [cmpP] at hc)|(refine LA_nil (hK [] _ (LX_nil ?_));clear hK K)|(refine LA_nil (hK _ ?_);clear hK K))
           |(refine oCX ?_;first
           |refine wCX ?_|(refine wCR ?_;intro K hK))
           |(refine oPX ?_;first
           |refine wPX ?_)
           |(refine oLX ?_;first
           |refine LX_nil ?_))
          all_goals skip
          exact PX_rndV (0 + 1, v') (fun w5 e5 => ⟨he'.trans e5, hkl, by dsimp only; rw [hnew]; exact ho'.ext e5⟩) (by dsimp only; omega) (by repeat' (first | exact Sub.nil | refine Sub.val rfl (by first | with_reducible rfl | (congr 1; omega)) ?_ | refine Sub.same rfl ?_))
  · obtain rfl : k = 65536 := by omega
    repeat' (first
     |(refine oLA ?_;first
     |refine LA_pass rfl ?_|(refine wOpB ?_;try dsimp only [Int.reduceToNat, Int.reducePow])|refine wOp ?_|(refine wOpD ?_;try dsimp only [Int.reduceToNat, Int.toNat_natCast])|(refine LA_cmp rfl rfl rfl rfl (fun hc => ?_) (fun hc => ?_)<;>dsimp only [cmpP] at hc)|(refine LA_nil (hK [] _ (LX_nil ?_));clear hK K)|(refine LA_nil (hK _ ?_);clear hK K))
     |(refine oCX ?_;first
     |refine wCX ?_|(refine wCR ?_;intro K hK))
     |(refine oPX ?_;first
     |refine wPX ?_)
     |(refine oLX ?_;first
     |refine LX_nil ?_))
    exact PX_retP rfl rfl he (fun u w5 e5 hu' => by obtain rfl : u = _ := hu'; exact ho.ext e5)
end Go.Proofs.YtjiacignpmabcaaDoor
