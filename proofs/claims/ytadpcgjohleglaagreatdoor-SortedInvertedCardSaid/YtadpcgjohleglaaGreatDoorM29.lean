import Derived.Test.YtadpcgjohleglaaGreatDoorM21
import Derived.Test.YtadpcgjohleglaaGreatDoorM23
import Derived.Test.YtadpcgjohleglaaGreatDoorM24
import Derived.Test.YtadpcgjohleglaaGreatDoorM28
section
set_option linter.unusedSimpArgs false
set_option linter.unusedVariables false
set_option maxRecDepth 3000
namespace Go.Proofs.YtadpcgjohleglaaGreatDoor
open Go.LA Go.ArrP Go.RowKit Go.SrtP
theorem btA (lo hi : Nat) : rng (fun _ => false) lo hi = itv lo hi := by funext y; unfold rng itv; rw [Bool.false_or]
set_option maxHeartbeats 4000000 in
theorem sinv_s (w : World) (hT : Tab w) {v : Value} {ids : List Int} (h : SlI .i64 w v ids) (many : Int) : Fc Tryz.prog 3 #[v, .int .i64 many] w (Ret w (.val (.bool true))) := by
  have hl := h.len
  have htop := TOP_eq
  refine Fc.of (args := [_, _]) Tryz.func3 rfl rfl Tryz.ntmps3 (Nat.le_of_ble_eq_true rfl) ?_
  by_cases hbig : 300 < (ids.length : Int)
  · skip
    repeat' (first|(refine oLA ?_;first|refine LA_pass rfl ?_|refine wOp ?_|(refine wCm ?_ ?_<;>intro hc)|(refine oCv ?_;first|(refine oC 8 ?_; refine LA_call0 (f := 8) rfl rfl  (.val (.bool true)) (by intro w e; exact Sx.known_c _) ?_))|(refine wNl hK ?_;clear hK K))|refine wG ?_|(refine wCR ?_;intro K hK)|fail)
    all_goals exact PX_retE rfl rfl (Ext.refl _) rfl
  by_cases hbig2 : 60 < many
  · skip
    repeat' (first|(refine oLA ?_;first|refine LA_pass rfl ?_|refine wOp ?_|(refine wCm ?_ ?_<;>intro hc)|(refine oCv ?_;first|(refine oC 8 ?_; refine LA_call0 (f := 8) rfl rfl  (.val (.bool true)) (by intro w e; exact Sx.known_c _) ?_))|(refine wNl hK ?_;clear hK K))|refine wG ?_|(refine wCR ?_;intro K hK)|fail)
    all_goals exact PX_retE rfl rfl (Ext.refl _) rfl
  cases ho : SrtP.ofS ids many with
  | none =>
    cases hm : alA ids many with
    | false =>
      repeat' (first|(refine oLA ?_;first|refine LA_pass rfl ?_|refine wOp ?_|(refine wCm ?_ ?_<;>intro hc)|(refine oCv ?_;first|(refine oC 9 ?_; refine LA_call2 (f := 9) rfl rfl rfl rfl  (.tup2 (.val (.pointer none)) (.val (.int .i64 2))) (by intro u1 u2 w e hu1 hu2; (try obtain rfl : u1 = _ := hu1); (try obtain rfl : u2 = _ := hu2); exact Sx.of_at (h.ext e) ho) ?_)|(refine oC 10 ?_; refine LA_call2 (f := 10) rfl rfl rfl rfl  (.tup2 (.val (.pointer none)) (.val (.int .i64 2))) (by intro u1 u2 w e hu1 hu2; (try obtain rfl : u1 = _ := hu1); (try obtain rfl : u2 = _ := hu2); exact bcA (h.ext e) (hT.ext e) hm) ?_)|(refine oC 8 ?_; refine LA_call0 (f := 8) rfl rfl  (.val (.bool true)) (by intro w e; exact Sx.known_c _) ?_))|(refine wNl hK ?_;clear hK K))|refine wG ?_|(refine wCR ?_;intro K hK)|fail)
      all_goals skip
      all_goals exact PX_retE rfl rfl (Ext.refl _) rfl
    | true =>
      repeat' (first|(refine oLA ?_;first|refine LA_pass rfl ?_|refine wOp ?_|(refine wCm ?_ ?_<;>intro hc)|(refine oCv ?_;first|(refine oC 9 ?_; refine LA_call2 (f := 9) rfl rfl rfl rfl  (.tup2 (.val (.pointer none)) (.val (.int .i64 2))) (by intro u1 u2 w e hu1 hu2; (try obtain rfl : u1 = _ := hu1); (try obtain rfl : u2 = _ := hu2); exact Sx.of_at (h.ext e) ho) ?_)|(refine oC 10 ?_; refine LA_call2 (f := 10) rfl rfl rfl rfl  (.tup2 (.pred (ixP tIv many.toNat fun i => idP ids i)) (.val (.int .i64 0))) (by intro u1 u2 w e hu1 hu2; (try obtain rfl : u1 = _ := hu1); (try obtain rfl : u2 = _ := hu2); exact b0A (h.ext e) (hT.ext e) hm) ?_)|(refine oC 8 ?_; refine LA_call0 (f := 8) rfl rfl  (.val (.bool true)) (by intro w e; exact Sx.known_c _) ?_))|(refine wNl hK ?_;clear hK K))|refine wG ?_|(refine wCR ?_;intro K hK)|fail)
      all_goals skip
      all_goals exact PX_retE rfl rfl (Ext.refl _) rfl
  | some es =>
    obtain ⟨hg, hm, hm0, hm1, hn, hr⟩ := bvA ho
    obtain ⟨n, rfl⟩ := Int.eq_ofNat_of_zero_le hm0
    have hnl : es.length = n := by have : ((n : Nat) : Int) = Int.ofNat n := rfl; omega
    have hin : IdsIn ids n := hnl ▸ bxA hg
    have hmay : alA ids n = true := (a9A _ _).2 ⟨hm0, hm1, hn, fun x hx => by
      obtain ⟨i, hi, rfl⟩ := List.getElem_of_mem hx
      have := hin i hi
      rw [List.getD_eq_getElem?_getD, List.getElem?_eq_getElem hi] at this; exact this⟩
    repeat' (first|(refine oLA ?_;first|refine LA_pass rfl ?_|refine wOp ?_|(refine wCm ?_ ?_<;>intro hc)|(refine oCv ?_;first|(refine oC 9 ?_; refine LA_call2 (f := 9) rfl rfl rfl rfl  (.tup2 (.pred (Sx.idxI es)) (.val (.int .i64 0))) (by intro u1 u2 w e hu1 hu2; (try obtain rfl : u1 = _ := hu1); (try obtain rfl : u2 = _ := hu2); exact Sx.of_at (h.ext e) ho) ?_)|(refine oC 10 ?_; refine LA_call2 (f := 10) rfl rfl rfl rfl  (.tup2 (.pred (ixP tIv n fun i => idP ids i)) (.val (.int .i64 0))) (by intro u1 u2 w e hu1 hu2; (try obtain rfl : u1 = _ := hu1); (try obtain rfl : u2 = _ := hu2); exact b0A (h.ext e) (hT.ext e) hmay) ?_))|(refine wNl hK ?_;clear hK K))|refine wG ?_|(refine wCR ?_;intro K hK)|fail)
    all_goals skip
    refine CX_pick 5 rfl (fun vx wx ex hx => ?_)
    refine CX_pick 7 rfl (fun vy wy ey hy => ?_)
    refine CX_loopV (ι := Nat) (fun k => [(5, .val vx), (7, .val vy), (42, .val (.int .i64 n)), (43, .val (.int .i64 k))])
      (fun k w' => Ext w w' ∧ k ≤ n ∧ Sx.IdxI w' vx es ∧ IX tIv n (fun i => idP ids i) w' vy) (fun k => n - k)
      (fun w2 e2 => ⟨0, ⟨(ex.trans ey).trans e2, Nat.zero_le _, Sx.IdxI.ext hx (ey.trans e2), IX.ext hy e2⟩, (by repeat' (first | exact Sub.nil | refine Sub.val rfl (by first | with_reducible rfl | (congr 1; omega)) ?_ | refine Sub.same rfl ?_))⟩) ?_
    rintro k w1 ⟨he, hk0, hX, hY⟩
    have hT1 := hT.ext he
    by_cases hk : k < n
    · have hkl : k < es.length := by omega
      have hb0 := hg.beg_nonneg k (by omega)
      have hb1 := hg.up k hkl
      have hb2 := hg.le hkl
      obtain ⟨a, ha⟩ := Int.eq_ofNat_of_zero_le hb0
      have ha' : beg es k = ((a : Nat) : Int) := ha
      obtain ⟨b, hb⟩ := Int.eq_ofNat_of_zero_le (show 0 ≤ es.getD k 0 by omega)
      have hb' : es.getD k 0 = ((b : Nat) : Int) := hb
      have hitv := bwA hg hkl ha' hb'
      have hrw : Sx.rowsS es (k : Int) = ((a : Int), (b : Int)) := by
        unfold Sx.rowsS
        rw [if_neg (by omega), Int.toNat_natCast, ha', hb']
      have hrows : ∀ w', Ext w1 w' → _ := fun w' e => Sx.rows_at (hX.ext e) hrw
      have hq3 := adA (ids := ids) hk
      have hiv : ∀ w', Ext w1 w' → _ := fun w' e => aeA (B := TT) (.inr (hY.ext e)) (by omega) tt (k : Int)
      rw [hq3] at hiv
      obtain ⟨p, hp⟩ : ∃ p, p = idP ids k := ⟨_, rfl⟩
      rw [← hp] at hiv hitv
      clear hp hq3 hrw ha hb
      repeat' (first|(refine oLA ?_;first|refine LA_pass rfl ?_|(refine oD 53 ?_; refine LA_stop (hK _ _ (LX_pick 12 rfl (fun v3 w3 e3 h3 => ?_))); clear hK K; obtain ⟨bb, kv0, lv0, rfl, hS0, hB0⟩ := h3; refine LX_la (by kernel_rfl) (fun K hK => LA_moveV rfl rfl ?_))|(refine oD 58 ?_; refine LA_stop (hK _ _ (LX_call3 rfl (by decide) rfl rfl rfl rfl (fun v w' => v = .tuple #[] ∧ ∃ wz, Ext w1 wz ∧ Mut TT wz bb kv0 lv0 p w') (fun w8 e8 => ?_) (fun v w2 hm => ?_))); clear hK K)|refine wOp ?_|(refine wCm ?_ ?_<;>intro hc)|(refine oCv ?_;first|(refine oC 11 ?_; refine LA_call2 (f := 11) rfl rfl rfl rfl  (.tup2 (.val (.int .i64 a)) (.val (.int .i64 b))) (by intro u1 u2 w e hu1 hu2; (try obtain rfl : u1 = _ := hu1); (try obtain rfl : u2 = _ := hu2); exact hrows _ e) ?_)|(refine oC 12 ?_; refine LA_call0 (f := 12) rfl rfl  (.pred (rsP (fun k => w1.heap.size ≤ k) TT (fun _ => false))) (by intro w e; exact new_c _ (fun k hk => Nat.le_trans e.size hk)) ?_))|(refine wNl hK ?_;clear hK K))|refine wG ?_|(refine wCR ?_;intro K hK)|fail)
      all_goals skip
      · have := addrange_s (e3.trans e8) hT1 hB0 (hS0.ext e8) tt (lo := a) (hi := b) (by omega) (by omega)
        rw [btA, show min b TOP = b by omega, hitv] at this
        exact this.mono fun en w' h => ⟨_, h.1, rfl, _, e3.trans e8, h.2⟩
      obtain ⟨rfl, wz, ez, kv, lv, hS, hF, hl1, hl2⟩ := hm
      have x2 : Ext w1 w2 := Fr.ext ez hF hB0
      have hN : RSet TT TT w2 (.pointer (some ⟨bb, 0, none⟩)) p := ⟨bb, kv, lv, rfl, hS, fun _ _ => trivial⟩
      have hT2 := hT1.ext x2
      have hiv2 : ∀ w', Ext w2 w' → _ := fun w' e => hiv w' (x2.trans e)
      repeat' (first|(refine oLA ?_;first|refine LA_pass rfl ?_|refine wOp ?_|(refine wCm ?_ ?_<;>intro hc)|(refine oCv ?_;first|(refine oC 15 ?_; refine LA_call2 (f := 15) rfl rfl rfl rfl  (.pred (rsP TT TT p)) (by intro u1 u2 w e hu1 hu2; (try obtain rfl : u1 = _ := hu1); (try obtain rfl : u2 = _ := hu2); exact hiv2 _ e) ?_)|(refine oC 14 ?_; refine LA_call2 (f := 14) rfl rfl rfl rfl  (.val (.bool true)) (by intro u1 u2 w e hu1 hu2; (try obtain rfl : u1 = _ := hu1); (try obtain rfl : u2 = _ := hu2); exact ret_eq (by rw [decide_eq_true rfl]) (same_s (B := TT) (A := TT) (p := p) (q := p) (.inr (hN.ext e)) (.inr hu2) (hT2.ext e))) ?_))|(refine wNl hK ?_;clear hK K))|refine wG ?_|(refine wCR ?_;intro K hK)|fail)
      all_goals skip
      exact PX_rndV (k + 1) (fun w5 e5 => ⟨(he.trans x2).trans e5, hk, hX.ext (x2.trans e5), hY.ext (x2.trans e5)⟩) (by omega) (by repeat' (first | exact Sub.nil | refine Sub.val rfl (by first | with_reducible rfl | (congr 1; omega)) ?_ | refine Sub.same rfl ?_))
    · obtain rfl : k = n := by omega
      repeat' (first|(refine oLA ?_;first|refine LA_pass rfl ?_|refine wOp ?_|(refine wCm ?_ ?_<;>intro hc)|(refine oCv ?_;first|(refine oC 8 ?_; refine LA_call0 (f := 8) rfl rfl  (.val (.bool true)) (by intro w e; exact Sx.known_c _) ?_))|(refine wNl hK ?_;clear hK K))|refine wG ?_|(refine wCR ?_;intro K hK)|fail)
      all_goals skip
      exact PX_retE rfl rfl he rfl
end Go.Proofs.YtadpcgjohleglaaGreatDoor
end
