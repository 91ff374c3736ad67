import Derived.Test.YtfcioiobhpcngaaGreatDoorM23
import Derived.Test.YtfcioiobhpcngaaGreatDoorM24
import Derived.Test.YtfcioiobhpcngaaGreatDoorM25
section
set_option linter.unusedSimpArgs false
set_option linter.unusedVariables false
set_option maxRecDepth 3000
namespace Go.Proofs.YtfcioiobhpcngaaGreatDoor
open Go.LA Go.ArrP Go.RowKit
abbrev noP : Nat → Bool := fun _ => false
section
variable {w : World} {v u : Value} {p q r : Nat → Bool} {n m : Nat}
theorem a6A (h : NSet TT TT w v p) (h' : NSet TT TT w u q) (hT : Tab w) (hr : two (fun x y => x && y) p q = r) : Fc Tryz.prog 28 #[v, u] w (Ret w (.pred (rsP TT TT r))) := by
  subst hr; exact and_s (A := TT) (B := TT) (B1 := TT) (B2 := TT) h h' hT tt tt
theorem ajA (h : NSet TT TT w v p) (h' : NSet TT TT w u q) (hT : Tab w) (hr : two (fun x y => x || y) p q = r) : Fc Tryz.prog 26 #[v, u] w (Ret w (.pred (rsP TT TT r))) := by
  subst hr; exact or_s (A := TT) (B := TT) (B1 := TT) (B2 := TT) h h' hT tt tt
theorem abA (h : NSet TT TT w v p) (h' : NSet TT TT w u q) (hT : Tab w) (hr : two (fun x y => x && !y) p q = r) : Fc Tryz.prog 24 #[v, u] w (Ret w (.pred (rsP TT TT r))) := by
  subst hr; exact andnot_s (A := TT) (B := TT) (B1 := TT) (B2 := TT) h h' hT tt tt
theorem aeA (h : NSet TT TT w v p) (h' : NSet TT TT w u q) (hT : Tab w) (hr : two (fun x y => !(x == y)) p q = r) : Fc Tryz.prog 29 #[v, u] w (Ret w (.pred (rsP TT TT r))) := by
  subst hr; exact xor_s (A := TT) (B := TT) (B1 := TT) (B2 := TT) h h' hT tt tt
theorem a4A (h : NSet TT TT w v p) (hn : n < 18446744073709551616) (hT : Tab w) (hr : notP n p = r) : Fc Tryz.prog 30 #[v, .int .u64 n] w (Ret w (.pred (rsP TT TT r))) := by
  subst hr; exact not_s (A := TT) (B := TT) (B1 := TT) h hn hT tt tt
theorem a2A (h : NSet TT TT w v p) (hr : cnt p TOP = m) : Fc Tryz.prog 15 #[v] w (Ret w (.val (.int .i64 (m : Nat)))) := by
  subst hr; exact len_s h
theorem same_t (h : NSet TT TT w v p) (h' : NSet TT TT w u q) (hT : Tab w) (hr : p = q) : Fc Tryz.prog 17 #[v, u] w (Ret w (.val (.bool true))) := by
  subst hr; exact ret_eq (by rw [decide_eq_true rfl]) (same_s (B := TT) (A := TT) h h' hT)
end
theorem a7A (p q : Nat → Bool) : ∀ T, cnt (two (fun x y => x && y) p q) T + cnt (two (fun x y => x || y) p q) T = cnt p T + cnt q T
  | 0 => rfl
  | T + 1 => by
    have := a7A p q T
    have e1 : two (fun x y => x && y) p q T = (p T && q T) := rfl
    have e2 : two (fun x y => x || y) p q T = (p T || q T) := rfl
    simp only [cnt, e1, e2]
    cases p T <;> cases q T <;> simp <;> omega
theorem ahA : spL noP TOP = [] := spL_off fun _ _ => rfl
theorem a1A (T : Nat) : cnt noP T = 0 := cnt_zero T fun _ _ => rfl
theorem adA (x : Nat) (hx : x < TOP) : cnt (addM noP x) TOP = 1 := by
  have := cnt_add1 (p := noP) (q := addM noP x) (k := x) (fun j => rfl) rfl TOP
  rw [if_pos hx, a1A] at this
  exact this
theorem Plain.mono' {A R R' : Nat → Prop} {w : World} (h : Plain A R w) (hR : ∀ k, R' k → R k) : Plain A R' w := fun k hk => h k (hR k hk)
set_option maxHeartbeats 4000000 in
theorem rlaws_s (w : World) (hT : Tab w) {v v' : Value} {xs ys : List Sp} (h : SlP .u64 w v xs) (hx : U64 xs) (h' : SlP .u64 w v' ys) (hy : U64 ys) {n : Nat} (hn : n < 18446744073709551616) :
    Fc Tryz.prog 6 #[v, v', .int .u64 n] w (Ret w (.val (.bool true))) := by
  have htop := TOP_eq
  refine Fc.ofM (args := [_, _, _]) Tryz.func6 rfl rfl Tryz.ntmps6 (Nat.le_of_ble_eq_true rfl) ?_
  refine CX_regN (ι := Nat) (fun i => ⟨192, []⟩) (fun i => [(0, .val v), (1, .val v'), (2, .val (.int .u64 n)), (6, .val (.pointer (some ⟨i, 0, none⟩)))]) (fun i W => Ext w W ∧ w.heap.size ≤ i ∧ W.heap[i]? = some (.cells #[.bool false] 4 (0, 0))) ?_ ?_
  · skip
    repeat' (first|(refine oLA ?_;first|refine LA_pass rfl ?_|(refine oD 6 ?_; refine LA_stop (hK _ _ (LX_al rfl (Nat.le_of_ble_eq_true rfl) (fun _ => rfl) (fun bok w3 e3 hbok hb3 => ?_))); clear hK K; refine LX_la (by kernel_rfl) (fun K hK => ?_))|refine wOp ?_|(refine wCm ?_ ?_<;>intro hc)|(refine wNl hK ?_;clear hK K))|refine wG ?_|(refine wCR ?_;intro K hK)|fail)
    all_goals skip
    exact PX_cutN bok (fun w7 e7 => ⟨e3.trans e7, hbok, e7.block hb3⟩) rfl (by repeat' (first | exact Sub.nil | refine Sub.val rfl (by first | with_reducible rfl | (congr 1; omega)) ?_ | refine Sub.same rfl ?_))
  rintro bok w1 ⟨he, hok0, hbok⟩
  replace hT := hT.ext he
  replace h := h.ext he
  replace h' := h'.ext he
  have hgr : ∀ w', Ext w1 w' → _ := fun w' e => a3A (h.ext e) hx
  have hgr' : ∀ w', Ext w1 w' → _ := fun w' e => a3A (h'.ext e) hy
  have hpw : ∀ w', Ext w1 w' → _ := fun w' e => spans_s (A := TT) (B := TT) (h.ext e) hx (hT.ext e) tt tt
  have hqw : ∀ w', Ext w1 w' → _ := fun w' e => spans_s (A := TT) (B := TT) (h'.ext e) hy (hT.ext e) tt tt
  obtain ⟨gr, hgr3⟩ : ∃ gr, gr = grt xs := ⟨_, rfl⟩
  obtain ⟨gr', hgr4⟩ : ∃ gr, gr = grt ys := ⟨_, rfl⟩
  rw [← hgr3] at hgr
  rw [← hgr4] at hgr'
  obtain ⟨p, hp⟩ : ∃ p, p = spU xs := ⟨_, rfl⟩
  obtain ⟨q, hq⟩ : ∃ p, p = spU ys := ⟨_, rfl⟩
  rw [← hp] at hpw
  rw [← hq] at hqw
  clear hgr3 hgr4 hp hq hx hy
  by_cases hcase : gr = true ∨ gr' = true ∨ 500000 < (n : Int)
  · rcases hcase with rfl | hcase
    · skip
      repeat' (first|(refine oLA ?_;first|refine LA_pass rfl ?_|(refine LA_stop (hK _ _ (LX_store1 rfl rfl rfl hbok (fun _ => rfl) (Nat.lt_succ_self 0) rfl rfl (fun w4 e4 => ?_))); clear hK K; dsimp only [LA.vals]; refine LX_la (by kernel_rfl) (fun K hK => ?_))|refine wOp ?_|(refine wCm ?_ ?_<;>intro hc)|(refine oCv ?_;first|(refine oD 17 ?_; refine oC 21 ?_; refine LA_call1 (f := 21) rfl rfl rfl  (.val (.bool true)) (by intro u1 w e hu1; (try obtain rfl : u1 = _ := hu1); exact hgr _ e) ?_)|(refine oD 20 ?_; refine oC 21 ?_; refine LA_call1 (f := 21) rfl rfl rfl  (.val (.bool true)) (by intro u1 w e hu1; (try obtain rfl : u1 = _ := hu1); exact hgr' _ e) ?_)|(refine oC 10 ?_; refine LA_call0 (f := 10) rfl rfl  (.val (.bool true)) (by intro w e; exact a0A _ (hT.ext e)) ?_))|(refine wNl hK ?_;clear hK K))|refine wG ?_|(refine wCR ?_;intro K hK)|fail)
      all_goals skip
      exact PX_okM rfl rfl (fun _ => rfl) hbok hok0 he e4 (show DsOK _ [] _ from trivial) true
    · cases gr with
      | true =>
        repeat' (first|(refine oLA ?_;first|refine LA_pass rfl ?_|(refine LA_stop (hK _ _ (LX_store1 rfl rfl rfl hbok (fun _ => rfl) (Nat.lt_succ_self 0) rfl rfl (fun w4 e4 => ?_))); clear hK K; dsimp only [LA.vals]; refine LX_la (by kernel_rfl) (fun K hK => ?_))|refine wOp ?_|(refine wCm ?_ ?_<;>intro hc)|(refine oCv ?_;first|(refine oD 17 ?_; refine oC 21 ?_; refine LA_call1 (f := 21) rfl rfl rfl  (.val (.bool true)) (by intro u1 w e hu1; (try obtain rfl : u1 = _ := hu1); exact hgr _ e) ?_)|(refine oD 20 ?_; refine oC 21 ?_; refine LA_call1 (f := 21) rfl rfl rfl  (.val (.bool true)) (by intro u1 w e hu1; (try obtain rfl : u1 = _ := hu1); exact hgr' _ e) ?_)|(refine oC 10 ?_; refine LA_call0 (f := 10) rfl rfl  (.val (.bool true)) (by intro w e; exact a0A _ (hT.ext e)) ?_))|(refine wNl hK ?_;clear hK K))|refine wG ?_|(refine wCR ?_;intro K hK)|fail)
        all_goals skip
        exact PX_okM rfl rfl (fun _ => rfl) hbok hok0 he e4 (show DsOK _ [] _ from trivial) true
      | false =>
        rcases hcase with rfl | hbig
        · skip
          repeat' (first|(refine oLA ?_;first|refine LA_pass rfl ?_|(refine LA_stop (hK _ _ (LX_store1 rfl rfl rfl hbok (fun _ => rfl) (Nat.lt_succ_self 0) rfl rfl (fun w4 e4 => ?_))); clear hK K; dsimp only [LA.vals]; refine LX_la (by kernel_rfl) (fun K hK => ?_))|refine wOp ?_|(refine wCm ?_ ?_<;>intro hc)|(refine oCv ?_;first|(refine oD 17 ?_; refine oC 21 ?_; refine LA_call1 (f := 21) rfl rfl rfl  (.val (.bool false)) (by intro u1 w e hu1; (try obtain rfl : u1 = _ := hu1); exact hgr _ e) ?_)|(refine oD 20 ?_; refine oC 21 ?_; refine LA_call1 (f := 21) rfl rfl rfl  (.val (.bool true)) (by intro u1 w e hu1; (try obtain rfl : u1 = _ := hu1); exact hgr' _ e) ?_)|(refine oC 10 ?_; refine LA_call0 (f := 10) rfl rfl  (.val (.bool true)) (by intro w e; exact a0A _ (hT.ext e)) ?_))|(refine wNl hK ?_;clear hK K))|refine wG ?_|(refine wCR ?_;intro K hK)|fail)
          all_goals skip
          exact PX_okM rfl rfl (fun _ => rfl) hbok hok0 he e4 (show DsOK _ [] _ from trivial) true
        · cases gr' with
          | true =>
            repeat' (first|(refine oLA ?_;first|refine LA_pass rfl ?_|(refine LA_stop (hK _ _ (LX_store1 rfl rfl rfl hbok (fun _ => rfl) (Nat.lt_succ_self 0) rfl rfl (fun w4 e4 => ?_))); clear hK K; dsimp only [LA.vals]; refine LX_la (by kernel_rfl) (fun K hK => ?_))|refine wOp ?_|(refine wCm ?_ ?_<;>intro hc)|(refine oCv ?_;first|(refine oD 17 ?_; refine oC 21 ?_; refine LA_call1 (f := 21) rfl rfl rfl  (.val (.bool false)) (by intro u1 w e hu1; (try obtain rfl : u1 = _ := hu1); exact hgr _ e) ?_)|(refine oD 20 ?_; refine oC 21 ?_; refine LA_call1 (f := 21) rfl rfl rfl  (.val (.bool true)) (by intro u1 w e hu1; (try obtain rfl : u1 = _ := hu1); exact hgr' _ e) ?_)|(refine oC 10 ?_; refine LA_call0 (f := 10) rfl rfl  (.val (.bool true)) (by intro w e; exact a0A _ (hT.ext e)) ?_))|(refine wNl hK ?_;clear hK K))|refine wG ?_|(refine wCR ?_;intro K hK)|fail)
            all_goals skip
            exact PX_okM rfl rfl (fun _ => rfl) hbok hok0 he e4 (show DsOK _ [] _ from trivial) true
          | false =>
            repeat' (first|(refine oLA ?_;first|refine LA_pass rfl ?_|(refine LA_stop (hK _ _ (LX_store1 rfl rfl rfl hbok (fun _ => rfl) (Nat.lt_succ_self 0) rfl rfl (fun w4 e4 => ?_))); clear hK K; dsimp only [LA.vals]; refine LX_la (by kernel_rfl) (fun K hK => ?_))|refine wOp ?_|(refine wCm ?_ ?_<;>intro hc)|(refine oCv ?_;first|(refine oD 17 ?_; refine oC 21 ?_; refine LA_call1 (f := 21) rfl rfl rfl  (.val (.bool false)) (by intro u1 w e hu1; (try obtain rfl : u1 = _ := hu1); exact hgr _ e) ?_)|(refine oD 20 ?_; refine oC 21 ?_; refine LA_call1 (f := 21) rfl rfl rfl  (.val (.bool false)) (by intro u1 w e hu1; (try obtain rfl : u1 = _ := hu1); exact hgr' _ e) ?_)|(refine oC 10 ?_; refine LA_call0 (f := 10) rfl rfl  (.val (.bool true)) (by intro w e; exact a0A _ (hT.ext e)) ?_))|(refine wNl hK ?_;clear hK K))|refine wG ?_|(refine wCR ?_;intro K hK)|fail)
            all_goals skip
            exact PX_okM rfl rfl (fun _ => rfl) hbok hok0 he e4 (show DsOK _ [] _ from trivial) true
  obtain rfl : gr = false := by cases gr <;> simp_all
  obtain rfl : gr' = false := by cases gr' <;> simp_all
  have hbig : ¬ 500000 < (n : Int) := fun hh => hcase (.inr (.inr hh))
  clear hcase
  obtain ⟨a, ha⟩ : ∃ a, a = cnt (two (fun x y => x && y) p q) TOP := ⟨_, rfl⟩
  obtain ⟨o, ho⟩ : ∃ a, a = cnt (two (fun x y => x || y) p q) TOP := ⟨_, rfl⟩
  obtain ⟨m, hm⟩ : ∃ a, a = cnt p TOP := ⟨_, rfl⟩
  obtain ⟨l, hl⟩ : ∃ a, a = cnt q TOP := ⟨_, rfl⟩
  have hio := a7A p q TOP
  have b1 := cnt_le p TOP
  have b2 := cnt_le q TOP
  have b3 := cnt_le (two (fun x y => x && y) p q) TOP
  have b4 := cnt_le (two (fun x y => x || y) p q) TOP
  rw [← ha, ← ho, ← hm, ← hl] at hio
  rw [← ha] at b3; rw [← ho] at b4; rw [← hm] at b1; rw [← hl] at b2
  obtain ⟨pA, hA⟩ : ∃ r, two (fun x y => x && y) p q = r := ⟨_, rfl⟩
  obtain ⟨pO, hO⟩ : ∃ r, two (fun x y => x || y) p q = r := ⟨_, rfl⟩
  obtain ⟨pD, hD⟩ : ∃ r, two (fun x y => x && !y) p q = r := ⟨_, rfl⟩
  obtain ⟨pX, hX⟩ : ∃ r, two (fun x y => !(x == y)) p q = r := ⟨_, rfl⟩
  have f1 : two (fun x y => x || y) pA pX = pO := by subst hA hX hO; funext x; show ((p x && q x) || !(p x == q x)) = (p x || q x); cases p x <;> cases q x <;> rfl
  have f2 : two (fun x y => x || y) pD pA = p := by subst hA hD; funext x; show ((p x && !q x) || (p x && q x)) = p x; cases p x <;> cases q x <;> rfl
  have f3 : two (fun x y => x && y) pD q = noP := by subst hD; funext x; show ((p x && !q x) && q x) = false; cases p x <;> cases q x <;> rfl
  have f4 : two (fun x y => !(x == y)) pX q = p := by subst hX; funext x; show (!((!(p x == q x)) == q x)) = p x; cases p x <;> cases q x <;> rfl
  have f5 : two (fun x y => x && y) q p = pA := by subst hA; funext x; show (q x && p x) = (p x && q x); cases p x <;> cases q x <;> rfl
  have f6 : two (fun x y => x || y) q p = pO := by subst hO; funext x; show (q x || p x) = (p x || q x); cases p x <;> cases q x <;> rfl
  rw [hA] at ha
  rw [hO] at ho
  obtain ⟨pW, hW⟩ : ∃ r, spU [((0 : Int), (n : Int))] = r := ⟨_, rfl⟩
  have hWx : ∀ x, pW x = decide (x < min n TOP) := fun x => by
    have := congrFun (spU_one 0 n) x
    rw [← hW, show ((0 : Int), (n : Int)) = (((0 : Nat) : Int), (n : Int)) from rfl, this, decide_eq_true (Nat.zero_le x), Bool.true_and]
  obtain ⟨pN, hN⟩ : ∃ r, notP n p = r := ⟨_, rfl⟩
  have f7 : two (fun x y => x && !y) pW p = pN := by subst hN; funext x; show (pW x && !p x) = (decide (x < min n TOP) && !p x); rw [hWx]
  obtain ⟨pQ, hQ⟩ : ∃ r, two (fun x y => x && y) p pW = r := ⟨_, rfl⟩
  have f8 : notP n pN = pQ := by subst hQ hN; funext x; show (decide (x < min n TOP) && !(decide (x < min n TOP) && !p x)) = (p x && pW x); rw [hWx]; cases p x <;> cases decide (x < min n TOP) <;> rfl
  have f9 : notP n noP = pW := by funext x; show (decide (x < min n TOP) && !false) = pW x; rw [hWx, Bool.not_false, Bool.and_true]
  have g1 : two (fun x y => x || y) noP p = p := by funext x; rfl
  have g2 : two (fun x y => x && !y) p noP = p := by funext x; show (p x && !false) = p x; rw [Bool.not_false, Bool.and_true]
  have hsp : ∀ w', Ext w1 w' → ∀ u, LA.Own w1.heap.size tSp 2 w' u 1 (cellsP .u64 [((0 : Int), (n : Int))]) → _ := fun w' e u hu => spans_s (A := TT) (B := TT) (xs := [((0 : Int), (n : Int))]) (Own.slC hu) (by intro x hx; rw [List.mem_singleton] at hx; subst hx; dsimp only; omega) (hT.ext e) tt tt
  rw [hW] at hsp
  clear hW hWx
  have hnil : ∀ w' : World, NSet TT TT w' (.pointer none) noP := fun w' => .inl ⟨rfl, rfl⟩
  repeat' (first|(refine oLA ?_;first|refine LA_pass rfl ?_|(refine oD 102 ?_; refine LA_build2 (c := spV .u64 (0, n)) rfl rfl rfl (fun w => run_build w _ _ _ (by kernel_rfl)) ?_)|(refine oD 103 ?_; refine LA_oneS rfl span_el rfl rfl (by decide) ?_)|(refine oD 15 ?_; refine LA_stop (hK _ _ (LX_pick 7 rfl (fun v7 w7 e7 h7 => LX_pick 13 rfl (fun v13 w13 e13 h13 => LX_al rfl (Nat.le_of_ble_eq_true rfl) (fun _ => rfl) (fun bz wz ez hbz hz0 => ?_))))); clear hK K; replace h7 : RSet TT TT w7 v7 p := h7; replace h13 : RSet TT TT w13 v13 pW := h13; refine LX_la (by kernel_rfl) (fun K hK => ?_))|(refine oD 131 ?_; refine LA_stop (hK _ _ (LX_pick 130 rfl (fun v130 w130 e130 h130 => ?_))); clear hK K; obtain ⟨b130, hb130, rfl, hh130⟩ := h130; refine LX_la (by kernel_rfl) (fun K hK => ?_); refine LA_binV (c := .bool false) rfl rfl rfl (fun _ => rfl) ?_)|refine wOp ?_|(refine wCm ?_ ?_<;>intro hc)|(refine oCv ?_;first|(refine oD 17 ?_; refine oC 21 ?_; refine LA_call1 (f := 21) rfl rfl rfl  (.val (.bool false)) (by intro u1 w e hu1; (try obtain rfl : u1 = _ := hu1); exact hgr _ e) ?_)|(refine oD 20 ?_; refine oC 21 ?_; refine LA_call1 (f := 21) rfl rfl rfl  (.val (.bool false)) (by intro u1 w e hu1; (try obtain rfl : u1 = _ := hu1); exact hgr' _ e) ?_)|(refine oD 28 ?_; refine oC 14 ?_; refine LA_call1 (f := 14) rfl rfl rfl  (.pred (rsP TT TT p)) (by intro u1 w e hu1; (try obtain rfl : u1 = _ := hu1); exact hpw _ e) ?_)|(refine oD 30 ?_; refine oC 14 ?_; refine LA_call1 (f := 14) rfl rfl rfl  (.pred (rsP TT TT q)) (by intro u1 w e hu1; (try obtain rfl : u1 = _ := hu1); exact hqw _ e) ?_)|(refine oD 33 ?_; refine oC 28 ?_; refine LA_call2 (f := 28) rfl rfl rfl rfl  (.pred (rsP TT TT pA)) (by intro u1 u2 w e hu1 hu2; (try obtain rfl : u1 = _ := hu1); (try obtain rfl : u2 = _ := hu2); exact a6A (.inr hu1) (.inr hu2) (hT.ext e) hA) ?_)|(refine oD 36 ?_; refine oC 26 ?_; refine LA_call2 (f := 26) rfl rfl rfl rfl  (.pred (rsP TT TT pO)) (by intro u1 u2 w e hu1 hu2; (try obtain rfl : u1 = _ := hu1); (try obtain rfl : u2 = _ := hu2); exact ajA (.inr hu1) (.inr hu2) (hT.ext e) hO) ?_)|(refine oD 39 ?_; refine oC 24 ?_; refine LA_call2 (f := 24) rfl rfl rfl rfl  (.pred (rsP TT TT pD)) (by intro u1 u2 w e hu1 hu2; (try obtain rfl : u1 = _ := hu1); (try obtain rfl : u2 = _ := hu2); exact abA (.inr hu1) (.inr hu2) (hT.ext e) hD) ?_)|(refine oD 42 ?_; refine oC 29 ?_; refine LA_call2 (f := 29) rfl rfl rfl rfl  (.pred (rsP TT TT pX)) (by intro u1 u2 w e hu1 hu2; (try obtain rfl : u1 = _ := hu1); (try obtain rfl : u2 = _ := hu2); exact aeA (.inr hu1) (.inr hu2) (hT.ext e) hX) ?_)|(refine oD 45 ?_; refine oC 26 ?_; refine LA_call2 (f := 26) rfl rfl rfl rfl  (.pred (rsP TT TT pO)) (by intro u1 u2 w e hu1 hu2; (try obtain rfl : u1 = _ := hu1); (try obtain rfl : u2 = _ := hu2); exact ajA (.inr hu1) (.inr hu2) (hT.ext e) f1) ?_)|(refine oD 52 ?_; refine oC 26 ?_; refine LA_call2 (f := 26) rfl rfl rfl rfl  (.pred (rsP TT TT p)) (by intro u1 u2 w e hu1 hu2; (try obtain rfl : u1 = _ := hu1); (try obtain rfl : u2 = _ := hu2); exact ajA (.inr hu1) (.inr hu2) (hT.ext e) f2) ?_)|(refine oD 60 ?_; refine oC 28 ?_; refine LA_call2 (f := 28) rfl rfl rfl rfl  (.pred (rsP TT TT noP)) (by intro u1 u2 w e hu1 hu2; (try obtain rfl : u1 = _ := hu1); (try obtain rfl : u2 = _ := hu2); exact a6A (.inr hu1) (.inr hu2) (hT.ext e) f3) ?_)|(refine oD 61 ?_; refine oC 15 ?_; refine LA_call1 (f := 15) rfl rfl rfl  (.val (.int .i64 (0 : Nat))) (by intro u1 w e hu1; (try obtain rfl : u1 = _ := hu1); exact a2A (.inr hu1) (a1A _)) ?_)|(refine oD 67 ?_; refine oC 29 ?_; refine LA_call2 (f := 29) rfl rfl rfl rfl  (.pred (rsP TT TT p)) (by intro u1 u2 w e hu1 hu2; (try obtain rfl : u1 = _ := hu1); (try obtain rfl : u2 = _ := hu2); exact aeA (.inr hu1) (.inr hu2) (hT.ext e) f4) ?_)|(refine oD 74 ?_; refine oC 15 ?_; refine LA_call1 (f := 15) rfl rfl rfl  (.val (.int .i64 (a : Nat))) (by intro u1 w e hu1; (try obtain rfl : u1 = _ := hu1); exact a2A (.inr hu1) ha.symm) ?_)|(refine oD 76 ?_; refine oC 15 ?_; refine LA_call1 (f := 15) rfl rfl rfl  (.val (.int .i64 (o : Nat))) (by intro u1 w e hu1; (try obtain rfl : u1 = _ := hu1); exact a2A (.inr hu1) ho.symm) ?_)|(refine oD 79 ?_; refine oC 15 ?_; refine LA_call1 (f := 15) rfl rfl rfl  (.val (.int .i64 (m : Nat))) (by intro u1 w e hu1; (try obtain rfl : u1 = _ := hu1); exact a2A (.inr hu1) hm.symm) ?_)|(refine oD 81 ?_; refine oC 15 ?_; refine LA_call1 (f := 15) rfl rfl rfl  (.val (.int .i64 (l : Nat))) (by intro u1 w e hu1; (try obtain rfl : u1 = _ := hu1); exact a2A (.inr hu1) hl.symm) ?_)|(refine oD 88 ?_; refine oC 28 ?_; refine LA_call2 (f := 28) rfl rfl rfl rfl  (.pred (rsP TT TT pA)) (by intro u1 u2 w e hu1 hu2; (try obtain rfl : u1 = _ := hu1); (try obtain rfl : u2 = _ := hu2); exact a6A (.inr hu1) (.inr hu2) (hT.ext e) f5) ?_)|(refine oD 96 ?_; refine oC 26 ?_; refine LA_call2 (f := 26) rfl rfl rfl rfl  (.pred (rsP TT TT pO)) (by intro u1 u2 w e hu1 hu2; (try obtain rfl : u1 = _ := hu1); (try obtain rfl : u2 = _ := hu2); exact ajA (.inr hu1) (.inr hu2) (hT.ext e) f6) ?_)|(refine oD 104 ?_; refine oC 14 ?_; refine LA_call1 (f := 14) rfl rfl rfl  (.pred (rsP TT TT pW)) (by intro u1 w e hu1; (try obtain rfl : u1 = _ := hu1); exact hsp _ e _ hu1) ?_)|(refine oD 107 ?_; refine oC 30 ?_; refine LA_call2 (f := 30) rfl rfl rfl rfl  (.pred (rsP TT TT pN)) (by intro u1 u2 w e hu1 hu2; (try obtain rfl : u1 = _ := hu1); (try obtain rfl : u2 = _ := hu2); exact a4A (.inr hu1) hn (hT.ext e) hN) ?_)|(refine oD 110 ?_; refine oC 24 ?_; refine LA_call2 (f := 24) rfl rfl rfl rfl  (.pred (rsP TT TT pN)) (by intro u1 u2 w e hu1 hu2; (try obtain rfl : u1 = _ := hu1); (try obtain rfl : u2 = _ := hu2); exact abA (.inr hu1) (.inr hu2) (hT.ext e) f7) ?_)|(refine oD 116 ?_; refine oC 30 ?_; refine LA_call2 (f := 30) rfl rfl rfl rfl  (.pred (rsP TT TT pN)) (by intro u1 u2 w e hu1 hu2; (try obtain rfl : u1 = _ := hu1); (try obtain rfl : u2 = _ := hu2); exact a4A (.inr hu1) hn (hT.ext e) hN) ?_)|(refine oD 118 ?_; refine oC 30 ?_; refine LA_call2 (f := 30) rfl rfl rfl rfl  (.pred (rsP TT TT pQ)) (by intro u1 u2 w e hu1 hu2; (try obtain rfl : u1 = _ := hu1); (try obtain rfl : u2 = _ := hu2); exact a4A (.inr hu1) hn (hT.ext e) f8) ?_)|(refine oD 121 ?_; refine oC 28 ?_; refine LA_call2 (f := 28) rfl rfl rfl rfl  (.pred (rsP TT TT pQ)) (by intro u1 u2 w e hu1 hu2; (try obtain rfl : u1 = _ := hu1); (try obtain rfl : u2 = _ := hu2); exact a6A (.inr hu1) (.inr hu2) (hT.ext e) hQ) ?_)|(refine oC 17 ?_; refine LA_call2 (f := 17) rfl rfl rfl rfl  (.val (.bool true)) (by intro u1 u2 w e hu1 hu2; (try obtain rfl : u1 = _ := hu1); (try obtain rfl : u2 = _ := hu2); exact same_t (.inr hu1) (.inr hu2) (hT.ext e) rfl) ?_)|(refine oC 23 ?_; refine LA_call2 (f := 23) rfl rfl rfl rfl  (.val (.tuple #[])) (by intro u1 u2 w e hu1 hu2; (try obtain rfl : u1 = _ := hu1); (try obtain rfl : u2 = _ := hu2); exact add_nil _) ?_)|(refine oC 12 ?_; refine LA_call3 (f := 12) rfl rfl rfl rfl rfl  (.val (.tuple #[])) (by intro u1 u2 u3 w e hu1 hu2 hu3; (try obtain rfl : u1 = _ := hu1); (try obtain rfl : u2 = _ := hu2); (try obtain rfl : u3 = _ := hu3); exact addrange_nil _ _) ?_)|(refine oC 27 ?_; refine LA_call1 (f := 27) rfl rfl rfl  (.pred (allP 0 (.pointer none))) (by intro u1 w e hu1; (try obtain rfl : u1 = _ := hu1); exact (all_c _ rfl).mono (ret_allP (Nat.zero_le _))) ?_))|(refine wNl hK ?_;clear hK K))|refine wG ?_|(refine wCR ?_;intro K hK)|fail)
  all_goals skip
  refine CX_pick 133 rfl (fun v133 wr er h133 => ?_)
  obtain ⟨bb, hbb, rfl, hhb⟩ := h133
  have xr : Ext wz wr := e130.trans er
  have x7 : Ext w7 wz := e13.trans ez
  have x1 : Ext w1 wz := e7.trans x7
  have hTz := hT.ext x1
  replace hz0 : wz.heap[bz]? = some (.cells #[nilS, nilS] tS (0, 0)) := hz0
  have hs7 : RSet (fun k => k < w13.heap.size) (fun k => k < w13.heap.size) wz v7 p := RSet.ext (RSet.mono (RSet.ext h7 e13) (fun k hk _ => hk) (fun k hk _ => hk)) ez
  have hs13 : RSet (fun k => k < w13.heap.size) (fun k => k < w13.heap.size) wz v13 pW := RSet.ext (RSet.mono h13 (fun k hk _ => hk) (fun k hk _ => hk)) ez
  refine CX_range (α := U32) (p := 134) (M := cnt noP TOP) (Kp := KpT wz (fun _ => false)) (S := fun xs => vU xs = listS noP TOP) (Sp := fun pre => vU pre <+: listS noP TOP) (enc := fun x => .int .u32 x.1) (Nat.le_of_ble_eq_true rfl) rfl (run_call_func Tryz.func63 rfl rfl)
    (fun w' e => all_stops (w0 := wz) (A := TT) (B := TT) (hnil _) (e.block hhb) hTz (xr.trans e) rfl rfl) (fun h k => h.trans k) (fun h => KpT.ext h) (fun W l o o' hl ho hc _ => KpT.putObj o' (Nat.le_trans xr.size hl) ho hc)
    (fun pre W => Ext wz W) (fun _ _ _ => False) ?_ (fun c s W W' row hs _ _ => hs) (fun w' e => xr.trans e) (fun x => []) ?_ ?_ ?_ (fun D c pre W _ _ hx _ => hx.elim)
  · rintro pre W W' row g1 hg hr
    exact kept_ext g1 xr.size hg (fun r e => (hr r e).1)
  · intro l u W
    exact CY_skip (PX_asg (Ext.refl _) (by repeat' (first | exact Sub.nil | refine Sub.val rfl (by first | with_reducible rfl | (congr 1; omega)) ?_ | refine Sub.same rfl ?_)))
  · rintro Bd l pre u W hBd g1 hlen
    rw [a1A] at hlen
    exact absurd hlen (Nat.not_lt_zero _)
  · rintro D us W hD hus gW hDd
    dsimp only [LA.vals]
    have hzW := gW.block hz0
    have hS : RS TT W bz nilS nilS noP := RS.new hzW
    have hTW := hTz.ext gW
    have hds : DsOK w.heap.size [{ target := .collected D, args := #[] }] W := ⟨⟨D, Nat.le_trans (Nat.le_trans ((he.trans x1).trans xr).size hD) (Nat.le_refl _), rfl, hDd, fun D' hm => by cases hm⟩, trivial⟩
    have hadd : ∀ w8, Ext W w8 → Fc Tryz.prog 23 #[.pointer (some ⟨bz, 0, none⟩), .int .u32 7] w8 (fun en w' => en = .returned (.tuple #[]) ∧ Mut TT w8 bz nilS nilS (addM noP 7) w') := fun w8 e8 => add_s (x := 7) (hS.ext e8) (hTW.ext e8) tt (by decide)
    clear hus hbb hhb hgr hgr' hpw hqw hsp
    repeat' (first|(refine oLA ?_;first|refine LA_pass rfl ?_|(refine oD 135 ?_; refine LA_stop (hK _ _ (LX_call2 rfl (Nat.le_of_ble_eq_true rfl) rfl rfl rfl (fun v w' => v = .tuple #[] ∧ ∃ wq, Ext W wq ∧ Mut TT wq bz nilS nilS (addM noP 7) w') (fun w8 e8 => (hadd w8 e8).mono fun en w' h => ⟨_, h.1, rfl, _, e8, h.2⟩) (fun v w3 hm => ?_))); clear hK K)|refine wOp ?_|(refine wCm ?_ ?_<;>intro hc)|(refine wNl hK ?_;clear hK K))|refine wG ?_|(refine wCR ?_;intro K hK)|fail)
    all_goals skip
    obtain ⟨rfl, wq, eq', kv', lv', hS', hF, hl1, hl2⟩ := hm
    have hbzz : w13.heap.size ≤ bz := hbz
    have hOn : ∀ k, onw bz nilS nilS k → k = bz := fun k hk => by
      rcases hk with hk | hk | hk
      · exact hk
      · cases hk
      · cases hk
    have hF' : Fr (fun k => k = bz) W w3 := ((Fr.of eq').trans (hF.mono fun k hk => hOn k hk))
    have x3 : Ext w13 w3 := Fr.ext (ez.trans gW) hF' (fun k hk => by subst hk; exact hbzz)
    have hPl : ∀ A' : Nat → Prop, Plain A' (fun k => k = bz) W := fun A' => (hS.plainA (fun k hk => by cases hk)).mono' (fun k hk => .inl hk)
    have hn7 : NSet TT TT w3 v7 p := .inr (RSet.tt ((hs7.ext gW).fr hF' (hPl _) (fun k hk e => by subst e; omega)))
    have hn13 : NSet TT TT w3 v13 pW := .inr (RSet.tt ((hs13.ext gW).fr hF' (hPl _) (fun k hk e => by subst e; omega)))
    have hZ : NSet TT TT w3 (.pointer (some ⟨bz, 0, none⟩)) (addM noP 7) := .inr ⟨bz, kv', lv', rfl, hS', fun _ _ => trivial⟩
    have hT3 := (hT.ext (e7.trans e13)).ext x3
    have hok3 := x3.block ((e7.trans e13).block hbok)
    have hds3 : DsOK w.heap.size [{ target := .collected D, args := #[] }] w3 := hds.kept ((kp_fr (w0 := w) (bad := fun _ => true) hF' (fun _ => (he.trans (e7.trans e13)).trans x3) (fun k hk => by subst hk; exact ⟨_, _, _, hzW, rfl⟩)).2 _)
    have hw3 : Ext w w3 := (he.trans (e7.trans e13)).trans x3
    have hh1 : ∀ w' : World, Fc Tryz.prog 20 #[.pointer none, .int .u32 1] w' (Ret w' (.val (.bool false))) := fun w' => has_s (x := 1) (hnil w') (by decide)
    have hh7 : ∀ w', Ext w3 w' → Fc Tryz.prog 20 #[.pointer (some ⟨bz, 0, none⟩), .int .u32 7] w' (Ret w' (.val (.bool true))) := fun w' e => by
      have := has_s (x := 7) (hZ.ext e) (by decide)
      rw [add_at] at this
      exact this
    have hru : ∀ w' : World, Tab w' → Fc Tryz.prog 19 #[.pointer none] w' (Ret w' (.pred (ownP 0 tSp .u64 []))) := fun w' hT' => (runs_s (hnil w') hT').mono (ret_baseP (Nat.zero_le _) ahA)
    clear hS hPl hF hF' hS' hl1 hl2 hs7 hs13 hds hadd hOn
    repeat' (first|(refine oLA ?_;first|refine LA_pass rfl ?_|(refine oLen ?_; refine LA_lenP rfl _ rfl rfl HasP.own ?_; rw [List.length_nil])|(refine LA_stop (hK _ _ (LX_store1 rfl rfl rfl hok3 (fun _ => rfl) (Nat.lt_succ_self 0) rfl rfl (fun w4 e4 => ?_))); clear hK K; dsimp only [LA.vals]; refine LX_la (by kernel_rfl) (fun K hK => ?_))|refine wOp ?_|(refine wCm ?_ ?_<;>intro hc)|(refine oCv ?_;first|(refine oD 137 ?_; refine oC 15 ?_; refine LA_call1 (f := 15) rfl rfl rfl  (.val (.int .i64 (0 : Nat))) (by intro u1 w e hu1; (try obtain rfl : u1 = _ := hu1); exact a2A (hnil _) (a1A _)) ?_)|(refine oD 141 ?_; refine oC 20 ?_; refine LA_call2 (f := 20) rfl rfl rfl rfl  (.val (.bool false)) (by intro u1 u2 w e hu1 hu2; (try obtain rfl : u1 = _ := hu1); (try obtain rfl : u2 = _ := hu2); exact hh1 _) ?_)|(refine oD 147 ?_; refine oC 26 ?_; refine LA_call2 (f := 26) rfl rfl rfl rfl  (.pred (rsP TT TT p)) (by intro u1 u2 w e hu1 hu2; (try obtain rfl : u1 = _ := hu1); (try obtain rfl : u2 = _ := hu2); exact ajA (hnil _) (hn7.ext e) (hT3.ext e) g1) ?_)|(refine oD 149 ?_; refine oC 17 ?_; refine LA_call2 (f := 17) rfl rfl rfl rfl  (.val (.bool true)) (by intro u1 u2 w e hu1 hu2; (try obtain rfl : u1 = _ := hu1); (try obtain rfl : u2 = _ := hu2); exact same_t (.inr hu1) (hn7.ext e) (hT3.ext e) rfl) ?_)|(refine oD 154 ?_; refine oC 24 ?_; refine LA_call2 (f := 24) rfl rfl rfl rfl  (.pred (rsP TT TT p)) (by intro u1 u2 w e hu1 hu2; (try obtain rfl : u1 = _ := hu1); (try obtain rfl : u2 = _ := hu2); exact abA (hn7.ext e) (hnil _) (hT3.ext e) g2) ?_)|(refine oD 156 ?_; refine oC 17 ?_; refine LA_call2 (f := 17) rfl rfl rfl rfl  (.val (.bool true)) (by intro u1 u2 w e hu1 hu2; (try obtain rfl : u1 = _ := hu1); (try obtain rfl : u2 = _ := hu2); exact same_t (.inr hu1) (hn7.ext e) (hT3.ext e) rfl) ?_)|(refine oC 11 ?_; refine LA_call0 (f := 11) rfl rfl  (.pred (rsP TT TT noP)) (by intro w e; exact new_c _ tt) ?_)|(refine oD 161 ?_; refine oC 17 ?_; refine LA_call2 (f := 17) rfl rfl rfl rfl  (.val (.bool true)) (by intro u1 u2 w e hu1 hu2; (try obtain rfl : u1 = _ := hu1); (try obtain rfl : u2 = _ := hu2); exact same_t (hnil _) (.inr hu2) (hT3.ext e) rfl) ?_)|(refine oD 166 ?_; refine oC 30 ?_; refine LA_call2 (f := 30) rfl rfl rfl rfl  (.pred (rsP TT TT pW)) (by intro u1 u2 w e hu1 hu2; (try obtain rfl : u1 = _ := hu1); (try obtain rfl : u2 = _ := hu2); exact a4A (hnil _) hn (hT3.ext e) f9) ?_)|(refine oD 168 ?_; refine oC 17 ?_; refine LA_call2 (f := 17) rfl rfl rfl rfl  (.val (.bool true)) (by intro u1 u2 w e hu1 hu2; (try obtain rfl : u1 = _ := hu1); (try obtain rfl : u2 = _ := hu2); exact same_t (.inr hu1) (hn13.ext e) (hT3.ext e) rfl) ?_)|(refine oC 19 ?_; refine LA_call1 (f := 19) rfl rfl rfl  (.pred (ownP 0 tSp .u64 [])) (by intro u1 w e hu1; (try obtain rfl : u1 = _ := hu1); exact hru _ (hT3.ext e)) ?_)|(refine oD 178 ?_; refine oC 22 ?_; refine LA_call1 (f := 22) rfl rfl rfl  (.pred (rsP TT TT noP)) (by intro u1 w e hu1; (try obtain rfl : u1 = _ := hu1); exact copy_s (hnil _) tt (fun _ _ _ => trivial)) ?_)|(refine oD 179 ?_; refine oC 15 ?_; refine LA_call1 (f := 15) rfl rfl rfl  (.val (.int .i64 (0 : Nat))) (by intro u1 w e hu1; (try obtain rfl : u1 = _ := hu1); exact a2A (.inr hu1) (a1A _)) ?_)|(refine oD 183 ?_; refine oC 20 ?_; refine LA_call2 (f := 20) rfl rfl rfl rfl  (.val (.bool true)) (by intro u1 u2 w e hu1 hu2; (try obtain rfl : u1 = _ := hu1); (try obtain rfl : u2 = _ := hu2); exact hh7 _ e) ?_)|(refine oD 186 ?_; refine oC 15 ?_; refine LA_call1 (f := 15) rfl rfl rfl  (.val (.int .i64 (1 : Nat))) (by intro u1 w e hu1; (try obtain rfl : u1 = _ := hu1); exact a2A (hZ.ext e) (adA 7 (by rw [TOP_eq]; decide))) ?_)|(refine oC 10 ?_; refine LA_call0 (f := 10) rfl rfl  (.val (.bool true)) (by intro w e; exact a0A _ (hT3.ext e)) ?_))|(refine wNl hK ?_;clear hK K))|refine wG ?_|(refine wCR ?_;intro K hK)|fail)
    all_goals skip
    exact PX_okM rfl rfl (fun _ => rfl) hok3 hok0 hw3 e4 hds3 true
end Go.Proofs.YtfcioiobhpcngaaGreatDoor
end
