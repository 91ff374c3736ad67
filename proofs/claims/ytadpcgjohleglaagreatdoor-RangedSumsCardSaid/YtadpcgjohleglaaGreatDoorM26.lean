import Derived.Test.YtadpcgjohleglaaGreatDoorM24
section
set_option linter.unusedSimpArgs false
set_option linter.unusedVariables false
set_option maxRecDepth 3000
namespace Go.Proofs.YtadpcgjohleglaaGreatDoor
open Go.LA Go.ArrP Go.RowKit
theorem c6A {ids : List Int} {n : Nat} (h : IdsIn ids n) {id : Int} {x : Nat} (hx : ids.length ≤ x) : upP n (fun i => sumP ids (i + 1)) id x = false := akA fun h' => by have := ((a0A h).1 h').1; omega
theorem c8A {ids : List Int} {n : Nat} (h : IdsIn ids n) {lo hi : Int} {x : Nat} (hx : ids.length ≤ x) : btP n (fun i => sumP ids (i + 1)) lo hi x = false := akA fun h' => by have := ((a8A h).1 h').1; omega
theorem bnA : IdsIn [1, 0, 1] 3 := fun x hx => by
  have hx' : x < 3 := hx
  match x, hx' with
  | 0, _ => exact ⟨by decide, by decide⟩
  | 1, _ => exact ⟨by decide, by decide⟩
  | 2, _ => exact ⟨by decide, by decide⟩
theorem afA (w : World) (hT : Tab w) : Fc Tryz.prog 16 #[] w (Ret w (.val (.bool true))) := by
  have hc : ∀ id : Int, cnt (upP 3 (fun i => sumP [1, 0, 1] (i + 1)) id) TOP = cnt (upP 3 (fun i => sumP [1, 0, 1] (i + 1)) id) 3 := fun id => anA (m := 3) (fun x hx => c6A bnA hx) (by decide) rfl
  have hu : ∀ (id : Int) w' u, RSet TT TT w' u (upP 3 (fun i => sumP [1, 0, 1] (i + 1)) id) → _ := fun id w' u hu => len_s (B := TT) (A := TT) (.inr hu)
  have hl0 := hu 0
  have hl9 := hu 9
  have hlm := hu (-1)
  have hlb : ∀ w' u, RSet TT TT w' u (btP 3 (fun i => sumP [1, 0, 1] (i + 1)) 1 3) → _ := fun w' u hu => len_s (B := TT) (A := TT) (.inr hu)
  have hh : ∀ w' u, RSet TT TT w' u (upP 3 (fun i => sumP [1, 0, 1] (i + 1)) 0) → _ := fun w' u hu => has_s (B := TT) (A := TT) (x := 1) (.inr hu) (by decide)
  rw [hc, show cnt (upP 3 (fun i => sumP [1, 0, 1] (i + 1)) 0) 3 = 1 by decide] at hl0
  rw [hc, show cnt (upP 3 (fun i => sumP [1, 0, 1] (i + 1)) 9) 3 = 3 by decide] at hl9
  rw [hc, show cnt (upP 3 (fun i => sumP [1, 0, 1] (i + 1)) (-1)) 3 = 0 by decide] at hlm
  rw [anA (m := 3) (c := 2) (fun x hx => c8A bnA hx) (by decide) (by decide)] at hlb
  rw [show upP 3 (fun i => sumP [1, 0, 1] (i + 1)) 0 1 = true by decide] at hh
  clear hc hu
  refine Fc.of (args := []) Tryz.func16 rfl rfl Tryz.ntmps16 (Nat.le_of_ble_eq_true rfl) ?_
  repeat' (first|(refine oLA ?_;first|refine LA_pass rfl ?_|(refine oD 4 ?_; refine LA_three rfl avA rfl rfl rfl rfl rfl rfl ?_)|refine wOp ?_|(refine wCm ?_ ?_<;>intro hc)|(refine oCv ?_;first|(refine oC 17 ?_; refine LA_call2 (f := 17) rfl rfl rfl rfl  (.tup2 (.pred (ixP tRg 3 fun i => sumP [1, 0, 1] (i + 1))) (.val (.int .i64 0))) (by intro u1 u2 w e hu1 hu2; (try obtain rfl : u1 = _ := hu1); (try obtain rfl : u2 = _ := hu2); exact bkA (ids := [1, 0, 1]) (many := 3) (Own.slC hu1) (hT.ext e) (by decide)) ?_)|(refine oC 29 ?_; refine LA_call1 (f := 29) rfl rfl rfl  (.val (.int .i64 (3 : Nat))) (by intro u1 w e hu1; (try obtain rfl : u1 = _ := hu1); exact bgA (.inr hu1)) ?_)|(refine oC 20 ?_; refine LA_call3 (f := 20) rfl rfl rfl rfl rfl  (.pred (rsP TT TT (btP 3 (fun i => sumP [1, 0, 1] (i + 1)) 1 3))) (by intro u1 u2 u3 w e hu1 hu2 hu3; (try obtain rfl : u1 = _ := hu1); (try obtain rfl : u2 = _ := hu2); (try obtain rfl : u3 = _ := hu3); exact awA (.inr hu1) (by decide) (hT.ext e) (by dsimp only [fits]; omega) (by dsimp only [fits]; omega)) ?_)|(refine oD 17 ?_; refine oC 18 ?_; refine LA_call2 (f := 18) rfl rfl rfl rfl  (.pred (rsP TT TT (upP 3 (fun i => sumP [1, 0, 1] (i + 1)) 0))) (by intro u1 u2 w e hu1 hu2; (try obtain rfl : u1 = _ := hu1); (try obtain rfl : u2 = _ := hu2); exact a6A (.inr hu1) (by decide) tt 0) ?_)|(refine oD 23 ?_; refine oC 18 ?_; refine LA_call2 (f := 18) rfl rfl rfl rfl  (.pred (rsP TT TT (upP 3 (fun i => sumP [1, 0, 1] (i + 1)) 0))) (by intro u1 u2 w e hu1 hu2; (try obtain rfl : u1 = _ := hu1); (try obtain rfl : u2 = _ := hu2); exact a6A (.inr hu1) (by decide) tt 0) ?_)|(refine oD 34 ?_; refine oC 18 ?_; refine LA_call2 (f := 18) rfl rfl rfl rfl  (.pred (rsP TT TT (upP 3 (fun i => sumP [1, 0, 1] (i + 1)) 9))) (by intro u1 u2 w e hu1 hu2; (try obtain rfl : u1 = _ := hu1); (try obtain rfl : u2 = _ := hu2); exact a6A (.inr hu1) (by decide) tt 9) ?_)|(refine oD 40 ?_; refine oC 18 ?_; refine LA_call2 (f := 18) rfl rfl rfl rfl  (.pred (rsP TT TT (upP 3 (fun i => sumP [1, 0, 1] (i + 1)) (-1)))) (by intro u1 u2 w e hu1 hu2; (try obtain rfl : u1 = _ := hu1); (try obtain rfl : u2 = _ := hu2); exact a6A (.inr hu1) (by decide) tt (-1)) ?_)|(refine oD 18 ?_; refine oC 23 ?_; refine LA_call1 (f := 23) rfl rfl rfl  (.val (.int .i64 (1 : Nat))) (by intro u1 w e hu1; (try obtain rfl : u1 = _ := hu1); exact hl0 _ _ hu1) ?_)|(refine oD 29 ?_; refine oC 23 ?_; refine LA_call1 (f := 23) rfl rfl rfl  (.val (.int .i64 (2 : Nat))) (by intro u1 w e hu1; (try obtain rfl : u1 = _ := hu1); exact hlb _ _ hu1) ?_)|(refine oD 35 ?_; refine oC 23 ?_; refine LA_call1 (f := 23) rfl rfl rfl  (.val (.int .i64 (3 : Nat))) (by intro u1 w e hu1; (try obtain rfl : u1 = _ := hu1); exact hl9 _ _ hu1) ?_)|(refine oD 41 ?_; refine oC 23 ?_; refine LA_call1 (f := 23) rfl rfl rfl  (.val (.int .i64 (0 : Nat))) (by intro u1 w e hu1; (try obtain rfl : u1 = _ := hu1); exact hlm _ _ hu1) ?_)|(refine oC 33 ?_; refine LA_call2 (f := 33) rfl rfl rfl rfl  (.val (.bool true)) (by intro u1 u2 w e hu1 hu2; (try obtain rfl : u1 = _ := hu1); (try obtain rfl : u2 = _ := hu2); exact hh _ _ hu1) ?_))|(refine wNl hK ?_;clear hK K))|refine wG ?_|(refine wCR ?_;intro K hK)|fail)
  all_goals skip
  all_goals exact PX_retE rfl rfl (Ext.refl _) rfl
def ltL (lo hi : Int) : Nat → List Int
  | 0 => []
  | k + 1 => if lo ≤ (k : Int) ∧ (k : Int) < hi then ltL lo hi k ++ [(k : Int)] else ltL lo hi k
theorem b4A {lo hi z : Int} : ∀ k, z ∈ ltL lo hi k ↔ ∃ i : Nat, i < k ∧ (lo ≤ (i : Int) ∧ (i : Int) < hi) ∧ z = i
  | 0 => by simp [ltL]
  | k + 1 => by
    have ih := b4A (lo := lo) (hi := hi) (z := z) k
    simp only [ltL]
    by_cases hb : lo ≤ (k : Int) ∧ (k : Int) < hi
    · rw [if_pos hb, List.mem_append, ih]
      constructor
      · rintro (⟨i, h1, h2⟩ | h)
        · exact ⟨i, by omega, h2⟩
        · exact ⟨k, Nat.lt_succ_self k, hb, List.mem_singleton.1 h⟩
      · rintro ⟨i, h1, h2, h3⟩
        by_cases e : i = k
        · subst e; exact .inr (by rw [h3]; exact List.mem_cons_self)
        · exact .inl ⟨i, by omega, h2, h3⟩
    · rw [if_neg hb, ih]
      constructor
      · rintro ⟨i, h1, h2⟩; exact ⟨i, by omega, h2⟩
      · rintro ⟨i, h1, h2, h3⟩
        by_cases e : i = k
        · subst e; exact absurd h2 hb
        · exact ⟨i, by omega, h2, h3⟩
theorem bmA (lo hi : Int) : ∀ k, (ltL lo hi k).length ≤ k
  | 0 => Nat.le_refl _
  | k + 1 => by
    have := bmA lo hi k
    simp only [ltL]
    split
    · rw [List.length_append]; simp; omega
    · omega
theorem b9A {w : World} {v u : Value} {p q : Nat → Bool} (h : RSet TT TT w v p) (h' : RSet TT TT w u q) (hT : Tab w) (he : p = q) : Fc Tryz.prog 14 #[v, u] w (Ret w (.val (.bool true))) := by
  subst he
  exact ret_eq (by rw [decide_eq_true rfl]) (same_s (B := TT) (A := TT) (.inr h) (.inr h') hT)
set_option maxHeartbeats 4000000 in
theorem rinv_s (w : World) (hT : Tab w) {v : Value} {ids : List Int} (h : SlI .i64 w v ids) (many : Int) {lo hi : Int} (hlo : fits .i64 lo) (hhi : fits .i64 hi) : Fc Tryz.prog 4 #[v, .int .i64 many, .int .i64 lo, .int .i64 hi] w (Ret w (.val (.bool true))) := by
  have hl := h.len
  have htop := TOP_eq
  refine Fc.of (args := [_, _, _, _]) Tryz.func4 rfl rfl Tryz.ntmps4 (Nat.le_of_ble_eq_true rfl) ?_
  by_cases hbig : 300 < (ids.length : Int)
  · skip
    repeat' (first|(refine oLA ?_;first|refine LA_pass rfl ?_|refine wOp ?_|(refine wCm ?_ ?_<;>intro hc)|(refine oCv ?_;first|(refine oC 16 ?_; refine LA_call0 (f := 16) rfl rfl  (.val (.bool true)) (by intro w e; exact afA _ (hT.ext e)) ?_))|(refine wNl hK ?_;clear hK K))|refine wG ?_|(refine wCR ?_;intro K hK)|fail)
    all_goals exact PX_retE rfl rfl (Ext.refl _) rfl
  by_cases hbig2 : 60 < many
  · skip
    repeat' (first|(refine oLA ?_;first|refine LA_pass rfl ?_|refine wOp ?_|(refine wCm ?_ ?_<;>intro hc)|(refine oCv ?_;first|(refine oC 16 ?_; refine LA_call0 (f := 16) rfl rfl  (.val (.bool true)) (by intro w e; exact afA _ (hT.ext e)) ?_))|(refine wNl hK ?_;clear hK K))|refine wG ?_|(refine wCR ?_;intro K hK)|fail)
    all_goals exact PX_retE rfl rfl (Ext.refl _) rfl
  cases hm : alA ids many with
  | false =>
    repeat' (first|(refine oLA ?_;first|refine LA_pass rfl ?_|refine wOp ?_|(refine wCm ?_ ?_<;>intro hc)|(refine oCv ?_;first|(refine oC 10 ?_; refine LA_call2 (f := 10) rfl rfl rfl rfl  (.tup2 (.val (.pointer none)) (.val (.int .i64 2))) (by intro u1 u2 w e hu1 hu2; (try obtain rfl : u1 = _ := hu1); (try obtain rfl : u2 = _ := hu2); exact bcA (h.ext e) (hT.ext e) hm) ?_)|(refine oC 17 ?_; refine LA_call2 (f := 17) rfl rfl rfl rfl  (.tup2 (.val (.pointer none)) (.val (.int .i64 2))) (by intro u1 u2 w e hu1 hu2; (try obtain rfl : u1 = _ := hu1); (try obtain rfl : u2 = _ := hu2); exact c2A (h.ext e) (hT.ext e) hm) ?_)|(refine oC 16 ?_; refine LA_call0 (f := 16) rfl rfl  (.val (.bool true)) (by intro w e; exact afA _ (hT.ext e)) ?_))|(refine wNl hK ?_;clear hK K))|refine wG ?_|(refine wCR ?_;intro K hK)|fail)
    all_goals skip
    all_goals exact PX_retE rfl rfl (Ext.refl _) rfl
  | true =>
    obtain ⟨m0, -, -, m3⟩ := (a9A _ _).1 hm
    obtain ⟨n, rfl⟩ := Int.eq_ofNat_of_zero_le m0
    have hin : IdsIn ids n := IdsIn.of m3
    clear m0 m3
    repeat' (first|(refine oLA ?_;first|refine LA_pass rfl ?_|refine wOp ?_|(refine wCm ?_ ?_<;>intro hc)|(refine oCv ?_;first|(refine oC 17 ?_; refine LA_call2 (f := 17) rfl rfl rfl rfl  (.tup2 (.pred (ixP tRg n fun i => sumP ids (i + 1))) (.val (.int .i64 0))) (by intro u1 u2 w e hu1 hu2; (try obtain rfl : u1 = _ := hu1); (try obtain rfl : u2 = _ := hu2); exact bkA (h.ext e) (hT.ext e) hm) ?_)|(refine oC 10 ?_; refine LA_call2 (f := 10) rfl rfl rfl rfl  (.tup2 (.pred (ixP tIv n fun i => idP ids i)) (.val (.int .i64 0))) (by intro u1 u2 w e hu1 hu2; (try obtain rfl : u1 = _ := hu1); (try obtain rfl : u2 = _ := hu2); exact b0A (h.ext e) (hT.ext e) hm) ?_))|(refine wNl hK ?_;clear hK K))|refine wG ?_|(refine wCR ?_;intro K hK)|fail)
    all_goals skip
    refine CX_pick 9 rfl (fun vx wx ex hx => ?_)
    refine CX_pick 11 rfl (fun vy wy ey hy => ?_)
    refine CX_loopV (ι := Nat × Value) (fun j => [(1, .val (.int .i64 n)), (2, .val (.int .i64 lo)), (3, .val (.int .i64 hi)), (9, .val vx), (11, .val vy), (13, .val j.2), (41, .val (.int .i64 n)), (42, .val (.int .i64 j.1))])
      (fun j w' => Ext w w' ∧ j.1 ≤ n ∧ IX tRg n (fun i => sumP ids (i + 1)) w' vx ∧ IX tIv n (fun i => idP ids i) w' vy ∧ OwnI w.heap.size tI6 .i64 w' j.2 (ltL lo hi j.1)) (fun j => n - j.1)
      (fun w2 e2 => ⟨(0, nilS), ⟨(ex.trans ey).trans e2, Nat.zero_le _, IX.ext hx (ey.trans e2), IX.ext hy e2, OwnI.nil⟩, (by repeat' (first | exact Sub.nil | refine Sub.val rfl (by first | with_reducible rfl | (congr 1; omega)) ?_ | refine Sub.same rfl ?_))⟩) ?_
    rintro ⟨k, v13⟩ w1 ⟨he, hk0, hX, hY, h13⟩
    dsimp only at hk0 hX hY h13 ⊢
    have hl13 := bmA lo hi k
    by_cases hk : k < n
    · skip
      repeat' (first|(refine oLA ?_;first|refine LA_pass rfl ?_|(refine oD 55 ?_; refine LA_one rfl avA rfl rfl ?_)|(refine oD 56 ?_; refine LA_stop (hK _ _ (LX_appendL rfl (by decide) avA rfl h13 rfl HasC.pred (fun c hc => by rw [List.mem_singleton] at hc; subst hc; rfl) (by unfold maxLen; omega) (by omega) (fun v' w2 w3 e2 ho hf hlc => ?_))); clear hK K; refine LX_la (by kernel_rfl) (fun K hK => ?_))|refine wOp ?_|(refine wCm ?_ ?_<;>intro hc)|(refine wNl hK ?_;clear hK K))|(refine oCX ?_;first|refine CX_seqW (id := 13) (ι := Value) (fun u => [(1, .val (.int .i64 n)), (2, .val (.int .i64 lo)), (3, .val (.int .i64 hi)), (9, .val vx), (11, .val vy), (13, .val u), (14, .val (.int .i64 k)), (41, .val (.int .i64 n)), (42, .val (.int .i64 k))]) (fun u w' => Ext w w' ∧ IX tRg n (fun i => sumP ids (i + 1)) w' vx ∧ IX tIv n (fun i => idP ids i) w' vy ∧ OwnI w.heap.size tI6 .i64 w' u (ltL lo hi (k + 1))) ?_ ?_)|refine wG ?_|(refine wCR ?_;intro K hK)|fail)
      all_goals skip
      · have hlt : ltL lo hi (k + 1) = ltL lo hi k ++ [(k : Int)] := by simp only [ltL]; rw [if_pos (by omega)]
        have hX3 := (hX.ext e2).off hf (fun q hq => own_type (Own.ext h13 e2) hq) (by decide)
        have hY3 := (hY.ext e2).off hf (fun q hq => own_type (Own.ext h13 e2) hq) (by decide)
        have h14 : OwnI w.heap.size tI6 .i64 w3 v' (ltL lo hi (k + 1)) := by
          rw [hlt]; unfold OwnI; rw [List.map_append, List.length_append]
          exact Own.rebase ho (hlc.ge (fun q hq => (Own.lt h13 q hq).1) (Nat.le_trans he.size e2.size))
        have x3 : Ext w w3 := Fr.ext (he.trans e2) hf (fun q hq => (Own.lt h13 q hq).1)
        exact PX_rndV v' (fun w5 e5 => ⟨x3.trans e5, hX3.ext e5, hY3.ext e5, h14.ext e5⟩) (by omega) (by repeat' (first | exact Sub.nil | refine Sub.val rfl (by first | with_reducible rfl | (congr 1; omega)) ?_ | refine Sub.same rfl ?_))
      · have hlt : ltL lo hi (k + 1) = ltL lo hi k := by simp only [ltL]; rw [if_neg (by omega)]
        exact PX_rndV v13 (fun w5 e5 => ⟨he.trans e5, hX.ext e5, hY.ext e5, by rw [hlt]; exact h13.ext e5⟩) (by omega) (by repeat' (first | exact Sub.nil | refine Sub.val rfl (by first | with_reducible rfl | (congr 1; omega)) ?_ | refine Sub.same rfl ?_))
      · have hlt : ltL lo hi (k + 1) = ltL lo hi k := by simp only [ltL]; rw [if_neg (by omega)]
        exact PX_rndV v13 (fun w5 e5 => ⟨he.trans e5, hX.ext e5, hY.ext e5, by rw [hlt]; exact h13.ext e5⟩) (by omega) (by repeat' (first | exact Sub.nil | refine Sub.val rfl (by first | with_reducible rfl | (congr 1; omega)) ?_ | refine Sub.same rfl ?_))
      rintro v14 w2 ⟨he2, hX2, hY2, h14⟩
      have q1 : two (fun x y => x && !y) (upP n (fun i => sumP ids (i + 1)) (k : Int)) (upP n (fun i => sumP ids (i + 1)) ((k : Int) - 1)) = idP ids k := a5A fun x => by
        rw [aqA, a0A hin, a0A hin, idP_iff]
        constructor
        · rintro ⟨h1, h2⟩
          exact ⟨h1.1, by
            have h3 : ¬ ids.getD x 0 ≤ (k : Int) - 1 := fun h' => h2 ⟨h1.1, h'⟩
            omega⟩
        · rintro ⟨h1, h2⟩
          exact ⟨⟨h1, by omega⟩, fun h' => by omega⟩
      have q2 : btP n (fun i => sumP ids (i + 1)) (k : Int) ((k : Int) + 1) = idP ids k := a5A fun x => by
        rw [a8A hin, idP_iff]
        constructor
        · rintro ⟨h1, h2, h3⟩; exact ⟨h1, by omega⟩
        · rintro ⟨h1, h2⟩; exact ⟨h1, by omega, by omega⟩
      have q3 := adA (ids := ids) hk
      have hT1 := hT.ext he2
      have gg1 : ∀ w', Ext w2 w' → _ := fun w' e => a6A (B := TT) (.inr (hX2.ext e)) (by omega) tt (k : Int)
      have gg2 : ∀ w', Ext w2 w' → _ := fun w' e => a6A (B := TT) (.inr (hX2.ext e)) (by omega) tt ((k : Int) - 1)
      have gg3 : ∀ w', Ext w2 w' → _ := fun w' e => aeA (B := TT) (.inr (hY2.ext e)) (by omega) tt (k : Int)
      have gg4 : ∀ w', Ext w2 w' → _ := fun w' e => awA (lo := (k : Int)) (hi := (k : Int) + 1) (.inr (hX2.ext e)) (by omega) (hT1.ext e) (by dsimp only [fits]; omega) (by dsimp only [fits]; omega)
      rw [q3] at gg3
      rw [q2] at gg4
      obtain ⟨p1, hp1⟩ : ∃ p1, p1 = upP n (fun i => sumP ids (i + 1)) (k : Int) := ⟨_, rfl⟩
      obtain ⟨p2, hp2⟩ : ∃ p2, p2 = upP n (fun i => sumP ids (i + 1)) ((k : Int) - 1) := ⟨_, rfl⟩
      rw [← hp1] at gg1 q1
      rw [← hp2] at gg2 q1
      have gg5 : ∀ w' u u', Ext w2 w' → RSet TT TT w' u p1 → RSet TT TT w' u' p2 → _ := fun w' u u' e hu hu' => andnot_s (A := TT) (B := TT) (B1 := TT) (B2 := TT) (.inr hu) (.inr hu') (hT1.ext e) tt tt
      rw [q1] at gg5
      clear q1 q2 q3 hp1 hp2
      repeat' (first|(refine oLA ?_;first|refine LA_pass rfl ?_|refine wOp ?_|(refine wCm ?_ ?_<;>intro hc)|(refine oCv ?_;first|(refine oD 59 ?_; refine oC 18 ?_; refine LA_call2 (f := 18) rfl rfl rfl rfl  (.pred (rsP TT TT p1)) (by intro u1 u2 w e hu1 hu2; (try obtain rfl : u1 = _ := hu1); (try obtain rfl : u2 = _ := hu2); exact gg1 _ e) ?_)|(refine oD 63 ?_; refine oC 18 ?_; refine LA_call2 (f := 18) rfl rfl rfl rfl  (.pred (rsP TT TT p2)) (by intro u1 u2 w e hu1 hu2; (try obtain rfl : u1 = _ := hu1); (try obtain rfl : u2 = _ := hu2); exact gg2 _ e) ?_)|(refine oC 19 ?_; refine LA_call2 (f := 19) rfl rfl rfl rfl  (.pred (rsP TT TT (idP ids k))) (by intro u1 u2 w e hu1 hu2; (try obtain rfl : u1 = _ := hu1); (try obtain rfl : u2 = _ := hu2); exact gg5 _ _ _ e hu1 hu2) ?_)|(refine oC 15 ?_; refine LA_call2 (f := 15) rfl rfl rfl rfl  (.pred (rsP TT TT (idP ids k))) (by intro u1 u2 w e hu1 hu2; (try obtain rfl : u1 = _ := hu1); (try obtain rfl : u2 = _ := hu2); exact gg3 _ e) ?_)|(refine oC 20 ?_; refine LA_call3 (f := 20) rfl rfl rfl rfl rfl  (.pred (rsP TT TT (idP ids k))) (by intro u1 u2 u3 w e hu1 hu2 hu3; (try obtain rfl : u1 = _ := hu1); (try obtain rfl : u2 = _ := hu2); (try obtain rfl : u3 = _ := hu3); exact gg4 _ e) ?_)|(refine oC 14 ?_; refine LA_call2 (f := 14) rfl rfl rfl rfl  (.val (.bool true)) (by intro u1 u2 w e hu1 hu2; (try obtain rfl : u1 = _ := hu1); (try obtain rfl : u2 = _ := hu2); exact b9A hu1 hu2 (hT1.ext e) rfl) ?_))|(refine wNl hK ?_;clear hK K))|refine wG ?_|(refine wCR ?_;intro K hK)|fail)
      all_goals skip
      exact PX_rndV (k + 1, v14) (fun w5 e5 => ⟨he2.trans e5, hk, hX2.ext e5, hY2.ext e5, h14.ext e5⟩) (by dsimp only; omega) (by repeat' (first | exact Sub.nil | refine Sub.val rfl (by first | with_reducible rfl | (congr 1; omega)) ?_ | refine Sub.same rfl ?_))
    · obtain rfl : k = n := by omega
      have hT1 := hT.ext he
      have q1 : btP k (fun i => sumP ids (i + 1)) lo hi = amP k (fun i => idP ids i) (ltL lo hi k) (ltL lo hi k).length := a5A fun x => by
        rw [a8A hin, c9A hin]
        constructor
        · rintro ⟨h1, h2, h3⟩
          have := hin x h1
          exact ⟨h1, (b4A _).2 ⟨(ids.getD x 0).toNat, by omega, by omega, by omega⟩⟩
        · rintro ⟨h1, h2⟩
          obtain ⟨i, i1, i2, i3⟩ := (b4A _).1 h2
          omega
      have gg4 : ∀ w', Ext w1 w' → _ := fun w' e => awA (lo := lo) (hi := hi) (.inr (hX.ext e)) (by omega) (hT1.ext e) hlo hhi
      have gg6 : ∀ w', Ext w1 w' → _ := fun w' e => b7A (.inr (hY.ext e)) (by omega) (h13.ext e).slI (hT1.ext e)
      rw [← q1] at gg6
      obtain ⟨q, hq⟩ : ∃ q, q = btP k (fun i => sumP ids (i + 1)) lo hi := ⟨_, rfl⟩
      rw [← hq] at gg4 gg6
      clear q1 hq
      repeat' (first|(refine oLA ?_;first|refine LA_pass rfl ?_|refine wOp ?_|(refine wCm ?_ ?_<;>intro hc)|(refine oCv ?_;first|(refine oC 20 ?_; refine LA_call3 (f := 20) rfl rfl rfl rfl rfl  (.pred (rsP TT TT q)) (by intro u1 u2 u3 w e hu1 hu2 hu3; (try obtain rfl : u1 = _ := hu1); (try obtain rfl : u2 = _ := hu2); (try obtain rfl : u3 = _ := hu3); exact gg4 _ e) ?_)|(refine oC 21 ?_; refine LA_call2 (f := 21) rfl rfl rfl rfl  (.pred (rsP TT TT q)) (by intro u1 u2 w e hu1 hu2; (try obtain rfl : u1 = _ := hu1); (try obtain rfl : u2 = _ := hu2); exact gg6 _ e) ?_)|(refine oC 14 ?_; refine LA_call2 (f := 14) rfl rfl rfl rfl  (.val (.bool true)) (by intro u1 u2 w e hu1 hu2; (try obtain rfl : u1 = _ := hu1); (try obtain rfl : u2 = _ := hu2); exact b9A hu1 hu2 (hT1.ext e) rfl) ?_)|(refine oC 16 ?_; refine LA_call0 (f := 16) rfl rfl  (.val (.bool true)) (by intro w e; exact afA _ (hT1.ext e)) ?_))|(refine wNl hK ?_;clear hK K))|refine wG ?_|(refine wCR ?_;intro K hK)|fail)
      all_goals skip
      exact PX_retE rfl rfl he rfl
end Go.Proofs.YtadpcgjohleglaaGreatDoor
end
