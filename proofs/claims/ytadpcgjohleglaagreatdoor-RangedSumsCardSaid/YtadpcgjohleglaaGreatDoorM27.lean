import Derived.Test.YtadpcgjohleglaaGreatDoorM26
section
set_option linter.unusedSimpArgs false
set_option linter.unusedVariables false
set_option maxRecDepth 3000
namespace Go.Proofs.YtadpcgjohleglaaGreatDoor
open Go.LA Go.ArrP Go.RowKit
theorem upP0 (ps : Nat → Nat → Bool) (id : Int) : upP 0 ps id = fun _ => false := by unfold upP; rw [if_neg (by omega)]
theorem btP0 (ps : Nat → Nat → Bool) (lo hi : Int) : btP 0 ps lo hi = fun _ => false := by
  unfold btP
  split
  · rfl
  · rw [upP0, upP0]; rfl
theorem beA (T : Nat) : cnt (fun _ => false) T = 0 := cnt_zero T fun _ _ => rfl
set_option maxHeartbeats 4000000 in
theorem rsums_s (w : World) (hT : Tab w) {v : Value} {ids : List Int} (h : SlI .i64 w v ids) (many : Int) {lo mid hi : Int} (hlo : fits .i64 lo) (hmid : fits .i64 mid) (hhi : fits .i64 hi) : Fc Tryz.prog 6 #[v, .int .i64 many, .int .i64 lo, .int .i64 mid, .int .i64 hi] w (Ret w (.val (.bool true))) := by
  have hl := h.len
  have htop := TOP_eq
  refine Fc.of (args := [_, _, _, _, _]) Tryz.func6 rfl rfl Tryz.ntmps6 (Nat.le_of_ble_eq_true rfl) ?_
  by_cases hbig : 300 < (ids.length : Int)
  · skip
    repeat' (first|(refine oLA ?_;first|refine LA_pass rfl ?_|refine wOp ?_|(refine wCm ?_ ?_<;>intro hc)|(refine oCv ?_;first|(refine oC 16 ?_; refine LA_call0 (f := 16) rfl rfl  (.val (.bool true)) (by intro w e; exact afA _ (hT.ext e)) ?_))|(refine wNl hK ?_;clear hK K))|refine wG ?_|(refine wCR ?_;intro K hK)|fail)
    all_goals exact PX_retE rfl rfl (Ext.refl _) rfl
  by_cases hbig2 : 60 < many
  · skip
    repeat' (first|(refine oLA ?_;first|refine LA_pass rfl ?_|refine wOp ?_|(refine wCm ?_ ?_<;>intro hc)|(refine oCv ?_;first|(refine oC 16 ?_; refine LA_call0 (f := 16) rfl rfl  (.val (.bool true)) (by intro w e; exact afA _ (hT.ext e)) ?_))|(refine wNl hK ?_;clear hK K))|refine wG ?_|(refine wCR ?_;intro K hK)|fail)
    all_goals exact PX_retE rfl rfl (Ext.refl _) rfl
  cases hm : alA ids many with
  | false =>
    repeat' (first|(refine oLA ?_;first|refine LA_pass rfl ?_|refine wOp ?_|(refine wCm ?_ ?_<;>intro hc)|(refine oCv ?_;first|(refine oC 17 ?_; refine LA_call2 (f := 17) rfl rfl rfl rfl  (.tup2 (.val (.pointer none)) (.val (.int .i64 2))) (by intro u1 u2 w e hu1 hu2; (try obtain rfl : u1 = _ := hu1); (try obtain rfl : u2 = _ := hu2); exact c2A (h.ext e) (hT.ext e) hm) ?_)|(refine oC 16 ?_; refine LA_call0 (f := 16) rfl rfl  (.val (.bool true)) (by intro w e; exact afA _ (hT.ext e)) ?_))|(refine wNl hK ?_;clear hK K))|refine wG ?_|(refine wCR ?_;intro K hK)|fail)
    all_goals skip
    all_goals exact PX_retE rfl rfl (Ext.refl _) rfl
  | true =>
    obtain ⟨m0, -, -, m3⟩ := (a9A _ _).1 hm
    obtain ⟨n, rfl⟩ := Int.eq_ofNat_of_zero_le m0
    have hin : IdsIn ids n := IdsIn.of m3
    clear m0 m3
    have q1 : lo ≤ mid ∧ mid ≤ hi → two (fun x y => x || y) (btP n (fun i => sumP ids (i + 1)) lo mid) (btP n (fun i => sumP ids (i + 1)) mid hi) = btP n (fun i => sumP ids (i + 1)) lo hi := fun hle => a5A fun x => by
      rw [b8A, a8A hin, a8A hin, a8A hin]; omega
    have b1 : ∀ w' u, Ext w w' → IX tRg n (fun i => sumP ids (i + 1)) w' u → _ := fun w' u e hx => awA (lo := lo) (hi := mid) (.inr hx) (by omega) (hT.ext e) hlo hmid
    have b2 : ∀ w' u, Ext w w' → IX tRg n (fun i => sumP ids (i + 1)) w' u → _ := fun w' u e hx => awA (lo := mid) (hi := hi) (.inr hx) (by omega) (hT.ext e) hmid hhi
    have b3 : ∀ w' u, Ext w w' → IX tRg n (fun i => sumP ids (i + 1)) w' u → _ := fun w' u e hx => awA (lo := lo) (hi := hi) (.inr hx) (by omega) (hT.ext e) hlo hhi
    obtain ⟨p1, hp1⟩ : ∃ p, p = btP n (fun i => sumP ids (i + 1)) lo mid := ⟨_, rfl⟩
    obtain ⟨p2, hp2⟩ : ∃ p, p = btP n (fun i => sumP ids (i + 1)) mid hi := ⟨_, rfl⟩
    obtain ⟨p3, hp3⟩ : ∃ p, p = btP n (fun i => sumP ids (i + 1)) lo hi := ⟨_, rfl⟩
    rw [← hp1] at b1 q1; rw [← hp2] at b2 q1; rw [← hp3] at b3 q1
    clear hp1 hp2 hp3
    repeat' (first|(refine oLA ?_;first|refine LA_pass rfl ?_|refine wOp ?_|(refine wCm ?_ ?_<;>intro hc)|(refine oCv ?_;first|(refine oC 17 ?_; refine LA_call2 (f := 17) rfl rfl rfl rfl  (.tup2 (.pred (ixP tRg n fun i => sumP ids (i + 1))) (.val (.int .i64 0))) (by intro u1 u2 w e hu1 hu2; (try obtain rfl : u1 = _ := hu1); (try obtain rfl : u2 = _ := hu2); exact bkA (h.ext e) (hT.ext e) hm) ?_)|(refine oD 47 ?_; refine oC 20 ?_; refine LA_call3 (f := 20) rfl rfl rfl rfl rfl  (.pred (rsP TT TT p1)) (by intro u1 u2 u3 w e hu1 hu2 hu3; (try obtain rfl : u1 = _ := hu1); (try obtain rfl : u2 = _ := hu2); (try obtain rfl : u3 = _ := hu3); exact b1 _ _ e hu1) ?_)|(refine oD 51 ?_; refine oC 20 ?_; refine LA_call3 (f := 20) rfl rfl rfl rfl rfl  (.pred (rsP TT TT p2)) (by intro u1 u2 u3 w e hu1 hu2 hu3; (try obtain rfl : u1 = _ := hu1); (try obtain rfl : u2 = _ := hu2); (try obtain rfl : u3 = _ := hu3); exact b2 _ _ e hu1) ?_)|(refine oD 56 ?_; refine oC 20 ?_; refine LA_call3 (f := 20) rfl rfl rfl rfl rfl  (.pred (rsP TT TT p3)) (by intro u1 u2 u3 w e hu1 hu2 hu3; (try obtain rfl : u1 = _ := hu1); (try obtain rfl : u2 = _ := hu2); (try obtain rfl : u3 = _ := hu3); exact b3 _ _ e hu1) ?_)|(refine oC 28 ?_; refine LA_call2 (f := 28) rfl rfl rfl rfl  (.pred (rsP TT TT (two (fun x y => x || y) p1 p2))) (by intro u1 u2 w e hu1 hu2; (try obtain rfl : u1 = _ := hu1); (try obtain rfl : u2 = _ := hu2); exact or_s (A := TT) (B := TT) (B1 := TT) (B2 := TT) (.inr hu1) (.inr hu2) (hT.ext e) tt tt) ?_)|(refine oC 14 ?_; refine LA_call2 (f := 14) rfl rfl rfl rfl  (.val (.bool true)) (by intro u1 u2 w e hu1 hu2; (try obtain rfl : u1 = _ := hu1); (try obtain rfl : u2 = _ := hu2); exact b9A hu1 hu2 (hT.ext e) (q1 (by omega))) ?_))|(refine wNl hK ?_;clear hK K))|(refine oCX ?_;first|refine CX_seqW (id := 6) (ι := Value) (fun u => [(0, .val v), (1, .val (.int .i64 n)), (2, .val (.int .i64 lo)), (4, .val (.int .i64 hi)), (11, .val u)]) (fun u w' => Ext w w' ∧ IX tRg n (fun i => sumP ids (i + 1)) w' u) ?_ ?_)|refine wG ?_|(refine wCR ?_;intro K hK)|fail)
    all_goals skip
    · exact PX_pick 11 rfl (fun v5 w5 e5 h5 => PX_rndV v5 (fun w6 e6 => ⟨e5.trans e6, IX.ext h5 e6⟩) (by omega) (by repeat' (first | exact Sub.nil | refine Sub.val rfl (by first | with_reducible rfl | (congr 1; omega)) ?_ | refine Sub.same rfl ?_)))
    · exact PX_pick 11 rfl (fun v5 w5 e5 h5 => PX_rndV v5 (fun w6 e6 => ⟨e5.trans e6, IX.ext h5 e6⟩) (by omega) (by repeat' (first | exact Sub.nil | refine Sub.val rfl (by first | with_reducible rfl | (congr 1; omega)) ?_ | refine Sub.same rfl ?_)))
    · exact PX_pick 11 rfl (fun v5 w5 e5 h5 => PX_rndV v5 (fun w6 e6 => ⟨e5.trans e6, IX.ext h5 e6⟩) (by omega) (by repeat' (first | exact Sub.nil | refine Sub.val rfl (by first | with_reducible rfl | (congr 1; omega)) ?_ | refine Sub.same rfl ?_)))
    rintro vx w1 ⟨he, hX⟩
    have hT1 := hT.ext he
    clear q1 b1 b2 b3
    repeat' (first|(refine oLA ?_;first|refine LA_pass rfl ?_|refine wOp ?_|(refine wCm ?_ ?_<;>intro hc)|(refine wNl hK ?_;clear hK K))|refine wG ?_|(refine wCR ?_;intro K hK)|fail)
    all_goals skip
    have z0 : cnt (upP n (fun i => sumP ids (i + 1)) (((0 : Nat) : Int) - 1)) TOP = 0 := c5A fun x hx => by
      have h1 := (a0A hin).1 hx
      have h2 := hin x h1.1
      omega
    refine CX_loop (ι := Nat) (fun k => [(0, .val v), (1, .val (.int .i64 n)), (2, .val (.int .i64 lo)), (4, .val (.int .i64 hi)), (11, .val vx), (13, .val (.int .i64 (cnt (upP n (fun i => sumP ids (i + 1)) ((k : Int) - 1)) TOP))), (60, .val (.int .i64 n)), (61, .val (.int .i64 k))]) (fun k => k ≤ n) (fun k => n - k) 0 (Nat.zero_le _) (by rw [z0]; (repeat' (first | exact Sub.nil | (refine Sub.val rfl ?_ ?_; first | with_reducible rfl | (congr 1; omega)) | refine Sub.same rfl ?_)); done) ?_
    intro k hk0
    by_cases hk : k < n
    · have q2 : two (fun x y => x && !y) (upP n (fun i => sumP ids (i + 1)) ((k : Int) - 1)) (upP n (fun i => sumP ids (i + 1)) (k : Int)) = fun _ => false := a5A fun x => by
        rw [aqA, a0A hin, a0A hin]
        constructor
        · rintro ⟨h1, h2⟩; exact absurd ⟨h1.1, by omega⟩ h2
        · intro h1; cases h1
      have q3 : btP n (fun i => sumP ids (i + 1)) 0 ((k : Int) + 1) = upP n (fun i => sumP ids (i + 1)) (k : Int) := a5A fun x => by
        rw [a8A hin, a0A hin]
        constructor
        · rintro ⟨h1, h2, h3⟩; exact ⟨h1, by omega⟩
        · rintro ⟨h1, h2⟩
          have := hin x h1
          exact ⟨h1, by omega, by omega⟩
      have q4 := b2A (p := upP n (fun i => sumP ids (i + 1)) ((k : Int) - 1)) (q := upP n (fun i => sumP ids (i + 1)) (k : Int)) (fun x hx => by
        have := (a0A hin).1 hx
        exact (a0A hin).2 ⟨this.1, by omega⟩) TOP
      have q5 : ((k + 1 : Nat) : Int) - 1 = (k : Int) := by omega
      have gg1 : ∀ w', Ext w1 w' → _ := fun w' e => a6A (B := TT) (.inr (hX.ext e)) (by omega) tt (k : Int)
      have gg2 : ∀ w', Ext w1 w' → _ := fun w' e => a6A (B := TT) (.inr (hX.ext e)) (by omega) tt ((k : Int) - 1)
      have gg3 : ∀ w', Ext w1 w' → _ := fun w' e => awA (lo := 0) (hi := (k : Int) + 1) (.inr (hX.ext e)) (by omega) (hT1.ext e) (by dsimp only [fits]; omega) (by dsimp only [fits]; omega)
      rw [q3] at gg3
      obtain ⟨p1, hp1⟩ : ∃ p1, p1 = upP n (fun i => sumP ids (i + 1)) (k : Int) := ⟨_, rfl⟩
      obtain ⟨p2, hp2⟩ : ∃ p2, p2 = upP n (fun i => sumP ids (i + 1)) ((k : Int) - 1) := ⟨_, rfl⟩
      rw [← hp1] at gg1 gg3 q2 q4
      rw [← hp2] at gg2 q2 q4
      have hb1 := cnt_le p1 TOP
      have gg4 : ∀ w' u u', Ext w1 w' → RSet TT TT w' u p2 → RSet TT TT w' u' p1 → _ := fun w' u u' e hu hu' => andnot_s (A := TT) (B := TT) (B1 := TT) (B2 := TT) (.inr hu) (.inr hu') (hT1.ext e) tt tt
      rw [q2] at gg4
      have gg5 : ∀ w' u, RSet TT TT w' u p1 → _ := fun w' u hu => len_s (B := TT) (A := TT) (.inr hu)
      have gg6 : ∀ w' u, RSet TT TT w' u (fun _ => false) → _ := fun w' u hu => len_s (B := TT) (A := TT) (.inr hu)
      rw [beA] at gg6
      rw [← hp2]
      obtain ⟨c1, hc1⟩ : ∃ c, c = cnt p1 TOP := ⟨_, rfl⟩
      obtain ⟨c2, hc2⟩ : ∃ c, c = cnt p2 TOP := ⟨_, rfl⟩
      rw [← hc1] at gg5 q4 hb1
      rw [← hc2] at q4 ⊢
      clear q2 q3 hp2
      repeat' (first|(refine oLA ?_;first|refine LA_pass rfl ?_|refine wOp ?_|(refine wCm ?_ ?_<;>intro hc)|(refine oCv ?_;first|(refine oD 66 ?_; refine oC 18 ?_; refine LA_call2 (f := 18) rfl rfl rfl rfl  (.pred (rsP TT TT p1)) (by intro u1 u2 w e hu1 hu2; (try obtain rfl : u1 = _ := hu1); (try obtain rfl : u2 = _ := hu2); exact gg1 _ e) ?_)|(refine oD 84 ?_; refine oC 18 ?_; refine LA_call2 (f := 18) rfl rfl rfl rfl  (.pred (rsP TT TT p2)) (by intro u1 u2 w e hu1 hu2; (try obtain rfl : u1 = _ := hu1); (try obtain rfl : u2 = _ := hu2); exact gg2 _ e) ?_)|(refine oC 20 ?_; refine LA_call3 (f := 20) rfl rfl rfl rfl rfl  (.pred (rsP TT TT p1)) (by intro u1 u2 u3 w e hu1 hu2 hu3; (try obtain rfl : u1 = _ := hu1); (try obtain rfl : u2 = _ := hu2); (try obtain rfl : u3 = _ := hu3); exact gg3 _ e) ?_)|(refine oC 19 ?_; refine LA_call2 (f := 19) rfl rfl rfl rfl  (.pred (rsP TT TT (fun _ => false))) (by intro u1 u2 w e hu1 hu2; (try obtain rfl : u1 = _ := hu1); (try obtain rfl : u2 = _ := hu2); exact gg4 _ _ _ e hu1 hu2) ?_)|(refine oC 14 ?_; refine LA_call2 (f := 14) rfl rfl rfl rfl  (.val (.bool true)) (by intro u1 u2 w e hu1 hu2; (try obtain rfl : u1 = _ := hu1); (try obtain rfl : u2 = _ := hu2); exact b9A hu1 hu2 (hT1.ext e) rfl) ?_)|(refine oD 87 ?_; refine oC 23 ?_; refine LA_call1 (f := 23) rfl rfl rfl  (.val (.int .i64 (0 : Nat))) (by intro u1 w e hu1; (try obtain rfl : u1 = _ := hu1); exact gg6 _ _ hu1) ?_)|(refine oC 23 ?_; refine LA_call1 (f := 23) rfl rfl rfl  (.val (.int .i64 c1)) (by intro u1 w e hu1; (try obtain rfl : u1 = _ := hu1); exact gg5 _ _ hu1) ?_))|(refine wNl hK ?_;clear hK K))|refine wG ?_|(refine wCR ?_;intro K hK)|fail)
      all_goals skip
      exact PX_rnd (k + 1) hk (by omega) (by rw [q5, ← hp1, ← hc1]; (repeat' (first | exact Sub.nil | (refine Sub.val rfl ?_ ?_; first | with_reducible rfl | (congr 1; omega)) | refine Sub.same rfl ?_)); done)
    · obtain rfl : k = n := by omega
      have q1 : cnt (btP k (fun i => sumP ids (i + 1)) (-9) ((k : Int) + 9)) TOP = ids.length := bpA (fun x => by
        rw [a8A hin]
        constructor
        · rintro ⟨h1, h2⟩; exact h1
        · intro h1
          have := hin x h1
          exact ⟨h1, by omega, by omega⟩) (by omega)
      have gg1 : ∀ w', Ext w1 w' → _ := fun w' e => awA (lo := -9) (hi := (k : Int) + 9) (.inr (hX.ext e)) (by omega) (hT1.ext e) (by dsimp only [fits]; omega) (by dsimp only [fits]; omega)
      have gg2 : ∀ w' u, RSet TT TT w' u (btP k (fun i => sumP ids (i + 1)) (-9) ((k : Int) + 9)) → _ := fun w' u hu => len_s (B := TT) (A := TT) (.inr hu)
      rw [q1] at gg2
      obtain ⟨p1, hp1⟩ : ∃ p1, p1 = btP k (fun i => sumP ids (i + 1)) (-9) ((k : Int) + 9) := ⟨_, rfl⟩
      rw [← hp1] at gg1 gg2
      clear hp1 q1
      have gg3 : ∀ w' u, NIX tRg 0 (fun _ _ => false) w' u → _ := fun w' u hu => a6A (B := TT) hu (by decide) tt 0
      rw [upP0] at gg3
      have gg4 : ∀ w', Ext w1 w' → _ := fun w' e => awA (w := w') (v := .pointer none) (n := 0) (ps := fun _ _ => false) (lo := lo) (hi := hi) (.inl ⟨rfl, rfl⟩) (by decide) (hT1.ext e) hlo hhi
      rw [btP0] at gg4
      have gg6 : ∀ w' u, RSet TT TT w' u (fun _ => false) → _ := fun w' u hu => len_s (B := TT) (A := TT) (.inr hu)
      rw [beA] at gg6
      repeat' (first|(refine oLA ?_;first|refine LA_pass rfl ?_|(refine oD 17 ?_; refine LA_stop (hK _ _ (LX_al rfl (by decide) (fun _ => rfl) (fun bz wz xz hbz hz => ?_))); clear hK K; have hNz : ∀ w', Ext wz w' → NIX tRg 0 (fun _ _ => false) w' (.pointer (some ⟨bz, 0, none⟩)) := fun w' e => NIX.zero (e.block hz); refine LX_la (by kernel_rfl) (fun K hK => ?_))|(refine oD 99 ?_; refine LA_len rfl _ rfl rfl (HasI.val (h.ext (he.trans xz))).c ?_)|(refine oD 128 ?_; refine LA_len (n := 0) (s := 1) (cs := []) rfl _ rfl rfl (HasC.val (Own.slC (Own.nil (base := 0) (e := 0)))) ?_)|refine wOp ?_|(refine wCm ?_ ?_<;>intro hc)|(refine oCv ?_;first|(refine oD 96 ?_; refine oC 20 ?_; refine LA_call3 (f := 20) rfl rfl rfl rfl rfl  (.pred (rsP TT TT p1)) (by intro u1 u2 u3 w e hu1 hu2 hu3; (try obtain rfl : u1 = _ := hu1); (try obtain rfl : u2 = _ := hu2); (try obtain rfl : u3 = _ := hu3); exact gg1 _ (xz.trans e)) ?_)|(refine oD 121 ?_; refine oC 20 ?_; refine LA_call3 (f := 20) rfl rfl rfl rfl rfl  (.pred (rsP TT TT (fun _ => false))) (by intro u1 u2 u3 w e hu1 hu2 hu3; (try obtain rfl : u1 = _ := hu1); (try obtain rfl : u2 = _ := hu2); (try obtain rfl : u3 = _ := hu3); exact gg4 _ (xz.trans e)) ?_)|(refine oD 97 ?_; refine oC 23 ?_; refine LA_call1 (f := 23) rfl rfl rfl  (.val (.int .i64 ids.length)) (by intro u1 w e hu1; (try obtain rfl : u1 = _ := hu1); exact gg2 _ _ hu1) ?_)|(refine oC 23 ?_; refine LA_call1 (f := 23) rfl rfl rfl  (.val (.int .i64 (0 : Nat))) (by intro u1 w e hu1; (try obtain rfl : u1 = _ := hu1); exact gg6 _ _ hu1) ?_)|(refine oD 103 ?_; refine oC 29 ?_; refine LA_call1 (f := 29) rfl rfl rfl  (.val (.int .i64 (0 : Nat))) (by intro u1 w e hu1; (try obtain rfl : u1 = _ := hu1); exact bgA (ps := fun _ _ => false) (.inl ⟨rfl, rfl⟩)) ?_)|(refine oD 104 ?_; refine oC 29 ?_; refine LA_call1 (f := 29) rfl rfl rfl  (.val (.int .i64 (0 : Nat))) (by intro u1 w e hu1; (try obtain rfl : u1 = _ := hu1); exact bgA (hNz _ e)) ?_)|(refine oD 110 ?_; refine oC 18 ?_; refine LA_call2 (f := 18) rfl rfl rfl rfl  (.pred (rsP TT TT (fun _ => false))) (by intro u1 u2 w e hu1 hu2; (try obtain rfl : u1 = _ := hu1); (try obtain rfl : u2 = _ := hu2); exact gg3 _ _ (.inl ⟨rfl, rfl⟩)) ?_)|(refine oD 112 ?_; refine oC 18 ?_; refine LA_call2 (f := 18) rfl rfl rfl rfl  (.pred (rsP TT TT (fun _ => false))) (by intro u1 u2 w e hu1 hu2; (try obtain rfl : u1 = _ := hu1); (try obtain rfl : u2 = _ := hu2); exact gg3 _ _ (hNz _ e)) ?_)|(refine oC 30 ?_; refine LA_call1 (f := 30) rfl rfl rfl  (.val nilS) (by intro u1 w e hu1; (try obtain rfl : u1 = _ := hu1); exact rby_0 (ps := fun _ _ => false) (.inl ⟨rfl, rfl⟩)) ?_)|(refine oC 16 ?_; refine LA_call0 (f := 16) rfl rfl  (.val (.bool true)) (by intro w e; exact afA _ (hT1.ext (xz.trans e))) ?_))|(refine wNl hK ?_;clear hK K))|refine wG ?_|(refine wCR ?_;intro K hK)|fail)
      all_goals skip
      exact PX_retE rfl rfl (he.trans xz) rfl
end Go.Proofs.YtadpcgjohleglaaGreatDoor
end
