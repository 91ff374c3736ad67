import Derived.Test.YtadpcgjohleglaaGreatDoorM24
section
set_option linter.unusedSimpArgs false
set_option linter.unusedVariables false
set_option maxRecDepth 3000
namespace Go.Proofs.YtadpcgjohleglaaGreatDoor
open Go.LA Go.ArrP Go.RowKit
def b3A (a k : Nat) : Bool := decide (a / 2 ^ k % 2 = 1)
def a3A (a : Nat) : Nat → List Int
  | 0 => []
  | k + 1 => if b3A a k then a3A a k ++ [(k : Int), (k : Int)] else a3A a k
def a4A (a n : Nat) : Nat → List Int
  | 0 => []
  | k + 1 => if b3A a k then a4A a n k else a4A a n k ++ [(k : Int), -1, (n : Int)]
theorem ahA {a : Nat} {z : Int} : ∀ k, z ∈ a3A a k ↔ ∃ i : Nat, i < k ∧ b3A a i = true ∧ z = i
  | 0 => by simp [a3A]
  | k + 1 => by
    have ih := ahA (a := a) (z := z) k
    simp only [a3A]
    by_cases hb : b3A a k = true
    · rw [if_pos hb, List.mem_append, ih]
      constructor
      · rintro (⟨i, h1, h2, h3⟩ | h)
        · exact ⟨i, by omega, h2, h3⟩
        · simp only [List.mem_cons, List.not_mem_nil, or_false] at h
          exact ⟨k, Nat.lt_succ_self k, hb, by rcases h with h | h <;> exact h⟩
      · rintro ⟨i, h1, h2, h3⟩
        by_cases e : i = k
        · subst e; exact .inr (by rw [h3]; exact List.mem_cons_self)
        · exact .inl ⟨i, by omega, h2, h3⟩
    · rw [if_neg hb, ih]
      constructor
      · rintro ⟨i, h1, h2⟩; exact ⟨i, by omega, h2⟩
      · rintro ⟨i, h1, h2, h3⟩
        exact ⟨i, by rcases Nat.lt_succ_iff_lt_or_eq.1 h1 with h | h; · exact h
                     · subst h; exact absurd h2 hb, h2, h3⟩
theorem ajA {a n : Nat} {z : Int} (hz : 0 ≤ z ∧ z < (n : Int)) : ∀ k, z ∈ a4A a n k ↔ ∃ i : Nat, i < k ∧ b3A a i = false ∧ z = i
  | 0 => by simp [a4A]
  | k + 1 => by
    have ih := ajA (a := a) hz k
    simp only [a4A]
    by_cases hb : b3A a k = true
    · rw [if_pos hb, ih]
      constructor
      · rintro ⟨i, h1, h2⟩; exact ⟨i, by omega, h2⟩
      · rintro ⟨i, h1, h2, h3⟩
        exact ⟨i, by rcases Nat.lt_succ_iff_lt_or_eq.1 h1 with h | h; · exact h
                     · subst h; rw [hb] at h2; exact absurd h2 (by decide), h2, h3⟩
    · rw [if_neg hb, List.mem_append, ih]
      constructor
      · rintro (⟨i, h1, h2, h3⟩ | h)
        · exact ⟨i, by omega, h2, h3⟩
        · simp only [List.mem_cons, List.not_mem_nil, or_false] at h
          exact ⟨k, Nat.lt_succ_self k, by simpa using hb, by omega⟩
      · rintro ⟨i, h1, h2, h3⟩
        by_cases e : i = k
        · subst e; exact .inr (by rw [h3]; exact List.mem_cons_self)
        · exact .inl ⟨i, by omega, h2, h3⟩
theorem axA (a : Nat) : ∀ k, (a3A a k).length ≤ 2 * k
  | 0 => Nat.le_refl _
  | k + 1 => by
    have := axA a k
    simp only [a3A]
    split
    · rw [List.length_append]; simp; omega
    · omega
theorem ayA (a n : Nat) : ∀ k, (a4A a n k).length ≤ 3 * k
  | 0 => Nat.le_refl _
  | k + 1 => by
    have := ayA a n k
    simp only [a4A]
    split
    · omega
    · rw [List.length_append]; simp; omega
theorem biA (a k : Nat) : (a : Int) / 2 ^ Int.toNat (k : Int) = ((a / 2 ^ k : Nat) : Int) := by rw [Int.toNat_natCast]; norm_cast
theorem c3A (a k : Nat) : a / 2 ^ k ≤ a := Nat.div_le_self _ _
theorem aoA {base e : Nat} {w1 w2 w3 : World} {v u v' : Value} {m : Nat} {ds : List Value} (hu : Own base e 1 w1 u m ds) (ha : ∀ k, v.ownBlock = some k → u.ownBlock ≠ some k) (e2 : Ext w1 w2) (hf : Fr (fun k => v.ownBlock = some k) w2 w3) (hl : LocR w2 v v') : Own base e 1 w3 u m ds ∧ ∀ k, v'.ownBlock = some k → u.ownBlock ≠ some k := by
  refine ⟨hf.own (hu.ext e2) (fun k hk hr => ha k hr hk), fun k hk hk' => ?_⟩
  rcases hl with hl | hl
  · rw [hl] at hk; exact ha k hk hk'
  · have := hl k hk
    have := (Own.lt (hu.ext e2) k hk').2
    omega
set_option maxHeartbeats 4000000 in
theorem iamong_s (w : World) (hT : Tab w) {v : Value} {ids : List Int} (h : SlI .i64 w v ids) (many : Int) (a : Nat) (ha : a < 18446744073709551616) : Fc Tryz.prog 7 #[v, .int .i64 many, .int .u64 a] w (Ret w (.val (.bool true))) := by
  have hl := h.len
  have htop := TOP_eq
  refine Fc.of (args := [_, _, _]) Tryz.func7 rfl rfl Tryz.ntmps7 (Nat.le_of_ble_eq_true rfl) ?_
  by_cases hbig : 300 < (ids.length : Int)
  · skip
    repeat' (first|(refine oLA ?_;first|refine LA_pass rfl ?_|refine wOp ?_|(refine wCm ?_ ?_<;>intro hc)|(refine oCv ?_;first|(refine oC 22 ?_; refine LA_call0 (f := 22) rfl rfl  (.val (.bool true)) (by intro w e; exact bbA _ (hT.ext e)) ?_))|(refine wNl hK ?_;clear hK K))|refine wG ?_|(refine wCR ?_;intro K hK)|fail)
    all_goals exact PX_retE rfl rfl (Ext.refl _) rfl
  by_cases hbig2 : 60 < many
  · skip
    repeat' (first|(refine oLA ?_;first|refine LA_pass rfl ?_|refine wOp ?_|(refine wCm ?_ ?_<;>intro hc)|(refine oCv ?_;first|(refine oC 22 ?_; refine LA_call0 (f := 22) rfl rfl  (.val (.bool true)) (by intro w e; exact bbA _ (hT.ext e)) ?_))|(refine wNl hK ?_;clear hK K))|refine wG ?_|(refine wCR ?_;intro K hK)|fail)
    all_goals exact PX_retE rfl rfl (Ext.refl _) rfl
  cases hm : alA ids many with
  | false =>
    repeat' (first|(refine oLA ?_;first|refine LA_pass rfl ?_|refine wOp ?_|(refine wCm ?_ ?_<;>intro hc)|(refine oCv ?_;first|(refine oC 10 ?_; refine LA_call2 (f := 10) rfl rfl rfl rfl  (.tup2 (.val (.pointer none)) (.val (.int .i64 2))) (by intro u1 u2 w e hu1 hu2; (try obtain rfl : u1 = _ := hu1); (try obtain rfl : u2 = _ := hu2); exact bcA (h.ext e) (hT.ext e) hm) ?_)|(refine oC 22 ?_; refine LA_call0 (f := 22) rfl rfl  (.val (.bool true)) (by intro w e; exact bbA _ (hT.ext e)) ?_))|(refine wNl hK ?_;clear hK K))|refine wG ?_|(refine wCR ?_;intro K hK)|fail)
    all_goals skip
    all_goals exact PX_retE rfl rfl (Ext.refl _) rfl
  | true =>
    obtain ⟨m0, -, -, m3⟩ := (a9A _ _).1 hm
    obtain ⟨n, rfl⟩ := Int.eq_ofNat_of_zero_le m0
    have hin : IdsIn ids n := IdsIn.of m3
    clear m0 m3
    repeat' (first|(refine oLA ?_;first|refine LA_pass rfl ?_|refine wOp ?_|(refine wCm ?_ ?_<;>intro hc)|(refine oCv ?_;first|(refine oC 10 ?_; refine LA_call2 (f := 10) rfl rfl rfl rfl  (.tup2 (.pred (ixP tIv n fun i => idP ids i)) (.val (.int .i64 0))) (by intro u1 u2 w e hu1 hu2; (try obtain rfl : u1 = _ := hu1); (try obtain rfl : u2 = _ := hu2); exact b0A (h.ext e) (hT.ext e) hm) ?_))|(refine wNl hK ?_;clear hK K))|(refine oCX ?_;first|refine CX_seqW (id := 7) (ι := Value × Value × Value) (fun j => [(0, .val v), (1, .val (.int .i64 n)), (2, .val (.int .u64 a)), (7, .val j.1), (9, .val j.2.1), (10, .val j.2.2)]) (fun j w' => Ext w w' ∧ IX tIv n (fun i => idP ids i) w' j.1 ∧ SlI .i64 w' j.2.1 (a3A a n) ∧ SlI .i64 w' j.2.2 (a4A a n n)) ?_ ?_)|refine wG ?_|(refine wCR ?_;intro K hK)|fail)
    all_goals skip
    · refine CX_pick 7 rfl (fun vx wx ex hx => ?_)
      refine CX_loopV (ι := Nat × Value × Value) (fun j => [(0, .val v), (1, .val (.int .i64 n)), (2, .val (.int .u64 a)), (7, .val vx), (9, .val j.2.1), (10, .val j.2.2), (33, .val (.int .i64 n)), (34, .val (.int .i64 j.1))])
        (fun j w' => Ext w w' ∧ j.1 ≤ n ∧ IX tIv n (fun i => idP ids i) w' vx ∧ OwnI w.heap.size tI6 .i64 w' j.2.1 (a3A a j.1) ∧ OwnI w.heap.size tI6 .i64 w' j.2.2 (a4A a n j.1) ∧ ∀ k, j.2.1.ownBlock = some k → j.2.2.ownBlock ≠ some k) (fun j => n - j.1)
        (fun w2 e2 => ⟨(0, nilS, nilS), ⟨ex.trans e2, Nat.zero_le _, IX.ext hx e2, OwnI.nil, OwnI.nil, fun k hk => by cases hk⟩, (by repeat' (first | exact Sub.nil | refine Sub.val rfl (by first | with_reducible rfl | (congr 1; omega)) ?_ | refine Sub.same rfl ?_))⟩) ?_
      rintro ⟨k, v9, v10⟩ w1 ⟨he, hk0, hX, h9, h10, hap⟩
      dsimp only at hk0 hX h9 h10 hap ⊢
      have hl9 := axA a k
      have hl10 := ayA a n k
      by_cases hk : k < n
      · have hq := biA a k
        have hql := c3A a k
        cases hb : b3A a k with
        | true =>
          have hb' : a / 2 ^ k % 2 = 1 := by unfold b3A at hb; exact of_decide_eq_true hb
          have hs : a3A a (k + 1) = a3A a k ++ [(k : Int), (k : Int)] := by simp only [a3A]; rw [if_pos hb]
          have hr : a4A a n (k + 1) = a4A a n k := by simp only [a4A]; rw [if_pos hb]
          generalize a / 2 ^ k = q at hq hql hb'
          repeat' (first|(refine oLA ?_;first|refine LA_pass rfl ?_|(refine oB .shr ?_; refine stShr rfl rfl rfl ?_; rw [hq])|(refine oD 45 ?_; refine LA_two rfl avA rfl rfl rfl rfl ?_)|(refine oD 46 ?_; refine LA_stop (hK _ _ (LX_appendL rfl (by decide) avA rfl h9 rfl HasC.own (fun c hc => by simp only [List.mem_cons, List.not_mem_nil, or_false] at hc; rcases hc with rfl | rfl <;> rfl) (by unfold maxLen; omega) (by omega) (fun v' w2 w3 e2 ho hf hlc => ?_))); clear hK K; refine LX_la (by kernel_rfl) (fun K hK => ?_))|refine wOp ?_|(refine wCm ?_ ?_<;>intro hc)|(refine wNl hK ?_;clear hK K))|refine wG ?_|(refine wCR ?_;intro K hK)|fail)
          all_goals skip
          have hX3 := (hX.ext e2).off hf (fun q hq => own_type (Own.ext h9 e2) hq) (by decide)
          obtain ⟨h10', hap'⟩ := aoA h10 hap e2 hf hlc
          have h9' : OwnI w.heap.size tI6 .i64 w3 v' (a3A a (k + 1)) := by
            rw [hs]; unfold OwnI; rw [List.map_append, List.length_append]
            exact Own.rebase ho (hlc.ge (fun q hq => (Own.lt h9 q hq).1) (Nat.le_trans he.size e2.size))
          have x3 : Ext w w3 := Fr.ext (he.trans e2) hf (fun q hq => (Own.lt h9 q hq).1)
          exact PX_rndV (k + 1, v', v10) (fun w5 e5 => ⟨x3.trans e5, hk, hX3.ext e5, h9'.ext e5, by rw [hr]; exact Own.ext h10' e5, hap'⟩) (by dsimp only; omega) (by repeat' (first | exact Sub.nil | refine Sub.val rfl (by first | with_reducible rfl | (congr 1; omega)) ?_ | refine Sub.same rfl ?_))
        | false =>
          have hb' : ¬ a / 2 ^ k % 2 = 1 := by unfold b3A at hb; exact of_decide_eq_false hb
          have hs : a3A a (k + 1) = a3A a k := by simp only [a3A]; rw [hb]; rfl
          have hr : a4A a n (k + 1) = a4A a n k ++ [(k : Int), -1, (n : Int)] := by simp only [a4A]; rw [hb]; rfl
          generalize a / 2 ^ k = q at hq hql hb'
          repeat' (first|(refine oLA ?_;first|refine LA_pass rfl ?_|(refine oB .shr ?_; refine stShr rfl rfl rfl ?_; rw [hq])|(refine oD 50 ?_; refine LA_three rfl avA rfl rfl rfl rfl rfl rfl ?_)|(refine oD 51 ?_; refine LA_stop (hK _ _ (LX_appendL rfl (by decide) avA rfl h10 rfl HasC.own (fun c hc => by simp only [List.mem_cons, List.not_mem_nil, or_false] at hc; rcases hc with rfl | rfl | rfl <;> rfl) (by unfold maxLen; omega) (by omega) (fun v' w2 w3 e2 ho hf hlc => ?_))); clear hK K; refine LX_la (by kernel_rfl) (fun K hK => ?_))|refine wOp ?_|(refine wCm ?_ ?_<;>intro hc)|(refine wNl hK ?_;clear hK K))|refine wG ?_|(refine wCR ?_;intro K hK)|fail)
          all_goals skip
          have hX3 := (hX.ext e2).off hf (fun q hq => own_type (Own.ext h10 e2) hq) (by decide)
          obtain ⟨h9', hap'⟩ := aoA h9 (fun k hk hk' => hap k hk' hk) e2 hf hlc
          have h10' : OwnI w.heap.size tI6 .i64 w3 v' (a4A a n (k + 1)) := by
            rw [hr]; unfold OwnI; rw [List.map_append, List.length_append]
            exact Own.rebase ho (hlc.ge (fun q hq => (Own.lt h10 q hq).1) (Nat.le_trans he.size e2.size))
          have x3 : Ext w w3 := Fr.ext (he.trans e2) hf (fun q hq => (Own.lt h10 q hq).1)
          exact PX_rndV (k + 1, v9, v') (fun w5 e5 => ⟨x3.trans e5, hk, hX3.ext e5, by rw [hs]; exact Own.ext h9' e5, h10'.ext e5, fun k hk hk' => hap' k hk' hk⟩) (by dsimp only; omega) (by repeat' (first | exact Sub.nil | refine Sub.val rfl (by first | with_reducible rfl | (congr 1; omega)) ?_ | refine Sub.same rfl ?_))
      · obtain rfl : k = n := by omega
        repeat' (first|(refine oLA ?_;first|refine LA_pass rfl ?_|refine wOp ?_|(refine wCm ?_ ?_<;>intro hc)|(refine wNl hK ?_;clear hK K))|refine wG ?_|(refine wCR ?_;intro K hK)|fail)
        all_goals skip
        exact PX_rndV (vx, v9, v10) (fun w5 e5 => ⟨he.trans e5, hX.ext e5, (h9.ext e5).slI, (h10.ext e5).slI⟩) (by omega) (by repeat' (first | exact Sub.nil | refine Sub.val rfl (by first | with_reducible rfl | (congr 1; omega)) ?_ | refine Sub.same rfl ?_))
    rintro ⟨vx, v9, v10⟩ w1 ⟨he, hX, h9, h10⟩
    dsimp only at hX h9 h10 ⊢
    have hT1 := hT.ext he
    have ha1 : ∀ w', Ext w1 w' → _ := fun w' e => b7A (.inr (hX.ext e)) (by omega) (h9.ext e) (hT1.ext e)
    have hb1 : ∀ w', Ext w1 w' → _ := fun w' e => b7A (.inr (hX.ext e)) (by omega) (h10.ext e) (hT1.ext e)
    have hpa : ∀ x, amP n (fun i => idP ids i) (a3A a n) (a3A a n).length x = true ↔ x < ids.length ∧ b3A a (ids.getD x 0).toNat = true := fun x => by
      rw [c9A hin]
      constructor
      · rintro ⟨h1, h2⟩
        obtain ⟨i, i1, i2, i3⟩ := (ahA _).1 h2
        exact ⟨h1, by rw [i3, Int.toNat_natCast]; exact i2⟩
      · rintro ⟨h1, h2⟩
        have := hin x h1
        exact ⟨h1, (ahA _).2 ⟨(ids.getD x 0).toNat, by omega, h2, by omega⟩⟩
    have hpb : ∀ x, amP n (fun i => idP ids i) (a4A a n n) (a4A a n n).length x = true ↔ x < ids.length ∧ b3A a (ids.getD x 0).toNat = false := fun x => by
      rw [c9A hin]
      constructor
      · rintro ⟨h1, h2⟩
        obtain ⟨i, i1, i2, i3⟩ := (ajA (hin x h1) _).1 h2
        exact ⟨h1, by rw [i3, Int.toNat_natCast]; exact i2⟩
      · rintro ⟨h1, h2⟩
        have := hin x h1
        exact ⟨h1, (ajA (hin x h1) _).2 ⟨(ids.getD x 0).toNat, by omega, h2, by omega⟩⟩
    obtain ⟨pa, hpa0⟩ : ∃ p, p = amP n (fun i => idP ids i) (a3A a n) (a3A a n).length := ⟨_, rfl⟩
    obtain ⟨pb, hpb0⟩ : ∃ p, p = amP n (fun i => idP ids i) (a4A a n n) (a4A a n n).length := ⟨_, rfl⟩
    rw [← hpa0] at ha1 hpa
    rw [← hpb0] at hb1 hpb
    clear hpa0 hpb0
    have g1 : cnt (two (fun x y => x && y) pa pb) TOP = 0 := c5A fun x hx => by
      have h1 := two_and.1 hx
      have h2 := ((hpa x).1 h1.1).2
      rw [((hpb x).1 h1.2).2] at h2; cases h2
    have g2 : cnt (two (fun x y => x || y) pa pb) TOP = ids.length := bpA (fun x => by
      rw [b8A, hpa, hpb]
      constructor
      · rintro (h | h) <;> exact h.1
      · intro h1
        cases b3A a (ids.getD x 0).toNat
        · exact .inr ⟨h1, rfl⟩
        · exact .inl ⟨h1, rfl⟩) (by omega)
    have g3 : notP ids.length pa = pb := a5A fun x => by
      rw [hpb]
      unfold notP
      rw [Bool.and_eq_true, decide_eq_true_iff, Bool.not_eq_true']
      constructor
      · rintro ⟨h1, h2⟩
        have h3 : x < ids.length := by omega
        refine ⟨h3, ?_⟩
        cases hbb : b3A a (ids.getD x 0).toNat
        · rfl
        · rw [(hpa x).2 ⟨h3, hbb⟩] at h2; cases h2
      · rintro ⟨h1, h2⟩
        refine ⟨by omega, akA fun h3 => ?_⟩
        rw [((hpa x).1 h3).2] at h2; cases h2
    have k1 : ∀ w' u u', Ext w1 w' → RSet TT TT w' u pa → RSet TT TT w' u' pb → _ := fun w' u u' e hu hu' => and_s (A := TT) (B := TT) (B1 := TT) (B2 := TT) (.inr hu) (.inr hu') (hT1.ext e) tt tt
    have k2 : ∀ w' u u', Ext w1 w' → RSet TT TT w' u pa → RSet TT TT w' u' pb → _ := fun w' u u' e hu hu' => or_s (A := TT) (B := TT) (B1 := TT) (B2 := TT) (.inr hu) (.inr hu') (hT1.ext e) tt tt
    have k3 : ∀ w' u, Ext w1 w' → RSet TT TT w' u pa → _ := fun w' u e hu => not_s (A := TT) (B := TT) (B1 := TT) (n := ids.length) (.inr hu) (by omega) (hT1.ext e) tt tt
    have k4 : ∀ w' u, RSet TT TT w' u (two (fun x y => x && y) pa pb) → _ := fun w' u hu => len_s (B := TT) (A := TT) (.inr hu)
    have k5 : ∀ w' u, RSet TT TT w' u (two (fun x y => x || y) pa pb) → _ := fun w' u hu => len_s (B := TT) (A := TT) (.inr hu)
    have k6 : ∀ w' u u', Ext w1 w' → RSet TT TT w' u pb → RSet TT TT w' u' pb → _ := fun w' u u' e hu hu' => same_s (B := TT) (A := TT) (.inr hu) (.inr hu') (hT1.ext e)
    rw [g1] at k4; rw [g2] at k5; rw [g3] at k3
    have k6' : ∀ w' u u', Ext w1 w' → RSet TT TT w' u pb → RSet TT TT w' u' pb → Fc Tryz.prog 14 #[u, u'] w' (Ret w' (.val (.bool true))) := fun w' u u' e hu hu' => ret_eq (by rw [decide_eq_true rfl]) (k6 w' u u' e hu hu')
    clear k6 g1 g2 g3 h9 h10
    repeat' (first|(refine oLA ?_;first|refine LA_pass rfl ?_|(refine oLen ?_; refine LA_len rfl _ rfl rfl (HasI.val (h.ext he)).c ?_)|refine wOp ?_|(refine wCm ?_ ?_<;>intro hc)|(refine oCv ?_;first|(refine oD 55 ?_; refine oC 21 ?_; refine LA_call2 (f := 21) rfl rfl rfl rfl  (.pred (rsP TT TT pa)) (by intro u1 u2 w e hu1 hu2; (try obtain rfl : u1 = _ := hu1); (try obtain rfl : u2 = _ := hu2); exact ha1 _ e) ?_)|(refine oD 58 ?_; refine oC 21 ?_; refine LA_call2 (f := 21) rfl rfl rfl rfl  (.pred (rsP TT TT pb)) (by intro u1 u2 w e hu1 hu2; (try obtain rfl : u1 = _ := hu1); (try obtain rfl : u2 = _ := hu2); exact hb1 _ e) ?_)|(refine oC 31 ?_; refine LA_call2 (f := 31) rfl rfl rfl rfl  (.pred (rsP TT TT (two (fun x y => x && y) pa pb))) (by intro u1 u2 w e hu1 hu2; (try obtain rfl : u1 = _ := hu1); (try obtain rfl : u2 = _ := hu2); exact k1 _ _ _ e hu1 hu2) ?_)|(refine oC 28 ?_; refine LA_call2 (f := 28) rfl rfl rfl rfl  (.pred (rsP TT TT (two (fun x y => x || y) pa pb))) (by intro u1 u2 w e hu1 hu2; (try obtain rfl : u1 = _ := hu1); (try obtain rfl : u2 = _ := hu2); exact k2 _ _ _ e hu1 hu2) ?_)|(refine oC 32 ?_; refine LA_call2 (f := 32) rfl rfl rfl rfl  (.pred (rsP TT TT pb)) (by intro u1 u2 w e hu1 hu2; (try obtain rfl : u1 = _ := hu1); (try obtain rfl : u2 = _ := hu2); exact k3 _ _ e hu1) ?_)|(refine oD 62 ?_; refine oC 23 ?_; refine LA_call1 (f := 23) rfl rfl rfl  (.val (.int .i64 (0 : Nat))) (by intro u1 w e hu1; (try obtain rfl : u1 = _ := hu1); exact k4 _ _ hu1) ?_)|(refine oD 68 ?_; refine oC 23 ?_; refine LA_call1 (f := 23) rfl rfl rfl  (.val (.int .i64 ids.length)) (by intro u1 w e hu1; (try obtain rfl : u1 = _ := hu1); exact k5 _ _ hu1) ?_)|(refine oC 14 ?_; refine LA_call2 (f := 14) rfl rfl rfl rfl  (.val (.bool true)) (by intro u1 u2 w e hu1 hu2; (try obtain rfl : u1 = _ := hu1); (try obtain rfl : u2 = _ := hu2); exact k6' _ _ _ e hu1 hu2) ?_))|(refine wNl hK ?_;clear hK K))|refine wG ?_|(refine wCR ?_;intro K hK)|fail)
    all_goals skip
    refine CX_pick 12 rfl (fun va wa xa ha' => ?_)
    refine CX_loop (ι := Nat) (fun k => [(0, .val v), (2, .val (.int .u64 a)), (12, .val va), (83, .val v), (84, .val (.int .i64 ids.length)), (85, .val (.int .i64 k))]) (fun k => k ≤ ids.length) (fun k => ids.length - k) 0 (Nat.zero_le _) (by repeat' (first | exact Sub.nil | refine Sub.val rfl (by first | with_reducible rfl | (congr 1; omega)) ?_ | refine Sub.same rfl ?_)) ?_
    intro k hk0
    by_cases hk : k < ids.length
    · have hik := hin k hk
      obtain ⟨i, hi⟩ := Int.eq_ofNat_of_zero_le hik.1
      have hi' : ids.getD k 0 = ((i : Nat) : Int) := hi
      have hq := biA a i
      have hql := c3A a i
      have hha : ∀ w', Ext wa w' → _ := fun w' e => has_s (B := TT) (A := TT) (x := k) (.inr (RSet.ext ha' e)) (by omega)
      have hpk := hpa k
      rw [hi', Int.toNat_natCast] at hpk
      cases hb : b3A a i with
      | true =>
        have hb' : a / 2 ^ i % 2 = 1 := by unfold b3A at hb; exact of_decide_eq_true hb
        rw [hpk.2 ⟨hk, hb⟩] at hha
        generalize a / 2 ^ i = q at hq hql hb'
        repeat' (first|(refine oLA ?_;first|refine LA_pass rfl ?_|(refine oD 88 ?_; refine LA_indexN rfl _ rfl (fun _ => rfl) rfl (HasI.val (h.ext (he.trans xa))) rfl hk ?_; rw [hi'])|(refine oB .shr ?_; refine stShr rfl rfl rfl ?_; rw [hq])|refine wOp ?_|(refine wCm ?_ ?_<;>intro hc)|(refine oCv ?_;first|(refine oC 33 ?_; refine LA_call2 (f := 33) rfl rfl rfl rfl  (.val (.bool true)) (by intro u1 u2 w e hu1 hu2; (try obtain rfl : u1 = _ := hu1); (try obtain rfl : u2 = _ := hu2); exact hha _ e) ?_))|(refine wNl hK ?_;clear hK K))|refine wG ?_|(refine wCR ?_;intro K hK)|fail)
        all_goals skip
        exact PX_rnd (k + 1) hk (by omega) (by repeat' (first | exact Sub.nil | refine Sub.val rfl (by first | with_reducible rfl | (congr 1; omega)) ?_ | refine Sub.same rfl ?_))
      | false =>
        have hb' : ¬ a / 2 ^ i % 2 = 1 := by unfold b3A at hb; exact of_decide_eq_false hb
        rw [akA (p := pa) (x := k) (fun hx => by rw [(hpk.1 hx).2] at hb; cases hb)] at hha
        generalize a / 2 ^ i = q at hq hql hb'
        repeat' (first|(refine oLA ?_;first|refine LA_pass rfl ?_|(refine oD 88 ?_; refine LA_indexN rfl _ rfl (fun _ => rfl) rfl (HasI.val (h.ext (he.trans xa))) rfl hk ?_; rw [hi'])|(refine oB .shr ?_; refine stShr rfl rfl rfl ?_; rw [hq])|refine wOp ?_|(refine wCm ?_ ?_<;>intro hc)|(refine oCv ?_;first|(refine oC 33 ?_; refine LA_call2 (f := 33) rfl rfl rfl rfl  (.val (.bool false)) (by intro u1 u2 w e hu1 hu2; (try obtain rfl : u1 = _ := hu1); (try obtain rfl : u2 = _ := hu2); exact hha _ e) ?_))|(refine wNl hK ?_;clear hK K))|refine wG ?_|(refine wCR ?_;intro K hK)|fail)
        all_goals skip
        exact PX_rnd (k + 1) hk (by omega) (by repeat' (first | exact Sub.nil | refine Sub.val rfl (by first | with_reducible rfl | (congr 1; omega)) ?_ | refine Sub.same rfl ?_))
    · obtain rfl : k = ids.length := by omega
      repeat' (first|(refine oLA ?_;first|refine LA_pass rfl ?_|refine wOp ?_|(refine wCm ?_ ?_<;>intro hc)|(refine oCv ?_;first|(refine oC 22 ?_; refine LA_call0 (f := 22) rfl rfl  (.val (.bool true)) (by intro w e; exact bbA _ (hT1.ext (xa.trans e))) ?_))|(refine wNl hK ?_;clear hK K))|refine wG ?_|(refine wCR ?_;intro K hK)|fail)
      all_goals skip
      exact PX_retE rfl rfl (he.trans xa) rfl
end Go.Proofs.YtadpcgjohleglaaGreatDoor
end
