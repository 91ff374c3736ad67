import Derived.Test.YtjiacignpmabcaaDoorC17

set_option linter.unusedSimpArgs false
set_option linter.unusedVariables false
set_option maxRecDepth 3000
namespace Go.Proofs.YtjiacignpmabcaaDoor
open Go.LA Go.ArrP Go.RowKit
theorem cnt_memb {xs : List Int} (h : Inc xs) (hl : Low xs) : cnt (memb xs) 65536 = xs.length := by rw [← listS_len, listS_memb h hl]
theorem starts_memb {xs : List Int} (h : Inc xs) (hl : Low xs) : cnt (startsS (memb xs)) 65536 = runsS xs := (runsS_eq h hl).symm
theorem kind_of {p : Nat → Bool} {n r : Nat} (h1 : cnt p 65536 = n) (h2 : cnt (startsS p) 65536 = r) : kindP p = if 2 + 4 * (r : Int) < (if n ≤ 4096 then 2 * (n : Int) else 8192) then 3 else if n ≤ 4096 then 1 else 2 := by
  unfold kindP leastP; rw [h1, h2]
theorem size3_of {p : Nat → Bool} {r : Nat} (h2 : cnt (startsS p) 65536 = r) : sizeP p 3 = 2 + 4 * (r : Int) := by
  unfold sizeP; rw [h2]; rfl
theorem cnt_all : ∀ n, cnt (fun _ => true) n = n
  | 0 => rfl
  | n + 1 => by simp only [cnt, cnt_all n]; rfl
theorem add4' (i : Nat) : addP (memb [1, 2, 3]) 4 i = memb [1, 2, 3, 4] i := by
  unfold addP memb
  rw [← Bool.decide_or]
  refine decide_eq_decide.2 ?_
  simp only [List.mem_cons, List.not_mem_nil, or_false]
  omega
theorem add4 (i : Nat) (hi : i < 65536) : addP (memb [1, 2, 3]) 4 i = memb [1, 2, 3, 4] i := add4' i
theorem flip_in {p : Nat → Bool} {lo hi : Int} {i : Nat} (h1 : lo ≤ (i : Int)) (h2 : (i : Int) < hi) (h3 : i < 65536) : flp p lo hi i = !p i := by
  unfold flp two fXor' spanM
  rw [decide_eq_true h1, decide_eq_true h2, decide_eq_true h3]
  cases p i <;> rfl
theorem lt16 {i : Nat} (h : i < 65536) : (i : Int) < 65536 := by omega
theorem flip_zero (i : Nat) (hi : i < 65536) : flp (fun _ => false) 0 65536 i = true := flip_in (p := fun _ => false) (Int.natCast_nonneg i) (lt16 hi) hi
theorem kn_a1 : cnt (memb [1, 2, 3]) 65536 = 3 := cnt_memb (by decide) (by unfold Low; decide)
theorem kn_a2 : cnt (startsS (memb [1, 2, 3])) 65536 = 1 := (starts_memb (by decide) (by unfold Low; decide)).trans (by decide)
theorem kn_a : kindP (memb [1, 2, 3]) = 1 := (kind_of kn_a1 kn_a2).trans (by decide)
theorem kn_b1 : cnt (addP (memb [1, 2, 3]) 4) 65536 = 4 := (cnt_congr 65536 add4).trans (cnt_memb (by decide) (by unfold Low; decide))
theorem kn_b2 : cnt (startsS (addP (memb [1, 2, 3]) 4)) 65536 = 1 := (starts_congr add4).trans ((starts_memb (by decide) (by unfold Low; decide)).trans (by decide))
theorem kn_b : kindP (addP (memb [1, 2, 3]) 4) = 3 := (kind_of kn_b1 kn_b2).trans (by decide)
theorem kn_c1 : cnt (flp (fun _ => false) 0 65536) 65536 = 65536 := (cnt_congr 65536 flip_zero).trans (cnt_all 65536)
theorem kn_c2 : cnt (startsS (flp (fun _ => false) 0 65536)) 65536 = 1 := (starts_congr (q := fun _ => true) flip_zero).trans ((cnt_one (k := 0) 65536 (fun i hi => by
  unfold startsS
  by_cases h : i = 0
  · subst h; rfl
  · rw [decide_eq_false h, beq_eq_false_iff_ne.2 h]; rfl)).trans (by decide))
theorem kn_c : kindP (flp (fun _ => false) 0 65536) = 3 := (kind_of kn_c1 kn_c2).trans (by decide)
theorem kn_s1 : sizeP (memb [1, 2, 3]) 1 = 6 := by unfold sizeP; rw [kn_a1]; rfl
theorem kn_s3 : sizeP (addP (memb [1, 2, 3]) 4) 3 = 6 := (size3_of kn_b2).trans (by decide)
theorem kn_s7 : sizeP (flp (fun _ => false) 0 65536) 3 = 6 := (size3_of kn_c2).trans (by decide)
theorem inc21 : ¬ Inc [2, 1] := by decide
set_option maxHeartbeats 4000000 in
theorem cknown_c (w : World) (hT : Tab w) : Fc Tryd.prog 7 #[] w (Ret w (.val (.bool true))) := by
  refine Fc.of (args := []) Tryd.func7 rfl rfl Tryd.ntmps7 (Nat.le_of_ble_eq_true rfl) ?_
  repeat' (first
   |(refine oLA ?_;first
   |refine LA_pass rfl ?_
   |refine LA_three rfl u16_el rfl rfl rfl rfl rfl rfl ?_
   |(refine oD 1 ?_; refine LA_stop (hK _ _ (LX_varK (q := 11) (φ := cnP TT (memb [1, 2, 3]) 1) (n := 4) rfl rfl (by decide) rfl rfl lays_cn (fun _ => rfl) rfl (fun _ => rfl) (fun b1 c1 w1 e1 hb1 hh1 hn1 hc1 => ?_))); clear hK K)|(refine wOpB ?_;try dsimp only [Int.reduceToNat, Int.reducePow])|refine wOp ?_|(refine wOpD ?_;try dsimp only [Int.reduceToNat, Int.toNat_natCast])|(refine LA_cmp rfl rfl rfl rfl (fun hc => ?_) (fun hc => ?_)<;>dsimp only [cmpP] at hc)|(refine oCv ?_;first
   |(refine oC 9 ?_; refine LA_call1 (f := 9) rfl rfl rfl  (.tup2 (.pred (cnP TT (memb [1, 2, 3]) 1)) (.val (.bool true))) (by intro u1 w e hu1; (try obtain rfl : u1 = _ := hu1); exact ofarr_c (OwnI.slI (k := .u16) (xs := [1, 2, 3]) hu1) (by decide) (by unfold Low; decide) tt) ?_))|(refine LA_nil (hK [] _ (LX_nil ?_));clear hK K)|(refine LA_nil (hK _ ?_);clear hK K))
   |(refine oCX ?_;first
   |refine wCX ?_|(refine wCR ?_;intro K hK))
   |(refine oPX ?_;first
   |refine wPX ?_)
   |(refine oLX ?_;first
   |refine LX_nil ?_))
  have V1 : VarC TT w1 b1 c1 _ _ := ⟨hh1, hn1, hc1⟩
  have T1 := hT.ext e1
  refine LX_la (by kernel_rfl) (fun K hK => ?_)
  repeat' (first
   |(refine oLA ?_;first
   |refine LA_pass rfl ?_
   |(refine oLd ?_; refine LA_loadK rfl V1.hb V1.hn rfl (fun _ => rfl) (fun _ => rfl) ?_)
   |(refine oD 3 ?_; refine LA_stop (hK _ _ (LX_varK (q := 14) (φ := cnP TT (addP (memb [1, 2, 3]) 4) 3) (n := 4) rfl rfl (by decide) rfl rfl lays_cn (fun _ => rfl) rfl (fun _ => rfl) (fun b3 c3 w3 e3 hb3 hh3 hn3 hc3 => ?_))); clear hK K)|(refine wOpB ?_;try dsimp only [Int.reduceToNat, Int.reducePow])|refine wOp ?_|(refine wOpD ?_;try dsimp only [Int.reduceToNat, Int.toNat_natCast])|(refine LA_cmp rfl rfl rfl rfl (fun hc => ?_) (fun hc => ?_)<;>dsimp only [cmpP] at hc)|(refine oCv ?_;first
   |(refine oC 8 ?_; refine LA_call2 (f := 8) rfl rfl rfl rfl  (.pred (cnP TT (addP (memb [1, 2, 3]) 4) 3)) (by intro u1 u2 w e hu1 hu2; (try obtain rfl : u1 = _ := hu1); (try obtain rfl : u2 = _ := hu2); exact by have := cwith_c (V1.hc.ext e) (T1.ext e) tt (x := 4) (by decide); rw [kn_b] at this; exact this) ?_))|(refine LA_nil (hK [] _ (LX_nil ?_));clear hK K)|(refine LA_nil (hK _ ?_);clear hK K))
   |(refine oCX ?_;first
   |refine wCX ?_|(refine wCR ?_;intro K hK))
   |(refine oPX ?_;first
   |refine wPX ?_)
   |(refine oLX ?_;first
   |refine LX_nil ?_))
  have V3 : VarC TT w3 b3 c3 _ _ := ⟨hh3, hn3, hc3⟩
  repeat' (first
   |(refine oLA ?_;first
   |refine LA_pass rfl ?_
   |refine LA_two rfl u16_el rfl rfl rfl rfl ?_
   |(refine oD 4 ?_; refine LA_stop (hK _ _ (LX_varK (q := 18) (φ := cnP TT (fun _ => false) 1) (n := 4) rfl rfl (by decide) rfl rfl lays_cn (fun _ => rfl) rfl (fun _ => rfl) (fun b4 c4 w4 e4 hb4 hh4 hn4 hc4 => ?_))); clear hK K)|(refine wOpB ?_;try dsimp only [Int.reduceToNat, Int.reducePow])|refine wOp ?_|(refine wOpD ?_;try dsimp only [Int.reduceToNat, Int.toNat_natCast])|(refine LA_cmp rfl rfl rfl rfl (fun hc => ?_) (fun hc => ?_)<;>dsimp only [cmpP] at hc)|(refine oCv ?_;first
   |(refine oC 9 ?_; refine LA_call1 (f := 9) rfl rfl rfl  (.tup2 (.pred (cnP TT (fun _ => false) 1)) (.val (.bool false))) (by intro u1 w e hu1; (try obtain rfl : u1 = _ := hu1); exact ofarr_no (OwnI.slI (k := .u16) (xs := [2, 1]) hu1) inc21) ?_))|(refine LA_nil (hK [] _ (LX_nil ?_));clear hK K)|(refine LA_nil (hK _ ?_);clear hK K))
   |(refine oCX ?_;first
   |refine wCX ?_|(refine wCR ?_;intro K hK))
   |(refine oPX ?_;first
   |refine wPX ?_)
   |(refine oLX ?_;first
   |refine LX_nil ?_))
  refine LX_la (by kernel_rfl) (fun K hK => ?_)
  repeat' (first
   |(refine oLA ?_;first
   |refine LA_pass rfl ?_
   |(refine oAl ?_; refine LA_alloc rfl (fun _ => rfl) ?_)
   |(refine oD 20 ?_; refine LA_stop (hK _ _ (LX_pick 6 rfl (fun v6 w6 e6 h6 => ?_))); clear hK K)|(refine wOpB ?_;try dsimp only [Int.reduceToNat, Int.reducePow])|refine wOp ?_|(refine wOpD ?_;try dsimp only [Int.reduceToNat, Int.toNat_natCast])|(refine LA_cmp rfl rfl rfl rfl (fun hc => ?_) (fun hc => ?_)<;>dsimp only [cmpP] at hc)|(refine LA_nil (hK [] _ (LX_nil ?_));clear hK K)|(refine LA_nil (hK _ ?_);clear hK K))
   |(refine oCX ?_;first
   |refine wCX ?_|(refine wCR ?_;intro K hK))
   |(refine oPX ?_;first
   |refine wPX ?_)
   |(refine oLX ?_;first
   |refine LX_nil ?_))
  obtain ⟨b6, hb6, rfl, h6⟩ := h6
  have V6 : VarC TT w6 b6 _ _ _ := ⟨h6, rfl, Cn.zero⟩
  have T6 := T1.ext (e3.trans (e4.trans e6))
  refine LX_la (by kernel_rfl) (fun K hK => ?_)
  repeat' (first
   |(refine oLA ?_;first
   |refine LA_pass rfl ?_
   |(refine oLd ?_; refine LA_loadK rfl V6.hb V6.hn rfl (fun _ => rfl) (fun _ => rfl) ?_)
   |(refine oD 7 ?_; refine LA_stop (hK _ _ (LX_varK (q := 21) (φ := cnP TT (flp (fun _ => false) 0 65536) 3) (n := 4) rfl rfl (by decide) rfl rfl lays_cn (fun _ => rfl) rfl (fun _ => rfl) (fun b7 c7 w7 e7 hb7 hh7 hn7 hc7 => ?_))); clear hK K)|(refine wOpB ?_;try dsimp only [Int.reduceToNat, Int.reducePow])|refine wOp ?_|(refine wOpD ?_;try dsimp only [Int.reduceToNat, Int.toNat_natCast])|(refine LA_cmp rfl rfl rfl rfl (fun hc => ?_) (fun hc => ?_)<;>dsimp only [cmpP] at hc)|(refine oCv ?_;first
   |(refine oC 16 ?_; refine LA_call3 (f := 16) rfl rfl rfl rfl rfl  (.pred (cnP TT (flp (fun _ => false) 0 65536) 3)) (by intro u1 u2 u3 w e hu1 hu2 hu3; (try obtain rfl : u1 = _ := hu1); (try obtain rfl : u2 = _ := hu2); (try obtain rfl : u3 = _ := hu3); exact by have := flip_c (V6.hc.ext e) (T6.ext e) tt 0 65536 (by decide) (by decide); rw [kn_c] at this; exact this) ?_))|(refine LA_nil (hK [] _ (LX_nil ?_));clear hK K)|(refine LA_nil (hK _ ?_);clear hK K))
   |(refine oCX ?_;first
   |refine wCX ?_|(refine wCR ?_;intro K hK))
   |(refine oPX ?_;first
   |refine wPX ?_)
   |(refine oLX ?_;first
   |refine LX_nil ?_))
  have V7 : VarC TT w7 b7 c7 _ _ := ⟨hh7, hn7, hc7⟩
  replace V6 := V6.ext e7
  replace V3 := V3.ext (e4.trans (e6.trans e7))
  replace V1 := V1.ext (e3.trans (e4.trans (e6.trans e7)))
  have T7 := T6.ext e7
  repeat' (first
   |(refine oLA ?_;first
   |refine LA_pass rfl ?_
   |(refine oLd ?_; refine LA_loadK rfl V7.hb V7.hn rfl (fun _ => rfl) (fun _ => rfl) ?_)
   |(refine oLd ?_; refine LA_loadK rfl V6.hb V6.hn rfl (fun _ => rfl) (fun _ => rfl) ?_)
   |(refine oLd ?_; refine LA_loadK rfl V3.hb V3.hn rfl (fun _ => rfl) (fun _ => rfl) ?_)
   |(refine oLd ?_; refine LA_loadK rfl V1.hb V1.hn rfl (fun _ => rfl) (fun _ => rfl) ?_)
   |(refine oD 30 ?_; refine oC 13 ?_; refine LA_call1 (f := 13) rfl rfl rfl  (.val (.int .u8 1)) (by intro u1 w e hu1; (try obtain rfl : u1 = _ := hu1); exact kind_c hu1) ?_)
   |(refine oD 35 ?_; refine oC 21 ?_; refine LA_call1 (f := 21) rfl rfl rfl  (.val (.int .i64 6)) (by intro u1 w e hu1; (try obtain rfl : u1 = _ := hu1); exact ret_eq (by rw [kn_s1]) (size_c (V1.hc.ext e))) ?_)
   |(refine oD 40 ?_; refine oC 13 ?_; refine LA_call1 (f := 13) rfl rfl rfl  (.val (.int .u8 3)) (by intro u1 w e hu1; (try obtain rfl : u1 = _ := hu1); exact kind_c (V3.hc.ext e)) ?_)
   |(refine oD 45 ?_; refine oC 21 ?_; refine LA_call1 (f := 21) rfl rfl rfl  (.val (.int .i64 6)) (by intro u1 w e hu1; (try obtain rfl : u1 = _ := hu1); exact ret_eq (by rw [kn_s3]) (size_c (V3.hc.ext e))) ?_)
   |(refine oD 50 ?_; refine oC 20 ?_; refine LA_call1 (f := 20) rfl rfl rfl  (.val (.int .i64 4)) (by intro u1 w e hu1; (try obtain rfl : u1 = _ := hu1); exact ret_eq (by rw [kn_b1]; rfl) (len_c (V3.hc.ext e))) ?_)
   |(refine oD 55 ?_; refine oC 13 ?_; refine LA_call1 (f := 13) rfl rfl rfl  (.val (.int .u8 3)) (by intro u1 w e hu1; (try obtain rfl : u1 = _ := hu1); exact kind_c (V7.hc.ext e)) ?_)
   |(refine oD 60 ?_; refine oC 21 ?_; refine LA_call1 (f := 21) rfl rfl rfl  (.val (.int .i64 6)) (by intro u1 w e hu1; (try obtain rfl : u1 = _ := hu1); exact ret_eq (by rw [kn_s7]) (size_c (V7.hc.ext e))) ?_)
   |(refine oD 65 ?_; refine oC 20 ?_; refine LA_call1 (f := 20) rfl rfl rfl  (.val (.int .i64 65536)) (by intro u1 w e hu1; (try obtain rfl : u1 = _ := hu1); exact ret_eq (by rw [kn_c1]; rfl) (len_c (V7.hc.ext e))) ?_)
   |(refine oD 70 ?_; refine oC 13 ?_; refine LA_call1 (f := 13) rfl rfl rfl  (.val (.int .u8 1)) (by intro u1 w e hu1; (try obtain rfl : u1 = _ := hu1); exact kind_c (V6.hc.ext e)) ?_)|(refine wOpB ?_;try dsimp only [Int.reduceToNat, Int.reducePow])|refine wOp ?_|(refine wOpD ?_;try dsimp only [Int.reduceToNat, Int.toNat_natCast])|(refine LA_cmp rfl rfl rfl rfl (fun hc => ?_) (fun hc => ?_)<;>dsimp only [cmpP] at hc)|(refine oCv ?_;first
   |(refine oC 12 ?_; refine LA_call1 (f := 12) rfl rfl rfl  (.pred (cnP TT (memb [1, 2, 3]) 1)) (by intro u1 w e hu1; (try obtain rfl : u1 = _ := hu1); exact by have := canon_c (V1.hc.ext e) (T7.ext e) tt; rw [kn_a] at this; exact this) ?_))|(refine LA_nil (hK [] _ (LX_nil ?_));clear hK K)|(refine LA_nil (hK _ ?_);clear hK K))
   |(refine oCX ?_;first
   |refine wCX ?_|(refine wCR ?_;intro K hK))
   |(refine oPX ?_;first
   |refine wPX ?_)
   |(refine oLX ?_;first
   |refine LX_nil ?_))
  all_goals skip
  all_goals exact PX_retE rfl rfl (e1.trans (e3.trans (e4.trans (e6.trans e7)))) rfl
end Go.Proofs.YtjiacignpmabcaaDoor
