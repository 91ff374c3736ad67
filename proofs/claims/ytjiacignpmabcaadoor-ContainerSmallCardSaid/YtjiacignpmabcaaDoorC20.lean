import Derived.Test.YtjiacignpmabcaaDoorC18
import Derived.Test.YtjiacignpmabcaaDoorC14

set_option linter.unusedSimpArgs false
set_option linter.unusedVariables false
set_option maxRecDepth 3000
namespace Go.Proofs.YtjiacignpmabcaaDoor
open Go.LA Go.ArrP Go.RowKit
/-! ### ContainerSmall -/
theorem cnt_not_all {a b : Nat → Bool} : ∀ n, (∀ i, i < n → a i = !b i) → cnt a n + cnt b n = n
  | 0, _ => rfl
  | n + 1, h => by
    have ih := cnt_not_all n (fun i hi => h i (by omega))
    simp only [cnt, h n (by omega)]
    cases b n <;> simp <;> omega
theorem nPa (p : Nat → Bool) {i : Nat} (h : i < 65536) : flp p 0 65536 i = !p i := flip_in (Int.natCast_nonneg i) (lt16 h) h
theorem flp_twice (p : Nat → Bool) (lo hi : Int) (i : Nat) (h : i < 65536) : flp (flp p lo hi) lo hi i = p i := by
  unfold flp two fXor'
  cases p i <;> cases spanM lo hi i <;> rfl
set_option maxHeartbeats 8000000 in
theorem csmall_c (w : World) (va : Value) (xs : List Int) (lo hi : Int) (h1 : SlI .u16 w va xs) (l1 : Low xs) (hlo : -9223372036854775808 ≤ lo ∧ lo < 9223372036854775808) (hhi : -9223372036854775808 ≤ hi ∧ hi < 9223372036854775808) (hT : Tab w) :
    Fc Tryd.prog 4 #[va, .int .i64 lo, .int .i64 hi] w (Ret w (.val (.bool true))) := by
  have n1 := h1.len
  have hp := memb_top l1
  have m1 : ∀ w', Ext w w' → _ := fun w' e => mof_c w' va xs (h1.ext e) l1
  obtain ⟨p, hpp⟩ : ∃ p, p = memb xs := ⟨_, rfl⟩
  rw [← hpp] at m1 hp
  clear hpp
  obtain ⟨q, hq⟩ : ∃ q, q = flp p lo hi := ⟨_, rfl⟩
  obtain ⟨n, r, kq, en, er, ek, hn, hr, hK⟩ := kind_cases q
  have es : sizeP q kq = if kq = 2 then 8192 else if kq = 3 then 2 + 4 * (r : Int) else 2 * (n : Int) := by unfold sizeP; rw [er, en]
  have el : (runsL q).length = r := (many_opn q 65536).trans er
  have ef : cnt (flp q 0 65536) 65536 = 65536 - n := by have := cnt_not_all (a := flp q 0 65536) (b := q) 65536 (fun i h => nPa q h); omega
  have ea : cnt (two (fun x y => x && y) (flp q 0 65536) q) 65536 = 0 := cnt_zero 65536 fun i h => by unfold two; rw [nPa q h]; cases q i <;> rfl
  have eo : cnt (two (fun x y => x || y) (flp q 0 65536) q) 65536 = 65536 := (cnt_congr (q := fun _ => true) 65536 fun i h => by unfold two; rw [nPa q h]; cases q i <;> rfl).trans (cnt_all 65536)
  have eb : listS (flp q lo hi) 65536 = listS p 65536 := listS_congr 65536 fun i h => by rw [hq]; exact flp_twice p lo hi i h
  have Fd : ∀ w' u, Cn TT w' u p 2 → Tab w' → Fc Tryd.prog 16 #[u, .int .i64 lo, .int .i64 hi] w' (Ret w' (.pred (cnP TT q kq))) := fun w' u hu ht => by
    have := flip_c hu ht tt lo hi hlo hhi; rw [← hq, ek] at this; exact this
  have Fn : ∀ w' u, Cn TT w' u q kq → Fc Tryd.prog 20 #[u] w' (Ret w' (.val (.int .i64 n))) := fun w' u hu => by
    have := len_c hu; rw [en] at this; exact this
  have Fs : ∀ w' u, Cn TT w' u q kq → Fc Tryd.prog 21 #[u] w' (Ret w' (.val (.int .i64 (if kq = 2 then 8192 else if kq = 3 then 2 + 4 * (r : Int) else 2 * (n : Int))))) := fun w' u hu => by
    have := size_c hu; rw [es] at this; exact this
  have gl : Hide ((runsL q).length = r) := ⟨el⟩
  have gf : Hide (cnt (flp q 0 65536) 65536 = 65536 - n) := ⟨ef⟩
  have ga : Hide (cnt (two (fun x y => x && y) (flp q 0 65536) q) 65536 = 0) := ⟨ea⟩
  have go : Hide (cnt (two (fun x y => x || y) (flp q 0 65536) q) 65536 = 65536) := ⟨eo⟩
  have gb : Hide (listS (flp q lo hi) 65536 = listS p 65536) := ⟨eb⟩
  clear en er ek es el ef ea eo eb hq
  rcases hK with ⟨a1, a2, rfl⟩ | ⟨a1, a2, rfl⟩ | ⟨a1, a2, rfl⟩ | ⟨a1, a2, rfl⟩
  · replace Fs : ∀ w' u, Cn TT w' u q 3 → Fc Tryd.prog 21 #[u] w' (Ret w' (.val (.int .i64 (2 + 4 * (r : Int))))) := Fs
    refine Fc.of (args := [_, _, _]) Tryd.func4 rfl rfl Tryd.ntmps4 (Nat.le_of_ble_eq_true rfl) ?_
    repeat' (first
     |(refine oLA ?_;first
     |refine LA_pass rfl ?_
     |(refine oD 7 ?_; refine LA_stop (hK _ _ (LX_varK (q := 22) (φ := cnP TT p 2) (n := 4) rfl rfl (by decide) rfl rfl lays_cn (fun _ => rfl) rfl (fun _ => rfl) (fun b7 c7 w7 e7 hb7 hh7 hn7 hc7 => ?_))); clear hK K)|(refine wOpB ?_;try dsimp only [Int.reduceToNat, Int.reducePow])|refine wOp ?_|(refine wOpD ?_;try dsimp only [Int.reduceToNat, Int.toNat_natCast])|(refine LA_cmp rfl rfl rfl rfl (fun hc => ?_) (fun hc => ?_)<;>dsimp only [cmpP] at hc)|(refine oCv ?_;first
     |(refine oC 7 ?_; refine LA_call0 (f := 7) rfl rfl  (.val (.bool true)) (by intro w e; exact cknown_c _ (hT.ext e)) ?_)
     |(refine oC 10 ?_; refine LA_call1 (f := 10) rfl rfl rfl  (.pred (mkI w.heap.size tM p)) (by intro u1 w e hu1; (try obtain rfl : u1 = _ := hu1); exact (m1 _ e).mono (ret_mk e.size)) ?_)
     |(refine oC 18 ?_; refine LA_call1 (f := 18) rfl rfl rfl  (.pred (ownI w.heap.size 66 .u64 (wordsOf p))) (by intro u1 w e hu1; (try obtain rfl : u1 = _ := hu1); exact (rwords_c _ _ _ p hu1).mono (ret_base e.size)) ?_)
     |(refine oC 17 ?_; refine LA_call1 (f := 17) rfl rfl rfl  (.tup2 (.pred (cnP TT p 2)) (.val (.bool true))) (by intro u1 w e hu1; (try obtain rfl : u1 = _ := hu1); exact ofwrd_c (OwnI.slI hu1) hp tt) ?_))|(refine LA_nil (hK [] _ (LX_nil ?_));clear hK K)|(refine LA_nil (hK _ ?_);clear hK K))
     |(refine oCX ?_;first
     |refine wCX ?_|(refine wCR ?_;intro K hK))
     |(refine oPX ?_;first
     |refine wPX ?_
     |exact PX_retE rfl rfl (Ext.refl _) rfl)
     |(refine oLX ?_;first
     |refine LX_nil ?_))
    have V7 : VarC TT w7 b7 c7 _ _ := ⟨hh7, hn7, hc7⟩
    have T7 := hT.ext e7
    refine LX_la (by kernel_rfl) (fun K hK => ?_)
    repeat' (first
     |(refine oLA ?_;first
     |refine LA_pass rfl ?_
     |(refine oLd ?_; refine LA_loadK rfl V7.hb V7.hn rfl (fun _ => rfl) (fun _ => rfl) ?_)
     |(refine oD 9 ?_; refine LA_stop (hK _ _ (LX_varK (q := 29) (φ := cnP TT q 3) (n := 4) rfl rfl (by decide) rfl rfl lays_cn (fun _ => rfl) rfl (fun _ => rfl) (fun b9 c9 w9 e9 hb9 hh9 hn9 hc9 => ?_))); clear hK K)|(refine wOpB ?_;try dsimp only [Int.reduceToNat, Int.reducePow])|refine wOp ?_|(refine wOpD ?_;try dsimp only [Int.reduceToNat, Int.toNat_natCast])|(refine LA_cmp rfl rfl rfl rfl (fun hc => ?_) (fun hc => ?_)<;>dsimp only [cmpP] at hc)|(refine oCv ?_;first
     |(refine oC 16 ?_; refine LA_call3 (f := 16) rfl rfl rfl rfl rfl  (.pred (cnP TT q 3)) (by intro u1 u2 u3 w e hu1 hu2 hu3; (try obtain rfl : u1 = _ := hu1); (try obtain rfl : u2 = _ := hu2); (try obtain rfl : u3 = _ := hu3); exact Fd _ _ (V7.hc.ext e) (T7.ext e)) ?_))|(refine LA_nil (hK [] _ (LX_nil ?_));clear hK K)|(refine LA_nil (hK _ ?_);clear hK K))
     |(refine oCX ?_;first
     |refine wCX ?_|(refine wCR ?_;intro K hK))
     |(refine oPX ?_;first
     |refine wPX ?_)
     |(refine oLX ?_;first
     |refine LX_nil ?_))
    have V9 : VarC TT w9 b9 c9 _ _ := ⟨hh9, hn9, hc9⟩
    have T9 := T7.ext e9
    replace V7 := V7.ext e9
    repeat' (first
     |(refine oLA ?_;first
     |refine LA_pass rfl ?_
     |(refine oLd ?_; refine LA_loadK rfl V9.hb V9.hn rfl (fun _ => rfl) (fun _ => rfl) ?_)
     |(refine oLen ?_; refine LA_lenR rfl _ rfl rfl HasR.own ?_; rw [gl.out])
     |refine LA_min2 rfl rfl rfl ?_
     |(refine oD 11 ?_; refine LA_stop (hK _ _ (LX_varK (q := 56) (φ := cnP TT (flp q lo hi) (kindP (flp q lo hi))) (n := 4) rfl rfl (by decide) rfl rfl lays_cn (fun _ => rfl) rfl (fun _ => rfl) (fun b11 c11 w11 e11 hb11 hh11 hn11 hc11 => ?_))); clear hK K)|(refine wOpB ?_;try dsimp only [Int.reduceToNat, Int.reducePow])|refine wOp ?_|(refine wOpD ?_;try dsimp only [Int.reduceToNat, Int.toNat_natCast])|(refine LA_cmp rfl rfl rfl rfl (fun hc => ?_) (fun hc => ?_)<;>dsimp only [cmpP] at hc)|(refine oCv ?_;first
     |(refine oC 19 ?_; refine LA_call1 (f := 19) rfl rfl rfl  (.pred (ownR w9.heap.size 70 (runsL q))) (by intro u1 w e hu1; (try obtain rfl : u1 = _ := hu1); exact (cruns_c (V9.hc.ext e) (T9.ext e)).mono (ret_baseR e.size rfl)) ?_)
     |(refine oC 20 ?_; refine LA_call1 (f := 20) rfl rfl rfl  (.val (.int .i64 n)) (by intro u1 w e hu1; (try obtain rfl : u1 = _ := hu1); exact Fn _ _ (V9.hc.ext e)) ?_)
     |(refine oC 21 ?_; refine LA_call1 (f := 21) rfl rfl rfl  (_) (by intro u1 w e hu1; (try obtain rfl : u1 = _ := hu1); exact Fs _ _ (V9.hc.ext e)) ?_)
     |(refine oC 16 ?_; refine LA_call3 (f := 16) rfl rfl rfl rfl rfl  (.pred (cnP TT (flp q lo hi) (kindP (flp q lo hi)))) (by intro u1 u2 u3 w e hu1 hu2 hu3; (try obtain rfl : u1 = _ := hu1); (try obtain rfl : u2 = _ := hu2); (try obtain rfl : u3 = _ := hu3); exact flip_c (V9.hc.ext e) (T9.ext e) tt lo hi hlo hhi) ?_))|(refine LA_nil (hK [] _ (LX_nil ?_));clear hK K)|(refine LA_nil (hK _ ?_);clear hK K))
     |(refine oCX ?_;first
     |refine wCX ?_|(refine wCR ?_;intro K hK))
     |(refine oPX ?_;first
     |refine wPX ?_)
     |(refine oLX ?_;first
     |refine LX_nil ?_))
    have V11 : VarC TT w11 b11 c11 _ _ := ⟨hh11, hn11, hc11⟩
    have T11 := T9.ext e11
    replace V7 := V7.ext e11
    replace V9 := V9.ext e11
    repeat' (first
     |(refine oLA ?_;first
     |refine LA_pass rfl ?_
     |(refine oLd ?_; refine LA_loadK rfl V9.hb V9.hn rfl (fun _ => rfl) (fun _ => rfl) ?_)
     |(refine oD 12 ?_; refine LA_stop (hK _ _ (LX_varK (q := 58) (φ := cnP TT (flp q 0 65536) (kindP (flp q 0 65536))) (n := 4) rfl rfl (by decide) rfl rfl lays_cn (fun _ => rfl) rfl (fun _ => rfl) (fun b12 c12 w12 e12 hb12 hh12 hn12 hc12 => ?_))); clear hK K)|(refine wOpB ?_;try dsimp only [Int.reduceToNat, Int.reducePow])|refine wOp ?_|(refine wOpD ?_;try dsimp only [Int.reduceToNat, Int.toNat_natCast])|(refine LA_cmp rfl rfl rfl rfl (fun hc => ?_) (fun hc => ?_)<;>dsimp only [cmpP] at hc)|(refine oCv ?_;first
     |(refine oC 16 ?_; refine LA_call3 (f := 16) rfl rfl rfl rfl rfl  (.pred (cnP TT (flp q 0 65536) (kindP (flp q 0 65536)))) (by intro u1 u2 u3 w e hu1 hu2 hu3; (try obtain rfl : u1 = _ := hu1); (try obtain rfl : u2 = _ := hu2); (try obtain rfl : u3 = _ := hu3); exact flip_c (V9.hc.ext e) (T11.ext e) tt 0 65536 (by decide) (by decide)) ?_))|(refine LA_nil (hK [] _ (LX_nil ?_));clear hK K)|(refine LA_nil (hK _ ?_);clear hK K))
     |(refine oCX ?_;first
     |refine wCX ?_|(refine wCR ?_;intro K hK))
     |(refine oPX ?_;first
     |refine wPX ?_)
     |(refine oLX ?_;first
     |refine LX_nil ?_))
    have V12 : VarC TT w12 b12 c12 _ _ := ⟨hh12, hn12, hc12⟩
    have T12 := T11.ext e12
    replace V7 := V7.ext e12
    replace V9 := V9.ext e12
    replace V11 := V11.ext e12
    have e0 := e7.trans (e9.trans (e11.trans e12))
    repeat' (first
     |(refine oLA ?_;first
     |refine LA_pass rfl ?_
     |(refine oLd ?_; refine LA_loadK rfl V9.hb V9.hn rfl (fun _ => rfl) (fun _ => rfl) ?_)
     |(refine oLd ?_; refine LA_loadK rfl V7.hb V7.hn rfl (fun _ => rfl) (fun _ => rfl) ?_)
     |(refine oLd ?_; refine LA_loadK rfl V11.hb V11.hn rfl (fun _ => rfl) (fun _ => rfl) ?_)
     |(refine oLd ?_; refine LA_loadK rfl V12.hb V12.hn rfl (fun _ => rfl) (fun _ => rfl) ?_)
     |(refine oD 60 ?_; refine oC 15 ?_; refine LA_call1 (f := 15) rfl rfl rfl  (.pred (ownI w12.heap.size 29 .u16 (listS p 65536))) (by intro u1 w e hu1; (try obtain rfl : u1 = _ := hu1); exact gb.out ▸ (array_c (V11.hc.ext e) (T12.ext e)).mono (ret_base e.size)) ?_)
     |(refine oD 62 ?_; refine oC 15 ?_; refine LA_call1 (f := 15) rfl rfl rfl  (.pred (ownI w12.heap.size 29 .u16 (listS p 65536))) (by intro u1 w e hu1; (try obtain rfl : u1 = _ := hu1); exact (array_c (V7.hc.ext e) (T12.ext e)).mono (ret_base e.size)) ?_)
     |(refine oD 66 ?_; refine oC 20 ?_; refine LA_call1 (f := 20) rfl rfl rfl  (.val (.int .i64 ((65536 - n : Nat) : Int))) (by intro u1 w e hu1; (try obtain rfl : u1 = _ := hu1); exact ret_eq (by rw [gf.out]) (len_c (V12.hc.ext e))) ?_)
     |(refine oD 68 ?_; refine oC 20 ?_; refine LA_call1 (f := 20) rfl rfl rfl  (.val (.int .i64 n)) (by intro u1 w e hu1; (try obtain rfl : u1 = _ := hu1); exact Fn _ _ (V9.hc.ext e)) ?_)
     |(refine oD 76 ?_; refine oC 20 ?_; refine LA_call1 (f := 20) rfl rfl rfl  (.val (.int .i64 0)) (by intro u1 w e hu1; (try obtain rfl : u1 = _ := hu1); exact ret_eq (by rw [ga.out]; rfl) (len_c hu1)) ?_)
     |(refine oD 83 ?_; refine oC 20 ?_; refine LA_call1 (f := 20) rfl rfl rfl  (.val (.int .i64 65536)) (by intro u1 w e hu1; (try obtain rfl : u1 = _ := hu1); exact ret_eq (by rw [go.out]; rfl) (len_c hu1)) ?_)|(refine wOpB ?_;try dsimp only [Int.reduceToNat, Int.reducePow])|refine wOp ?_|(refine wOpD ?_;try dsimp only [Int.reduceToNat, Int.toNat_natCast])|(refine LA_cmp rfl rfl rfl rfl (fun hc => ?_) (fun hc => ?_)<;>dsimp only [cmpP] at hc)|(refine oCv ?_;first
     |(refine oC 14 ?_; refine LA_call2 (f := 14) rfl rfl rfl rfl  (.val (.bool true)) (by intro u1 u2 w e hu1 hu2; (try obtain rfl : u1 = _ := hu1); (try obtain rfl : u2 = _ := hu2); exact ret_true (same_c _ _ _ (listS p 65536) (listS p 65536) (OwnI.slI hu1) (OwnI.slI hu2)) (decide_eq_true rfl)) ?_)
     |(refine oC 22 ?_; refine LA_call2 (f := 22) rfl rfl rfl rfl  (.pred (cnP TT (two (fun x y => x && y) (flp q 0 65536) q) (kindP (two (fun x y => x && y) (flp q 0 65536) q)))) (by intro u1 u2 w e hu1 hu2; (try obtain rfl : u1 = _ := hu1); (try obtain rfl : u2 = _ := hu2); exact cand_c (V12.hc.ext e) (V9.hc.ext e) (T12.ext e) tt) ?_)
     |(refine oC 23 ?_; refine LA_call2 (f := 23) rfl rfl rfl rfl  (.pred (cnP TT (two (fun x y => x || y) (flp q 0 65536) q) (kindP (two (fun x y => x || y) (flp q 0 65536) q)))) (by intro u1 u2 w e hu1 hu2; (try obtain rfl : u1 = _ := hu1); (try obtain rfl : u2 = _ := hu2); exact cor_c (V12.hc.ext e) (V9.hc.ext e) (T12.ext e) tt) ?_)
     |(refine oC 7 ?_; refine LA_call0 (f := 7) rfl rfl  (.val (.bool true)) (by intro w e; exact cknown_c _ (T12.ext e)) ?_))|(refine LA_nil (hK [] _ (LX_nil ?_));clear hK K)|(refine LA_nil (hK _ ?_);clear hK K))
     |(refine oCX ?_;first
     |refine wCX ?_|(refine wCR ?_;intro K hK))
     |(refine oPX ?_;first
     |refine wPX ?_
     |exact PX_retE rfl rfl e0 rfl)
     |(refine oLX ?_;first
     |refine LX_nil ?_))
    all_goals skip

  · replace Fs : ∀ w' u, Cn TT w' u q 1 → Fc Tryd.prog 21 #[u] w' (Ret w' (.val (.int .i64 (2 * (n : Int))))) := Fs
    refine Fc.of (args := [_, _, _]) Tryd.func4 rfl rfl Tryd.ntmps4 (Nat.le_of_ble_eq_true rfl) ?_
    repeat' (first
     |(refine oLA ?_;first
     |refine LA_pass rfl ?_
     |(refine oD 7 ?_; refine LA_stop (hK _ _ (LX_varK (q := 22) (φ := cnP TT p 2) (n := 4) rfl rfl (by decide) rfl rfl lays_cn (fun _ => rfl) rfl (fun _ => rfl) (fun b7 c7 w7 e7 hb7 hh7 hn7 hc7 => ?_))); clear hK K)|(refine wOpB ?_;try dsimp only [Int.reduceToNat, Int.reducePow])|refine wOp ?_|(refine wOpD ?_;try dsimp only [Int.reduceToNat, Int.toNat_natCast])|(refine LA_cmp rfl rfl rfl rfl (fun hc => ?_) (fun hc => ?_)<;>dsimp only [cmpP] at hc)|(refine oCv ?_;first
     |(refine oC 7 ?_; refine LA_call0 (f := 7) rfl rfl  (.val (.bool true)) (by intro w e; exact cknown_c _ (hT.ext e)) ?_)
     |(refine oC 10 ?_; refine LA_call1 (f := 10) rfl rfl rfl  (.pred (mkI w.heap.size tM p)) (by intro u1 w e hu1; (try obtain rfl : u1 = _ := hu1); exact (m1 _ e).mono (ret_mk e.size)) ?_)
     |(refine oC 18 ?_; refine LA_call1 (f := 18) rfl rfl rfl  (.pred (ownI w.heap.size 66 .u64 (wordsOf p))) (by intro u1 w e hu1; (try obtain rfl : u1 = _ := hu1); exact (rwords_c _ _ _ p hu1).mono (ret_base e.size)) ?_)
     |(refine oC 17 ?_; refine LA_call1 (f := 17) rfl rfl rfl  (.tup2 (.pred (cnP TT p 2)) (.val (.bool true))) (by intro u1 w e hu1; (try obtain rfl : u1 = _ := hu1); exact ofwrd_c (OwnI.slI hu1) hp tt) ?_))|(refine LA_nil (hK [] _ (LX_nil ?_));clear hK K)|(refine LA_nil (hK _ ?_);clear hK K))
     |(refine oCX ?_;first
     |refine wCX ?_|(refine wCR ?_;intro K hK))
     |(refine oPX ?_;first
     |refine wPX ?_
     |exact PX_retE rfl rfl (Ext.refl _) rfl)
     |(refine oLX ?_;first
     |refine LX_nil ?_))
    have V7 : VarC TT w7 b7 c7 _ _ := ⟨hh7, hn7, hc7⟩
    have T7 := hT.ext e7
    refine LX_la (by kernel_rfl) (fun K hK => ?_)
    repeat' (first
     |(refine oLA ?_;first
     |refine LA_pass rfl ?_
     |(refine oLd ?_; refine LA_loadK rfl V7.hb V7.hn rfl (fun _ => rfl) (fun _ => rfl) ?_)
     |(refine oD 9 ?_; refine LA_stop (hK _ _ (LX_varK (q := 29) (φ := cnP TT q 1) (n := 4) rfl rfl (by decide) rfl rfl lays_cn (fun _ => rfl) rfl (fun _ => rfl) (fun b9 c9 w9 e9 hb9 hh9 hn9 hc9 => ?_))); clear hK K)|(refine wOpB ?_;try dsimp only [Int.reduceToNat, Int.reducePow])|refine wOp ?_|(refine wOpD ?_;try dsimp only [Int.reduceToNat, Int.toNat_natCast])|(refine LA_cmp rfl rfl rfl rfl (fun hc => ?_) (fun hc => ?_)<;>dsimp only [cmpP] at hc)|(refine oCv ?_;first
     |(refine oC 16 ?_; refine LA_call3 (f := 16) rfl rfl rfl rfl rfl  (.pred (cnP TT q 1)) (by intro u1 u2 u3 w e hu1 hu2 hu3; (try obtain rfl : u1 = _ := hu1); (try obtain rfl : u2 = _ := hu2); (try obtain rfl : u3 = _ := hu3); exact Fd _ _ (V7.hc.ext e) (T7.ext e)) ?_))|(refine LA_nil (hK [] _ (LX_nil ?_));clear hK K)|(refine LA_nil (hK _ ?_);clear hK K))
     |(refine oCX ?_;first
     |refine wCX ?_|(refine wCR ?_;intro K hK))
     |(refine oPX ?_;first
     |refine wPX ?_)
     |(refine oLX ?_;first
     |refine LX_nil ?_))
    have V9 : VarC TT w9 b9 c9 _ _ := ⟨hh9, hn9, hc9⟩
    have T9 := T7.ext e9
    replace V7 := V7.ext e9
    repeat' (first
     |(refine oLA ?_;first
     |refine LA_pass rfl ?_
     |(refine oLd ?_; refine LA_loadK rfl V9.hb V9.hn rfl (fun _ => rfl) (fun _ => rfl) ?_)
     |(refine oLen ?_; refine LA_lenR rfl _ rfl rfl HasR.own ?_; rw [gl.out])
     |refine LA_min2 rfl rfl rfl ?_
     |(refine oD 11 ?_; refine LA_stop (hK _ _ (LX_varK (q := 56) (φ := cnP TT (flp q lo hi) (kindP (flp q lo hi))) (n := 4) rfl rfl (by decide) rfl rfl lays_cn (fun _ => rfl) rfl (fun _ => rfl) (fun b11 c11 w11 e11 hb11 hh11 hn11 hc11 => ?_))); clear hK K)|(refine wOpB ?_;try dsimp only [Int.reduceToNat, Int.reducePow])|refine wOp ?_|(refine wOpD ?_;try dsimp only [Int.reduceToNat, Int.toNat_natCast])|(refine LA_cmp rfl rfl rfl rfl (fun hc => ?_) (fun hc => ?_)<;>dsimp only [cmpP] at hc)|(refine oCv ?_;first
     |(refine oC 19 ?_; refine LA_call1 (f := 19) rfl rfl rfl  (.pred (ownR w9.heap.size 70 (runsL q))) (by intro u1 w e hu1; (try obtain rfl : u1 = _ := hu1); exact (cruns_c (V9.hc.ext e) (T9.ext e)).mono (ret_baseR e.size rfl)) ?_)
     |(refine oC 20 ?_; refine LA_call1 (f := 20) rfl rfl rfl  (.val (.int .i64 n)) (by intro u1 w e hu1; (try obtain rfl : u1 = _ := hu1); exact Fn _ _ (V9.hc.ext e)) ?_)
     |(refine oC 21 ?_; refine LA_call1 (f := 21) rfl rfl rfl  (_) (by intro u1 w e hu1; (try obtain rfl : u1 = _ := hu1); exact Fs _ _ (V9.hc.ext e)) ?_)
     |(refine oC 16 ?_; refine LA_call3 (f := 16) rfl rfl rfl rfl rfl  (.pred (cnP TT (flp q lo hi) (kindP (flp q lo hi)))) (by intro u1 u2 u3 w e hu1 hu2 hu3; (try obtain rfl : u1 = _ := hu1); (try obtain rfl : u2 = _ := hu2); (try obtain rfl : u3 = _ := hu3); exact flip_c (V9.hc.ext e) (T9.ext e) tt lo hi hlo hhi) ?_))|(refine LA_nil (hK [] _ (LX_nil ?_));clear hK K)|(refine LA_nil (hK _ ?_);clear hK K))
     |(refine oCX ?_;first
     |refine wCX ?_|(refine wCR ?_;intro K hK))
     |(refine oPX ?_;first
     |refine wPX ?_)
     |(refine oLX ?_;first
     |refine LX_nil ?_))
    have V11 : VarC TT w11 b11 c11 _ _ := ⟨hh11, hn11, hc11⟩
    have T11 := T9.ext e11
    replace V7 := V7.ext e11
    replace V9 := V9.ext e11
    repeat' (first
     |(refine oLA ?_;first
     |refine LA_pass rfl ?_
     |(refine oLd ?_; refine LA_loadK rfl V9.hb V9.hn rfl (fun _ => rfl) (fun _ => rfl) ?_)
     |(refine oD 12 ?_; refine LA_stop (hK _ _ (LX_varK (q := 58) (φ := cnP TT (flp q 0 65536) (kindP (flp q 0 65536))) (n := 4) rfl rfl (by decide) rfl rfl lays_cn (fun _ => rfl) rfl (fun _ => rfl) (fun b12 c12 w12 e12 hb12 hh12 hn12 hc12 => ?_))); clear hK K)|(refine wOpB ?_;try dsimp only [Int.reduceToNat, Int.reducePow])|refine wOp ?_|(refine wOpD ?_;try dsimp only [Int.reduceToNat, Int.toNat_natCast])|(refine LA_cmp rfl rfl rfl rfl (fun hc => ?_) (fun hc => ?_)<;>dsimp only [cmpP] at hc)|(refine oCv ?_;first
     |(refine oC 16 ?_; refine LA_call3 (f := 16) rfl rfl rfl rfl rfl  (.pred (cnP TT (flp q 0 65536) (kindP (flp q 0 65536)))) (by intro u1 u2 u3 w e hu1 hu2 hu3; (try obtain rfl : u1 = _ := hu1); (try obtain rfl : u2 = _ := hu2); (try obtain rfl : u3 = _ := hu3); exact flip_c (V9.hc.ext e) (T11.ext e) tt 0 65536 (by decide) (by decide)) ?_))|(refine LA_nil (hK [] _ (LX_nil ?_));clear hK K)|(refine LA_nil (hK _ ?_);clear hK K))
     |(refine oCX ?_;first
     |refine wCX ?_|(refine wCR ?_;intro K hK))
     |(refine oPX ?_;first
     |refine wPX ?_)
     |(refine oLX ?_;first
     |refine LX_nil ?_))
    have V12 : VarC TT w12 b12 c12 _ _ := ⟨hh12, hn12, hc12⟩
    have T12 := T11.ext e12
    replace V7 := V7.ext e12
    replace V9 := V9.ext e12
    replace V11 := V11.ext e12
    have e0 := e7.trans (e9.trans (e11.trans e12))
    repeat' (first
     |(refine oLA ?_;first
     |refine LA_pass rfl ?_
     |(refine oLd ?_; refine LA_loadK rfl V9.hb V9.hn rfl (fun _ => rfl) (fun _ => rfl) ?_)
     |(refine oLd ?_; refine LA_loadK rfl V7.hb V7.hn rfl (fun _ => rfl) (fun _ => rfl) ?_)
     |(refine oLd ?_; refine LA_loadK rfl V11.hb V11.hn rfl (fun _ => rfl) (fun _ => rfl) ?_)
     |(refine oLd ?_; refine LA_loadK rfl V12.hb V12.hn rfl (fun _ => rfl) (fun _ => rfl) ?_)
     |(refine oD 60 ?_; refine oC 15 ?_; refine LA_call1 (f := 15) rfl rfl rfl  (.pred (ownI w12.heap.size 29 .u16 (listS p 65536))) (by intro u1 w e hu1; (try obtain rfl : u1 = _ := hu1); exact gb.out ▸ (array_c (V11.hc.ext e) (T12.ext e)).mono (ret_base e.size)) ?_)
     |(refine oD 62 ?_; refine oC 15 ?_; refine LA_call1 (f := 15) rfl rfl rfl  (.pred (ownI w12.heap.size 29 .u16 (listS p 65536))) (by intro u1 w e hu1; (try obtain rfl : u1 = _ := hu1); exact (array_c (V7.hc.ext e) (T12.ext e)).mono (ret_base e.size)) ?_)
     |(refine oD 66 ?_; refine oC 20 ?_; refine LA_call1 (f := 20) rfl rfl rfl  (.val (.int .i64 ((65536 - n : Nat) : Int))) (by intro u1 w e hu1; (try obtain rfl : u1 = _ := hu1); exact ret_eq (by rw [gf.out]) (len_c (V12.hc.ext e))) ?_)
     |(refine oD 68 ?_; refine oC 20 ?_; refine LA_call1 (f := 20) rfl rfl rfl  (.val (.int .i64 n)) (by intro u1 w e hu1; (try obtain rfl : u1 = _ := hu1); exact Fn _ _ (V9.hc.ext e)) ?_)
     |(refine oD 76 ?_; refine oC 20 ?_; refine LA_call1 (f := 20) rfl rfl rfl  (.val (.int .i64 0)) (by intro u1 w e hu1; (try obtain rfl : u1 = _ := hu1); exact ret_eq (by rw [ga.out]; rfl) (len_c hu1)) ?_)
     |(refine oD 83 ?_; refine oC 20 ?_; refine LA_call1 (f := 20) rfl rfl rfl  (.val (.int .i64 65536)) (by intro u1 w e hu1; (try obtain rfl : u1 = _ := hu1); exact ret_eq (by rw [go.out]; rfl) (len_c hu1)) ?_)|(refine wOpB ?_;try dsimp only [Int.reduceToNat, Int.reducePow])|refine wOp ?_|(refine wOpD ?_;try dsimp only [Int.reduceToNat, Int.toNat_natCast])|(refine LA_cmp rfl rfl rfl rfl (fun hc => ?_) (fun hc => ?_)<;>dsimp only [cmpP] at hc)|(refine oCv ?_;first
     |(refine oC 14 ?_; refine LA_call2 (f := 14) rfl rfl rfl rfl  (.val (.bool true)) (by intro u1 u2 w e hu1 hu2; (try obtain rfl : u1 = _ := hu1); (try obtain rfl : u2 = _ := hu2); exact ret_true (same_c _ _ _ (listS p 65536) (listS p 65536) (OwnI.slI hu1) (OwnI.slI hu2)) (decide_eq_true rfl)) ?_)
     |(refine oC 22 ?_; refine LA_call2 (f := 22) rfl rfl rfl rfl  (.pred (cnP TT (two (fun x y => x && y) (flp q 0 65536) q) (kindP (two (fun x y => x && y) (flp q 0 65536) q)))) (by intro u1 u2 w e hu1 hu2; (try obtain rfl : u1 = _ := hu1); (try obtain rfl : u2 = _ := hu2); exact cand_c (V12.hc.ext e) (V9.hc.ext e) (T12.ext e) tt) ?_)
     |(refine oC 23 ?_; refine LA_call2 (f := 23) rfl rfl rfl rfl  (.pred (cnP TT (two (fun x y => x || y) (flp q 0 65536) q) (kindP (two (fun x y => x || y) (flp q 0 65536) q)))) (by intro u1 u2 w e hu1 hu2; (try obtain rfl : u1 = _ := hu1); (try obtain rfl : u2 = _ := hu2); exact cor_c (V12.hc.ext e) (V9.hc.ext e) (T12.ext e) tt) ?_)
     |(refine oC 7 ?_; refine LA_call0 (f := 7) rfl rfl  (.val (.bool true)) (by intro w e; exact cknown_c _ (T12.ext e)) ?_))|(refine LA_nil (hK [] _ (LX_nil ?_));clear hK K)|(refine LA_nil (hK _ ?_);clear hK K))
     |(refine oCX ?_;first
     |refine wCX ?_|(refine wCR ?_;intro K hK))
     |(refine oPX ?_;first
     |refine wPX ?_
     |exact PX_retE rfl rfl e0 rfl)
     |(refine oLX ?_;first
     |refine LX_nil ?_))
    all_goals skip

  · replace Fs : ∀ w' u, Cn TT w' u q 3 → Fc Tryd.prog 21 #[u] w' (Ret w' (.val (.int .i64 (2 + 4 * (r : Int))))) := Fs
    refine Fc.of (args := [_, _, _]) Tryd.func4 rfl rfl Tryd.ntmps4 (Nat.le_of_ble_eq_true rfl) ?_
    repeat' (first
     |(refine oLA ?_;first
     |refine LA_pass rfl ?_
     |(refine oD 7 ?_; refine LA_stop (hK _ _ (LX_varK (q := 22) (φ := cnP TT p 2) (n := 4) rfl rfl (by decide) rfl rfl lays_cn (fun _ => rfl) rfl (fun _ => rfl) (fun b7 c7 w7 e7 hb7 hh7 hn7 hc7 => ?_))); clear hK K)|(refine wOpB ?_;try dsimp only [Int.reduceToNat, Int.reducePow])|refine wOp ?_|(refine wOpD ?_;try dsimp only [Int.reduceToNat, Int.toNat_natCast])|(refine LA_cmp rfl rfl rfl rfl (fun hc => ?_) (fun hc => ?_)<;>dsimp only [cmpP] at hc)|(refine oCv ?_;first
     |(refine oC 7 ?_; refine LA_call0 (f := 7) rfl rfl  (.val (.bool true)) (by intro w e; exact cknown_c _ (hT.ext e)) ?_)
     |(refine oC 10 ?_; refine LA_call1 (f := 10) rfl rfl rfl  (.pred (mkI w.heap.size tM p)) (by intro u1 w e hu1; (try obtain rfl : u1 = _ := hu1); exact (m1 _ e).mono (ret_mk e.size)) ?_)
     |(refine oC 18 ?_; refine LA_call1 (f := 18) rfl rfl rfl  (.pred (ownI w.heap.size 66 .u64 (wordsOf p))) (by intro u1 w e hu1; (try obtain rfl : u1 = _ := hu1); exact (rwords_c _ _ _ p hu1).mono (ret_base e.size)) ?_)
     |(refine oC 17 ?_; refine LA_call1 (f := 17) rfl rfl rfl  (.tup2 (.pred (cnP TT p 2)) (.val (.bool true))) (by intro u1 w e hu1; (try obtain rfl : u1 = _ := hu1); exact ofwrd_c (OwnI.slI hu1) hp tt) ?_))|(refine LA_nil (hK [] _ (LX_nil ?_));clear hK K)|(refine LA_nil (hK _ ?_);clear hK K))
     |(refine oCX ?_;first
     |refine wCX ?_|(refine wCR ?_;intro K hK))
     |(refine oPX ?_;first
     |refine wPX ?_
     |exact PX_retE rfl rfl (Ext.refl _) rfl)
     |(refine oLX ?_;first
     |refine LX_nil ?_))
    have V7 : VarC TT w7 b7 c7 _ _ := ⟨hh7, hn7, hc7⟩
    have T7 := hT.ext e7
    refine LX_la (by kernel_rfl) (fun K hK => ?_)
    repeat' (first
     |(refine oLA ?_;first
     |refine LA_pass rfl ?_
     |(refine oLd ?_; refine LA_loadK rfl V7.hb V7.hn rfl (fun _ => rfl) (fun _ => rfl) ?_)
     |(refine oD 9 ?_; refine LA_stop (hK _ _ (LX_varK (q := 29) (φ := cnP TT q 3) (n := 4) rfl rfl (by decide) rfl rfl lays_cn (fun _ => rfl) rfl (fun _ => rfl) (fun b9 c9 w9 e9 hb9 hh9 hn9 hc9 => ?_))); clear hK K)|(refine wOpB ?_;try dsimp only [Int.reduceToNat, Int.reducePow])|refine wOp ?_|(refine wOpD ?_;try dsimp only [Int.reduceToNat, Int.toNat_natCast])|(refine LA_cmp rfl rfl rfl rfl (fun hc => ?_) (fun hc => ?_)<;>dsimp only [cmpP] at hc)|(refine oCv ?_;first
     |(refine oC 16 ?_; refine LA_call3 (f := 16) rfl rfl rfl rfl rfl  (.pred (cnP TT q 3)) (by intro u1 u2 u3 w e hu1 hu2 hu3; (try obtain rfl : u1 = _ := hu1); (try obtain rfl : u2 = _ := hu2); (try obtain rfl : u3 = _ := hu3); exact Fd _ _ (V7.hc.ext e) (T7.ext e)) ?_))|(refine LA_nil (hK [] _ (LX_nil ?_));clear hK K)|(refine LA_nil (hK _ ?_);clear hK K))
     |(refine oCX ?_;first
     |refine wCX ?_|(refine wCR ?_;intro K hK))
     |(refine oPX ?_;first
     |refine wPX ?_)
     |(refine oLX ?_;first
     |refine LX_nil ?_))
    have V9 : VarC TT w9 b9 c9 _ _ := ⟨hh9, hn9, hc9⟩
    have T9 := T7.ext e9
    replace V7 := V7.ext e9
    repeat' (first
     |(refine oLA ?_;first
     |refine LA_pass rfl ?_
     |(refine oLd ?_; refine LA_loadK rfl V9.hb V9.hn rfl (fun _ => rfl) (fun _ => rfl) ?_)
     |(refine oLen ?_; refine LA_lenR rfl _ rfl rfl HasR.own ?_; rw [gl.out])
     |refine LA_min2 rfl rfl rfl ?_
     |(refine oD 11 ?_; refine LA_stop (hK _ _ (LX_varK (q := 56) (φ := cnP TT (flp q lo hi) (kindP (flp q lo hi))) (n := 4) rfl rfl (by decide) rfl rfl lays_cn (fun _ => rfl) rfl (fun _ => rfl) (fun b11 c11 w11 e11 hb11 hh11 hn11 hc11 => ?_))); clear hK K)|(refine wOpB ?_;try dsimp only [Int.reduceToNat, Int.reducePow])|refine wOp ?_|(refine wOpD ?_;try dsimp only [Int.reduceToNat, Int.toNat_natCast])|(refine LA_cmp rfl rfl rfl rfl (fun hc => ?_) (fun hc => ?_)<;>dsimp only [cmpP] at hc)|(refine oCv ?_;first
     |(refine oC 19 ?_; refine LA_call1 (f := 19) rfl rfl rfl  (.pred (ownR w9.heap.size 70 (runsL q))) (by intro u1 w e hu1; (try obtain rfl : u1 = _ := hu1); exact (cruns_c (V9.hc.ext e) (T9.ext e)).mono (ret_baseR e.size rfl)) ?_)
     |(refine oC 20 ?_; refine LA_call1 (f := 20) rfl rfl rfl  (.val (.int .i64 n)) (by intro u1 w e hu1; (try obtain rfl : u1 = _ := hu1); exact Fn _ _ (V9.hc.ext e)) ?_)
     |(refine oC 21 ?_; refine LA_call1 (f := 21) rfl rfl rfl  (_) (by intro u1 w e hu1; (try obtain rfl : u1 = _ := hu1); exact Fs _ _ (V9.hc.ext e)) ?_)
     |(refine oC 16 ?_; refine LA_call3 (f := 16) rfl rfl rfl rfl rfl  (.pred (cnP TT (flp q lo hi) (kindP (flp q lo hi)))) (by intro u1 u2 u3 w e hu1 hu2 hu3; (try obtain rfl : u1 = _ := hu1); (try obtain rfl : u2 = _ := hu2); (try obtain rfl : u3 = _ := hu3); exact flip_c (V9.hc.ext e) (T9.ext e) tt lo hi hlo hhi) ?_))|(refine LA_nil (hK [] _ (LX_nil ?_));clear hK K)|(refine LA_nil (hK _ ?_);clear hK K))
     |(refine oCX ?_;first
     |refine wCX ?_|(refine wCR ?_;intro K hK))
     |(refine oPX ?_;first
     |refine wPX ?_)
     |(refine oLX ?_;first
     |refine LX_nil ?_))
    have V11 : VarC TT w11 b11 c11 _ _ := ⟨hh11, hn11, hc11⟩
    have T11 := T9.ext e11
    replace V7 := V7.ext e11
    replace V9 := V9.ext e11
    repeat' (first
     |(refine oLA ?_;first
     |refine LA_pass rfl ?_
     |(refine oLd ?_; refine LA_loadK rfl V9.hb V9.hn rfl (fun _ => rfl) (fun _ => rfl) ?_)
     |(refine oD 12 ?_; refine LA_stop (hK _ _ (LX_varK (q := 58) (φ := cnP TT (flp q 0 65536) (kindP (flp q 0 65536))) (n := 4) rfl rfl (by decide) rfl rfl lays_cn (fun _ => rfl) rfl (fun _ => rfl) (fun b12 c12 w12 e12 hb12 hh12 hn12 hc12 => ?_))); clear hK K)|(refine wOpB ?_;try dsimp only [Int.reduceToNat, Int.reducePow])|refine wOp ?_|(refine wOpD ?_;try dsimp only [Int.reduceToNat, Int.toNat_natCast])|(refine LA_cmp rfl rfl rfl rfl (fun hc => ?_) (fun hc => ?_)<;>dsimp only [cmpP] at hc)|(refine oCv ?_;first
     |(refine oC 16 ?_; refine LA_call3 (f := 16) rfl rfl rfl rfl rfl  (.pred (cnP TT (flp q 0 65536) (kindP (flp q 0 65536)))) (by intro u1 u2 u3 w e hu1 hu2 hu3; (try obtain rfl : u1 = _ := hu1); (try obtain rfl : u2 = _ := hu2); (try obtain rfl : u3 = _ := hu3); exact flip_c (V9.hc.ext e) (T11.ext e) tt 0 65536 (by decide) (by decide)) ?_))|(refine LA_nil (hK [] _ (LX_nil ?_));clear hK K)|(refine LA_nil (hK _ ?_);clear hK K))
     |(refine oCX ?_;first
     |refine wCX ?_|(refine wCR ?_;intro K hK))
     |(refine oPX ?_;first
     |refine wPX ?_)
     |(refine oLX ?_;first
     |refine LX_nil ?_))
    have V12 : VarC TT w12 b12 c12 _ _ := ⟨hh12, hn12, hc12⟩
    have T12 := T11.ext e12
    replace V7 := V7.ext e12
    replace V9 := V9.ext e12
    replace V11 := V11.ext e12
    have e0 := e7.trans (e9.trans (e11.trans e12))
    repeat' (first
     |(refine oLA ?_;first
     |refine LA_pass rfl ?_
     |(refine oLd ?_; refine LA_loadK rfl V9.hb V9.hn rfl (fun _ => rfl) (fun _ => rfl) ?_)
     |(refine oLd ?_; refine LA_loadK rfl V7.hb V7.hn rfl (fun _ => rfl) (fun _ => rfl) ?_)
     |(refine oLd ?_; refine LA_loadK rfl V11.hb V11.hn rfl (fun _ => rfl) (fun _ => rfl) ?_)
     |(refine oLd ?_; refine LA_loadK rfl V12.hb V12.hn rfl (fun _ => rfl) (fun _ => rfl) ?_)
     |(refine oD 60 ?_; refine oC 15 ?_; refine LA_call1 (f := 15) rfl rfl rfl  (.pred (ownI w12.heap.size 29 .u16 (listS p 65536))) (by intro u1 w e hu1; (try obtain rfl : u1 = _ := hu1); exact gb.out ▸ (array_c (V11.hc.ext e) (T12.ext e)).mono (ret_base e.size)) ?_)
     |(refine oD 62 ?_; refine oC 15 ?_; refine LA_call1 (f := 15) rfl rfl rfl  (.pred (ownI w12.heap.size 29 .u16 (listS p 65536))) (by intro u1 w e hu1; (try obtain rfl : u1 = _ := hu1); exact (array_c (V7.hc.ext e) (T12.ext e)).mono (ret_base e.size)) ?_)
     |(refine oD 66 ?_; refine oC 20 ?_; refine LA_call1 (f := 20) rfl rfl rfl  (.val (.int .i64 ((65536 - n : Nat) : Int))) (by intro u1 w e hu1; (try obtain rfl : u1 = _ := hu1); exact ret_eq (by rw [gf.out]) (len_c (V12.hc.ext e))) ?_)
     |(refine oD 68 ?_; refine oC 20 ?_; refine LA_call1 (f := 20) rfl rfl rfl  (.val (.int .i64 n)) (by intro u1 w e hu1; (try obtain rfl : u1 = _ := hu1); exact Fn _ _ (V9.hc.ext e)) ?_)
     |(refine oD 76 ?_; refine oC 20 ?_; refine LA_call1 (f := 20) rfl rfl rfl  (.val (.int .i64 0)) (by intro u1 w e hu1; (try obtain rfl : u1 = _ := hu1); exact ret_eq (by rw [ga.out]; rfl) (len_c hu1)) ?_)
     |(refine oD 83 ?_; refine oC 20 ?_; refine LA_call1 (f := 20) rfl rfl rfl  (.val (.int .i64 65536)) (by intro u1 w e hu1; (try obtain rfl : u1 = _ := hu1); exact ret_eq (by rw [go.out]; rfl) (len_c hu1)) ?_)|(refine wOpB ?_;try dsimp only [Int.reduceToNat, Int.reducePow])|refine wOp ?_|(refine wOpD ?_;try dsimp only [Int.reduceToNat, Int.toNat_natCast])|(refine LA_cmp rfl rfl rfl rfl (fun hc => ?_) (fun hc => ?_)<;>dsimp only [cmpP] at hc)|(refine oCv ?_;first
     |(refine oC 14 ?_; refine LA_call2 (f := 14) rfl rfl rfl rfl  (.val (.bool true)) (by intro u1 u2 w e hu1 hu2; (try obtain rfl : u1 = _ := hu1); (try obtain rfl : u2 = _ := hu2); exact ret_true (same_c _ _ _ (listS p 65536) (listS p 65536) (OwnI.slI hu1) (OwnI.slI hu2)) (decide_eq_true rfl)) ?_)
     |(refine oC 22 ?_; refine LA_call2 (f := 22) rfl rfl rfl rfl  (.pred (cnP TT (two (fun x y => x && y) (flp q 0 65536) q) (kindP (two (fun x y => x && y) (flp q 0 65536) q)))) (by intro u1 u2 w e hu1 hu2; (try obtain rfl : u1 = _ := hu1); (try obtain rfl : u2 = _ := hu2); exact cand_c (V12.hc.ext e) (V9.hc.ext e) (T12.ext e) tt) ?_)
     |(refine oC 23 ?_; refine LA_call2 (f := 23) rfl rfl rfl rfl  (.pred (cnP TT (two (fun x y => x || y) (flp q 0 65536) q) (kindP (two (fun x y => x || y) (flp q 0 65536) q)))) (by intro u1 u2 w e hu1 hu2; (try obtain rfl : u1 = _ := hu1); (try obtain rfl : u2 = _ := hu2); exact cor_c (V12.hc.ext e) (V9.hc.ext e) (T12.ext e) tt) ?_)
     |(refine oC 7 ?_; refine LA_call0 (f := 7) rfl rfl  (.val (.bool true)) (by intro w e; exact cknown_c _ (T12.ext e)) ?_))|(refine LA_nil (hK [] _ (LX_nil ?_));clear hK K)|(refine LA_nil (hK _ ?_);clear hK K))
     |(refine oCX ?_;first
     |refine wCX ?_|(refine wCR ?_;intro K hK))
     |(refine oPX ?_;first
     |refine wPX ?_
     |exact PX_retE rfl rfl e0 rfl)
     |(refine oLX ?_;first
     |refine LX_nil ?_))
    all_goals skip

  · replace Fs : ∀ w' u, Cn TT w' u q 2 → Fc Tryd.prog 21 #[u] w' (Ret w' (.val (.int .i64 8192))) := Fs
    refine Fc.of (args := [_, _, _]) Tryd.func4 rfl rfl Tryd.ntmps4 (Nat.le_of_ble_eq_true rfl) ?_
    repeat' (first
     |(refine oLA ?_;first
     |refine LA_pass rfl ?_
     |(refine oD 7 ?_; refine LA_stop (hK _ _ (LX_varK (q := 22) (φ := cnP TT p 2) (n := 4) rfl rfl (by decide) rfl rfl lays_cn (fun _ => rfl) rfl (fun _ => rfl) (fun b7 c7 w7 e7 hb7 hh7 hn7 hc7 => ?_))); clear hK K)|(refine wOpB ?_;try dsimp only [Int.reduceToNat, Int.reducePow])|refine wOp ?_|(refine wOpD ?_;try dsimp only [Int.reduceToNat, Int.toNat_natCast])|(refine LA_cmp rfl rfl rfl rfl (fun hc => ?_) (fun hc => ?_)<;>dsimp only [cmpP] at hc)|(refine oCv ?_;first
     |(refine oC 7 ?_; refine LA_call0 (f := 7) rfl rfl  (.val (.bool true)) (by intro w e; exact cknown_c _ (hT.ext e)) ?_)
     |(refine oC 10 ?_; refine LA_call1 (f := 10) rfl rfl rfl  (.pred (mkI w.heap.size tM p)) (by intro u1 w e hu1; (try obtain rfl : u1 = _ := hu1); exact (m1 _ e).mono (ret_mk e.size)) ?_)
     |(refine oC 18 ?_; refine LA_call1 (f := 18) rfl rfl rfl  (.pred (ownI w.heap.size 66 .u64 (wordsOf p))) (by intro u1 w e hu1; (try obtain rfl : u1 = _ := hu1); exact (rwords_c _ _ _ p hu1).mono (ret_base e.size)) ?_)
     |(refine oC 17 ?_; refine LA_call1 (f := 17) rfl rfl rfl  (.tup2 (.pred (cnP TT p 2)) (.val (.bool true))) (by intro u1 w e hu1; (try obtain rfl : u1 = _ := hu1); exact ofwrd_c (OwnI.slI hu1) hp tt) ?_))|(refine LA_nil (hK [] _ (LX_nil ?_));clear hK K)|(refine LA_nil (hK _ ?_);clear hK K))
     |(refine oCX ?_;first
     |refine wCX ?_|(refine wCR ?_;intro K hK))
     |(refine oPX ?_;first
     |refine wPX ?_
     |exact PX_retE rfl rfl (Ext.refl _) rfl)
     |(refine oLX ?_;first
     |refine LX_nil ?_))
    have V7 : VarC TT w7 b7 c7 _ _ := ⟨hh7, hn7, hc7⟩
    have T7 := hT.ext e7
    refine LX_la (by kernel_rfl) (fun K hK => ?_)
    repeat' (first
     |(refine oLA ?_;first
     |refine LA_pass rfl ?_
     |(refine oLd ?_; refine LA_loadK rfl V7.hb V7.hn rfl (fun _ => rfl) (fun _ => rfl) ?_)
     |(refine oD 9 ?_; refine LA_stop (hK _ _ (LX_varK (q := 29) (φ := cnP TT q 2) (n := 4) rfl rfl (by decide) rfl rfl lays_cn (fun _ => rfl) rfl (fun _ => rfl) (fun b9 c9 w9 e9 hb9 hh9 hn9 hc9 => ?_))); clear hK K)|(refine wOpB ?_;try dsimp only [Int.reduceToNat, Int.reducePow])|refine wOp ?_|(refine wOpD ?_;try dsimp only [Int.reduceToNat, Int.toNat_natCast])|(refine LA_cmp rfl rfl rfl rfl (fun hc => ?_) (fun hc => ?_)<;>dsimp only [cmpP] at hc)|(refine oCv ?_;first
     |(refine oC 16 ?_; refine LA_call3 (f := 16) rfl rfl rfl rfl rfl  (.pred (cnP TT q 2)) (by intro u1 u2 u3 w e hu1 hu2 hu3; (try obtain rfl : u1 = _ := hu1); (try obtain rfl : u2 = _ := hu2); (try obtain rfl : u3 = _ := hu3); exact Fd _ _ (V7.hc.ext e) (T7.ext e)) ?_))|(refine LA_nil (hK [] _ (LX_nil ?_));clear hK K)|(refine LA_nil (hK _ ?_);clear hK K))
     |(refine oCX ?_;first
     |refine wCX ?_|(refine wCR ?_;intro K hK))
     |(refine oPX ?_;first
     |refine wPX ?_)
     |(refine oLX ?_;first
     |refine LX_nil ?_))
    have V9 : VarC TT w9 b9 c9 _ _ := ⟨hh9, hn9, hc9⟩
    have T9 := T7.ext e9
    replace V7 := V7.ext e9
    repeat' (first
     |(refine oLA ?_;first
     |refine LA_pass rfl ?_
     |(refine oLd ?_; refine LA_loadK rfl V9.hb V9.hn rfl (fun _ => rfl) (fun _ => rfl) ?_)
     |(refine oLen ?_; refine LA_lenR rfl _ rfl rfl HasR.own ?_; rw [gl.out])
     |refine LA_min2 rfl rfl rfl ?_
     |(refine oD 11 ?_; refine LA_stop (hK _ _ (LX_varK (q := 56) (φ := cnP TT (flp q lo hi) (kindP (flp q lo hi))) (n := 4) rfl rfl (by decide) rfl rfl lays_cn (fun _ => rfl) rfl (fun _ => rfl) (fun b11 c11 w11 e11 hb11 hh11 hn11 hc11 => ?_))); clear hK K)|(refine wOpB ?_;try dsimp only [Int.reduceToNat, Int.reducePow])|refine wOp ?_|(refine wOpD ?_;try dsimp only [Int.reduceToNat, Int.toNat_natCast])|(refine LA_cmp rfl rfl rfl rfl (fun hc => ?_) (fun hc => ?_)<;>dsimp only [cmpP] at hc)|(refine oCv ?_;first
     |(refine oC 19 ?_; refine LA_call1 (f := 19) rfl rfl rfl  (.pred (ownR w9.heap.size 70 (runsL q))) (by intro u1 w e hu1; (try obtain rfl : u1 = _ := hu1); exact (cruns_c (V9.hc.ext e) (T9.ext e)).mono (ret_baseR e.size rfl)) ?_)
     |(refine oC 20 ?_; refine LA_call1 (f := 20) rfl rfl rfl  (.val (.int .i64 n)) (by intro u1 w e hu1; (try obtain rfl : u1 = _ := hu1); exact Fn _ _ (V9.hc.ext e)) ?_)
     |(refine oC 21 ?_; refine LA_call1 (f := 21) rfl rfl rfl  (_) (by intro u1 w e hu1; (try obtain rfl : u1 = _ := hu1); exact Fs _ _ (V9.hc.ext e)) ?_)
     |(refine oC 16 ?_; refine LA_call3 (f := 16) rfl rfl rfl rfl rfl  (.pred (cnP TT (flp q lo hi) (kindP (flp q lo hi)))) (by intro u1 u2 u3 w e hu1 hu2 hu3; (try obtain rfl : u1 = _ := hu1); (try obtain rfl : u2 = _ := hu2); (try obtain rfl : u3 = _ := hu3); exact flip_c (V9.hc.ext e) (T9.ext e) tt lo hi hlo hhi) ?_))|(refine LA_nil (hK [] _ (LX_nil ?_));clear hK K)|(refine LA_nil (hK _ ?_);clear hK K))
     |(refine oCX ?_;first
     |refine wCX ?_|(refine wCR ?_;intro K hK))
     |(refine oPX ?_;first
     |refine wPX ?_)
     |(refine oLX ?_;first
     |refine LX_nil ?_))
    have V11 : VarC TT w11 b11 c11 _ _ := ⟨hh11, hn11, hc11⟩
    have T11 := T9.ext e11
    replace V7 := V7.ext e11
    replace V9 := V9.ext e11
    repeat' (first
     |(refine oLA ?_;first
     |refine LA_pass rfl ?_
     |(refine oLd ?_; refine LA_loadK rfl V9.hb V9.hn rfl (fun _ => rfl) (fun _ => rfl) ?_)
     |(refine oD 12 ?_; refine LA_stop (hK _ _ (LX_varK (q := 58) (φ := cnP TT (flp q 0 65536) (kindP (flp q 0 65536))) (n := 4) rfl rfl (by decide) rfl rfl lays_cn (fun _ => rfl) rfl (fun _ => rfl) (fun b12 c12 w12 e12 hb12 hh12 hn12 hc12 => ?_))); clear hK K)|(refine wOpB ?_;try dsimp only [Int.reduceToNat, Int.reducePow])|refine wOp ?_|(refine wOpD ?_;try dsimp only [Int.reduceToNat, Int.toNat_natCast])|(refine LA_cmp rfl rfl rfl rfl (fun hc => ?_) (fun hc => ?_)<;>dsimp only [cmpP] at hc)|(refine oCv ?_;first
     |(refine oC 16 ?_; refine LA_call3 (f := 16) rfl rfl rfl rfl rfl  (.pred (cnP TT (flp q 0 65536) (kindP (flp q 0 65536)))) (by intro u1 u2 u3 w e hu1 hu2 hu3; (try obtain rfl : u1 = _ := hu1); (try obtain rfl : u2 = _ := hu2); (try obtain rfl : u3 = _ := hu3); exact flip_c (V9.hc.ext e) (T11.ext e) tt 0 65536 (by decide) (by decide)) ?_))|(refine LA_nil (hK [] _ (LX_nil ?_));clear hK K)|(refine LA_nil (hK _ ?_);clear hK K))
     |(refine oCX ?_;first
     |refine wCX ?_|(refine wCR ?_;intro K hK))
     |(refine oPX ?_;first
     |refine wPX ?_)
     |(refine oLX ?_;first
     |refine LX_nil ?_))
    have V12 : VarC TT w12 b12 c12 _ _ := ⟨hh12, hn12, hc12⟩
    have T12 := T11.ext e12
    replace V7 := V7.ext e12
    replace V9 := V9.ext e12
    replace V11 := V11.ext e12
    have e0 := e7.trans (e9.trans (e11.trans e12))
    repeat' (first
     |(refine oLA ?_;first
     |refine LA_pass rfl ?_
     |(refine oLd ?_; refine LA_loadK rfl V9.hb V9.hn rfl (fun _ => rfl) (fun _ => rfl) ?_)
     |(refine oLd ?_; refine LA_loadK rfl V7.hb V7.hn rfl (fun _ => rfl) (fun _ => rfl) ?_)
     |(refine oLd ?_; refine LA_loadK rfl V11.hb V11.hn rfl (fun _ => rfl) (fun _ => rfl) ?_)
     |(refine oLd ?_; refine LA_loadK rfl V12.hb V12.hn rfl (fun _ => rfl) (fun _ => rfl) ?_)
     |(refine oD 60 ?_; refine oC 15 ?_; refine LA_call1 (f := 15) rfl rfl rfl  (.pred (ownI w12.heap.size 29 .u16 (listS p 65536))) (by intro u1 w e hu1; (try obtain rfl : u1 = _ := hu1); exact gb.out ▸ (array_c (V11.hc.ext e) (T12.ext e)).mono (ret_base e.size)) ?_)
     |(refine oD 62 ?_; refine oC 15 ?_; refine LA_call1 (f := 15) rfl rfl rfl  (.pred (ownI w12.heap.size 29 .u16 (listS p 65536))) (by intro u1 w e hu1; (try obtain rfl : u1 = _ := hu1); exact (array_c (V7.hc.ext e) (T12.ext e)).mono (ret_base e.size)) ?_)
     |(refine oD 66 ?_; refine oC 20 ?_; refine LA_call1 (f := 20) rfl rfl rfl  (.val (.int .i64 ((65536 - n : Nat) : Int))) (by intro u1 w e hu1; (try obtain rfl : u1 = _ := hu1); exact ret_eq (by rw [gf.out]) (len_c (V12.hc.ext e))) ?_)
     |(refine oD 68 ?_; refine oC 20 ?_; refine LA_call1 (f := 20) rfl rfl rfl  (.val (.int .i64 n)) (by intro u1 w e hu1; (try obtain rfl : u1 = _ := hu1); exact Fn _ _ (V9.hc.ext e)) ?_)
     |(refine oD 76 ?_; refine oC 20 ?_; refine LA_call1 (f := 20) rfl rfl rfl  (.val (.int .i64 0)) (by intro u1 w e hu1; (try obtain rfl : u1 = _ := hu1); exact ret_eq (by rw [ga.out]; rfl) (len_c hu1)) ?_)
     |(refine oD 83 ?_; refine oC 20 ?_; refine LA_call1 (f := 20) rfl rfl rfl  (.val (.int .i64 65536)) (by intro u1 w e hu1; (try obtain rfl : u1 = _ := hu1); exact ret_eq (by rw [go.out]; rfl) (len_c hu1)) ?_)|(refine wOpB ?_;try dsimp only [Int.reduceToNat, Int.reducePow])|refine wOp ?_|(refine wOpD ?_;try dsimp only [Int.reduceToNat, Int.toNat_natCast])|(refine LA_cmp rfl rfl rfl rfl (fun hc => ?_) (fun hc => ?_)<;>dsimp only [cmpP] at hc)|(refine oCv ?_;first
     |(refine oC 14 ?_; refine LA_call2 (f := 14) rfl rfl rfl rfl  (.val (.bool true)) (by intro u1 u2 w e hu1 hu2; (try obtain rfl : u1 = _ := hu1); (try obtain rfl : u2 = _ := hu2); exact ret_true (same_c _ _ _ (listS p 65536) (listS p 65536) (OwnI.slI hu1) (OwnI.slI hu2)) (decide_eq_true rfl)) ?_)
     |(refine oC 22 ?_; refine LA_call2 (f := 22) rfl rfl rfl rfl  (.pred (cnP TT (two (fun x y => x && y) (flp q 0 65536) q) (kindP (two (fun x y => x && y) (flp q 0 65536) q)))) (by intro u1 u2 w e hu1 hu2; (try obtain rfl : u1 = _ := hu1); (try obtain rfl : u2 = _ := hu2); exact cand_c (V12.hc.ext e) (V9.hc.ext e) (T12.ext e) tt) ?_)
     |(refine oC 23 ?_; refine LA_call2 (f := 23) rfl rfl rfl rfl  (.pred (cnP TT (two (fun x y => x || y) (flp q 0 65536) q) (kindP (two (fun x y => x || y) (flp q 0 65536) q)))) (by intro u1 u2 w e hu1 hu2; (try obtain rfl : u1 = _ := hu1); (try obtain rfl : u2 = _ := hu2); exact cor_c (V12.hc.ext e) (V9.hc.ext e) (T12.ext e) tt) ?_)
     |(refine oC 7 ?_; refine LA_call0 (f := 7) rfl rfl  (.val (.bool true)) (by intro w e; exact cknown_c _ (T12.ext e)) ?_))|(refine LA_nil (hK [] _ (LX_nil ?_));clear hK K)|(refine LA_nil (hK _ ?_);clear hK K))
     |(refine oCX ?_;first
     |refine wCX ?_|(refine wCR ?_;intro K hK))
     |(refine oPX ?_;first
     |refine wPX ?_
     |exact PX_retE rfl rfl e0 rfl)
     |(refine oLX ?_;first
     |refine LX_nil ?_))
    all_goals skip

end Go.Proofs.YtjiacignpmabcaaDoor
