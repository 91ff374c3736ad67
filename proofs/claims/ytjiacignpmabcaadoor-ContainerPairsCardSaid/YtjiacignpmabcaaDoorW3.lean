import Derived.Test.YtjiacignpmabcaaDoorW2
import Derived.Test.YtjiacignpmabcaaDoorWP
set_option linter.unusedSimpArgs false
set_option linter.unusedVariables false
set_option maxRecDepth 3000
namespace Go.Proofs.YtjiacignpmabcaaDoor
open Go.LA Go.ArrP Go.RowKit

theorem u64_el : El Tryd.prog 24 66 (.int .u64 0) 1 8 := ⟨rfl, rfl, rfl, by decide⟩
theorem ones_at {w : World} {x : Int} {n : Nat} (hx : x = (n : Int)) (hn : n < 18446744073709551616) : Fc Tryd.prog 99 #[.int .u64 x] w (Ret w (.val (.int .i64 (pop64 n)))) := by
  subst hx; exact ones_c w n hn
theorem pop_le (n : Nat) : pop64 n ≤ 64 := cnt_le _ _
theorem wlen_c (w : World) (v : Value) (ws : List Int) (h : SlI .u64 w v ws) (hl : Lw ws) (hn : ws.length ≤ 17592186044416) : Fc Tryd.prog 77 #[v] w (Ret w (.val (.int .i64 (cnt (wbit ws) (64 * ws.length))))) := by
  refine Fc.of (args := [_]) Tryd.func77 rfl rfl Tryd.ntmps77 (Nat.le_of_ble_eq_true rfl) ?_
  repeat' (first
   |(refine oLA ?_;first
   |refine LA_pass rfl ?_|(refine wOpB ?_;try dsimp only [Int.reduceToNat, Int.reducePow])|refine wOp ?_|(refine wOpD ?_;try dsimp only [Int.reduceToNat, Int.toNat_natCast])|(refine LA_cmp rfl rfl rfl rfl (fun hc => ?_) (fun hc => ?_)<;>dsimp only [cmpP] at hc)|(refine LA_nil (hK [] _ (LX_nil ?_));clear hK K)|(refine LA_nil (hK _ ?_);clear hK K))
   |(refine oCX ?_;first
   |refine wCX ?_|(refine wCR ?_;intro K hK))
   |(refine oPX ?_;first
   |refine wPX ?_)
   |(refine oLX ?_;first
   |refine LX_nil ?_))
  refine CX_loop (ι := Nat) (fun k => [(0, .val v), (3, .val (.int .i64 (cnt (wbit ws) (64 * k)))), (6, .val v), (7, .val (.int .i64 ws.length)), (8, .val (.int .i64 k))]) (fun k => k ≤ ws.length) (fun k => ws.length - k) 0 (by omega) (by repeat' (first | exact Sub.nil | refine Sub.val rfl (by first | with_reducible rfl | (congr 1; omega)) ?_ | refine Sub.same rfl ?_)) ?_
  intro k hk
  have hs := cnt_word ws k
  have hc := cnt_le (wbit ws) (64 * k)
  have hp := pop_le (wd ws k)
  obtain ⟨e1, e2⟩ := hl.at k
  by_cases hkl : k < ws.length
  · skip
    repeat' (first
     |(refine oLA ?_;first
     |refine LA_pass rfl ?_|(refine wOpB ?_;try dsimp only [Int.reduceToNat, Int.reducePow])|refine wOp ?_|(refine wOpD ?_;try dsimp only [Int.reduceToNat, Int.toNat_natCast])|(refine LA_cmp rfl rfl rfl rfl (fun hc => ?_) (fun hc => ?_)<;>dsimp only [cmpP] at hc)|(refine oCv ?_;first
     |(refine oC 99 ?_; refine LA_call1 (f := 99) rfl rfl rfl  (.val (.int .i64 (pop64 (wd ws k)))) (by intro u1 w e hu1; (try obtain rfl : u1 = _ := hu1); exact ones_at e1 e2) ?_))|(refine LA_nil (hK [] _ (LX_nil ?_));clear hK K)|(refine LA_nil (hK _ ?_);clear hK K))
     |(refine oCX ?_;first
     |refine wCX ?_|(refine wCR ?_;intro K hK))
     |(refine oPX ?_;first
     |refine wPX ?_)
     |(refine oLX ?_;first
     |refine LX_nil ?_))
    refine PX_rnd (k + 1) ?_ ?_ (by repeat' (first | exact Sub.nil | refine Sub.val rfl (by first | with_reducible rfl | (congr 1; omega)) ?_ | refine Sub.same rfl ?_))
    · omega
    · omega
  · obtain rfl : k = ws.length := by omega
    repeat' (first
     |(refine oLA ?_;first
     |refine LA_pass rfl ?_|(refine wOpB ?_;try dsimp only [Int.reduceToNat, Int.reducePow])|refine wOp ?_|(refine wOpD ?_;try dsimp only [Int.reduceToNat, Int.toNat_natCast])|(refine LA_cmp rfl rfl rfl rfl (fun hc => ?_) (fun hc => ?_)<;>dsimp only [cmpP] at hc)|(refine LA_nil (hK [] _ (LX_nil ?_));clear hK K)|(refine LA_nil (hK _ ?_);clear hK K))
     |(refine oCX ?_;first
     |refine wCX ?_|(refine wCR ?_;intro K hK))
     |(refine oPX ?_;first
     |refine wPX ?_)
     |(refine oLX ?_;first
     |refine LX_nil ?_))
    exact PX_retE rfl rfl (Ext.refl _) rfl
theorem or64 (a b : Nat) (ha : a < 18446744073709551616) (hb : b < 18446744073709551616) : bits .or .u64 (a : Int) (b : Int) = ((a ||| b : Nat) : Int) := by
  have hx : a ||| b < 2 ^ 64 := Nat.or_lt_two_pow (by omega) (by omega)
  have h1 : (BitVec.ofInt 64 (a : Int)).toNat = a := by
    rw [BitVec.ofInt_natCast, BitVec.toNat_ofNat]; exact Nat.mod_eq_of_lt (by omega)
  have h2 : (BitVec.ofInt 64 (b : Int)).toNat = b := by
    rw [BitVec.ofInt_natCast, BitVec.toNat_ofNat]; exact Nat.mod_eq_of_lt (by omega)
  show IntKind.u64.wrap ((BitVec.ofInt 64 (a : Int) ||| BitVec.ofInt 64 (b : Int)).toNat : Int) = _
  rw [BitVec.toNat_or, h1, h2, IntKind.wrap_u64]
  omega
theorem wof_c (w : World) (v : Value) (xs : List Int) (h : SlI .u16 w v xs) (hl : Low xs) : Fc Tryd.prog 66 #[v] w (Ret w (.pred (ownI w.heap.size 66 .u64 (wordsOf (memb xs))))) := by
  have hlen := h.len
  refine Fc.of (args := [_]) Tryd.func66 rfl rfl Tryd.ntmps66 (Nat.le_of_ble_eq_true rfl) ?_
  repeat' (first
   |(refine oLA ?_;first
   |refine LA_pass rfl ?_
   |refine LA_makeI (n := 1024) rfl u64_el rfl rfl (by decide) (by decide) ?_|(refine wOpB ?_;try dsimp only [Int.reduceToNat, Int.reducePow])|refine wOp ?_|(refine wOpD ?_;try dsimp only [Int.reduceToNat, Int.toNat_natCast])|(refine LA_cmp rfl rfl rfl rfl (fun hc => ?_) (fun hc => ?_)<;>dsimp only [cmpP] at hc)|(refine LA_nil (hK [] _ (LX_nil ?_));clear hK K)|(refine LA_nil (hK _ ?_);clear hK K))
   |(refine oCX ?_;first
   |refine wCX ?_|(refine wCR ?_;intro K hK))
   |(refine oPX ?_;first
   |refine wPX ?_)
   |(refine oLX ?_;first
   |refine LX_nil ?_))
  refine CX_pick 3 rfl (fun v3 w3 e3 h3 => ?_)
  have h3 : OwnI w.heap.size 66 .u64 w3 v3 (List.replicate 1024 0) := h3
  refine CX_loopV (ι := Nat × List Int) (fun i => [(3, .val v3), (7, .val v), (8, .val (.int .i64 xs.length)), (9, .val (.int .i64 i.1))]) (fun i w' => Ext w w' ∧ i.1 ≤ xs.length ∧ i.2.length = 1024 ∧ Lw i.2 ∧ (∀ j, j < 65536 → wbit i.2 j = memb (xs.take i.1) j) ∧ OwnI w.heap.size 66 .u64 w' v3 i.2)
    (fun i => xs.length - i.1) (fun w2 e2 => ⟨(0, List.replicate 1024 0), ⟨e3.trans e2, Nat.zero_le _, List.length_replicate, Lw_zero _, fun j _ => by rw [wbit_zero]; simp [memb], h3.ext e2⟩, (by repeat' (first | exact Sub.nil | refine Sub.val rfl (by first | with_reducible rfl | (congr 1; omega)) ?_ | refine Sub.same rfl ?_))⟩) ?_
  rintro ⟨k, ws⟩ w1 ⟨he, hk, hwl, hlw, hbit, ho⟩
  dsimp only at hk hwl hlw hbit ho ⊢
  have h1 := h.ext he
  by_cases hkl : k < xs.length
  · have hx : 0 ≤ xs.getD k 0 ∧ xs.getD k 0 < 65536 := by rw [getD_eq hkl]; exact hl _ (List.getElem_mem hkl)
    obtain ⟨x, hxx⟩ := Int.eq_ofNat_of_zero_le hx.1
    obtain ⟨gb, cap, cur, rfl, hgb, hgc, hgn, hgm, hgs, hgt⟩ := ho.row (by omega)
    have hra := row_at hgt (i := 0 + x / 64 * 1) (by omega)
    obtain ⟨e1, e2⟩ := hlw.at (x / 64)
    have hp : (2 : Nat) ^ (x % 64) < 18446744073709551616 := by
      have : (2 : Nat) ^ (x % 64) < 2 ^ 64 := Nat.pow_lt_pow_right (by decide) (by omega)
      omega
    have ex : xs.getD k 0 = (x : Int) := hxx
    have hsh : IntKind.u64.wrap (1 * 2 ^ (xs.getD k 0 % 64).toNat) = ((2 ^ (x % 64) : Nat) : Int) := by
      rw [show (xs.getD k 0 % 64).toNat = x % 64 by omega, IntKind.wrap_u64, Int.one_mul]
      obtain ⟨p, hpd⟩ : ∃ p, p = 2 ^ (x % 64) := ⟨_, rfl⟩
      have h2 : ((2 : Int) ^ (x % 64)) = (p : Int) := by rw [hpd]; simp
      rw [h2]
      rw [← hpd] at hp ⊢
      omega
    have hor : bits .or .u64 (ws.getD (0 + x / 64 * 1) 0) ((2 ^ (x % 64) : Nat) : Int) = ((wd ws (x / 64) ||| 2 ^ (x % 64) : Nat) : Int) := by
      rw [show 0 + x / 64 * 1 = x / 64 by omega, e1]; exact or64 _ _ e2 hp
    have hor64 : wd ws (x / 64) ||| 2 ^ (x % 64) < 18446744073709551616 := Nat.or_lt_two_pow (n := 64) (by omega) (by omega)
    repeat' (first
     |(refine oLA ?_;first
     |refine LA_pass rfl ?_
     |(refine LA_indexS (s := 1) rfl rfl (fun _ => rfl) rfl rfl (by omega) (by omega) ?_; rw [show (xs.getD k 0 / 64).toNat = x / 64 by omega])
     |refine LA_loadB rfl (fun _ => rfl) rfl hgc hra ?_
     |(show LA _ _ _ _ (⟨_, .binOp .shl _ _ _ _, _, _, _, _⟩ :: _) _; refine LA_shl rfl rfl rfl (by omega) (by dsimp only [IntKind.bits]; omega) ?_; rw [hsh])
     |(refine LA_bits (.inr (.inl rfl)) rfl rfl rfl ?_; rw [hor])
     |(refine LA_stop (hK _ _ (LX_store1 (o := 0 + x / 64 * 1) rfl rfl rfl hgc (fun _ => rfl) (by omega) rfl rfl (fun w4 e4 => ?_))); clear hK K; dsimp only [vals]; refine LX_la (by kernel_rfl) (fun K hK => ?_))|(refine wOpB ?_;try dsimp only [Int.reduceToNat, Int.reducePow])|refine wOp ?_|(refine wOpD ?_;try dsimp only [Int.reduceToNat, Int.toNat_natCast])|(refine LA_cmp rfl rfl rfl rfl (fun hc => ?_) (fun hc => ?_)<;>dsimp only [cmpP] at hc)|(refine LA_nil (hK [] _ (LX_nil ?_));clear hK K)|(refine LA_nil (hK _ ?_);clear hK K))
     |(refine oCX ?_;first
     |refine wCX ?_|(refine wCR ?_;intro K hK))
     |(refine oPX ?_;first
     |refine wPX ?_)
     |(refine oLX ?_;first
     |refine LX_nil ?_))
    refine PX_rndV (k + 1, ws.set (0 + x / 64 * 1) ((wd ws (x / 64) ||| 2 ^ (x % 64) : Nat) : Int)) (fun w5 e5 => ⟨((he.trans e4).setRow hgb _).trans e5, ?_, ?_, ?_, ?_, ?_⟩) ?_ (by repeat' (first | exact Sub.nil | refine Sub.val rfl (by first | with_reducible rfl | (congr 1; omega)) ?_ | refine Sub.same rfl ?_))
    · dsimp only; omega
    · dsimp only; simp [hwl]
    · exact hlw.set _ hor64
    · intro j hj
      dsimp only
      rw [show 0 + x / 64 * 1 = x / 64 by omega, wbit_or (by omega), hbit j hj, List.take_succ_eq_append_getElem hkl]
      simp only [memb, List.mem_append, List.mem_singleton, ← getD_eq hkl, ex]
      by_cases hm : (j : Int) ∈ xs.take k
      · simp [hm]
      · by_cases e : j = x
        · subst e; simp
        · rw [decide_eq_false hm, decide_eq_false e, decide_eq_false (fun h => by rcases h with h | h; exact hm h; omega)]; rfl
    · have hh := OwnI.set hgb (e4.block hgc) hgn hgm hgs hgt (0 + x / 64 * 1) (by omega) ((wd ws (x / 64) ||| 2 ^ (x % 64) : Nat) : Int)
      dsimp only
      exact OwnI.ext hh e5
    · dsimp only; omega
  · obtain rfl : k = xs.length := by omega
    repeat' (first
     |(refine oLA ?_;first
     |refine LA_pass rfl ?_|(refine wOpB ?_;try dsimp only [Int.reduceToNat, Int.reducePow])|refine wOp ?_|(refine wOpD ?_;try dsimp only [Int.reduceToNat, Int.toNat_natCast])|(refine LA_cmp rfl rfl rfl rfl (fun hc => ?_) (fun hc => ?_)<;>dsimp only [cmpP] at hc)|(refine LA_nil (hK [] _ (LX_nil ?_));clear hK K)|(refine LA_nil (hK _ ?_);clear hK K))
     |(refine oCX ?_;first
     |refine wCX ?_|(refine wCR ?_;intro K hK))
     |(refine oPX ?_;first
     |refine wPX ?_)
     |(refine oLX ?_;first
     |refine LX_nil ?_))
    refine PX_retP rfl rfl he (fun u w2 e2 hu => ?_)
    obtain rfl : u = _ := hu
    rw [List.take_length] at hbit
    have hh := ho.ext e2
    rwa [words_of hlw hwl, wordsOf_congr hbit] at hh
end Go.Proofs.YtjiacignpmabcaaDoor
