import Derived.Test.YtjiacignpmabcaaDoorW9
set_option linter.unusedSimpArgs false
set_option linter.unusedVariables false
set_option maxRecDepth 3000
namespace Go.Proofs.YtjiacignpmabcaaDoor
open Go.LA Go.ArrP Go.RowKit

theorem ints_one {k : IntKind} {xs : List Int} : ∀ u ∈ xs.map (Value.int k), u.oneCell' = true := fun u hu => by
  simp only [List.mem_map] at hu
  obtain ⟨x, _, rfl⟩ := hu
  rfl
/-- The words, 1024 of them. -/
def padS (ws : List Int) : List Int := ws.take 1024 ++ List.replicate (1024 - ws.length) 0
theorem padS_len (ws : List Int) : (padS ws).length = 1024 := by simp [padS]; omega
theorem padS_lw {ws : List Int} (h : Lw ws) : Lw (padS ws) := fun x hx => by
  rcases List.mem_append.1 hx with h1 | h1
  · exact h x (List.mem_of_mem_take h1)
  · exact Lw_zero _ x h1
theorem padS_bit (ws : List Int) {i : Nat} (hi : i < 65536) : wbit (padS ws) i = wbit ws i := by
  unfold wbit wd
  congr 2
  unfold padS
  by_cases h : i / 64 < ws.length
  · rw [List.getD, List.getElem?_append_left (by rw [List.length_take]; omega), List.getElem?_take, if_pos (by omega)]; rfl
  · rw [List.getD, List.getElem?_append_right (by rw [List.length_take]; omega), List.getD, List.getElem?_eq_none (by omega : ws.length ≤ i / 64), List.getElem?_replicate]
    split <;> rfl
def flipP (ws : List Int) (lo hi : Int) (i : Nat) : Bool := !(wbit ws i == (decide (lo ≤ i) && decide ((i : Int) < hi)))
theorem mask_int (d s : Nat) : (18446744073709551615 / 2 ^ (64 - d) * 2 ^ s : Int) % 18446744073709551616 = ((18446744073709551615 / 2 ^ (64 - d) * 2 ^ s % 18446744073709551616 : Nat) : Int) := by
  rw [Int.natCast_emod, Int.natCast_mul, Int.natCast_ediv, Int.natCast_pow, Int.natCast_pow]; rfl
theorem sub_all {base e : Nat} {k : IntKind} {w : World} {v : Value} (h : OwnI base e k w v (List.replicate 1024 0)) : subS v 0 1024 1 = v := by
  obtain ⟨gb, cap, cur, hv, hgb, hgc, hgn, hgm, hgs, hgt⟩ := h.row (by rw [List.length_replicate]; decide)
  rw [List.length_replicate] at hv hgn
  rw [hv, sub_lit (by omega), Nat.zero_mul, Nat.sub_zero, Nat.sub_zero]
theorem SlI.c64 {k : IntKind} {w : World} {v : Value} {xs : List Int} (h : SlI k w v xs) : SlC w v xs.length 1 (xs.map (Value.int k)) := h
theorem wflip_c (w : World) (v : Value) (ws : List Int) (lo hi : Int) (h : SlI .u64 w v ws) (hl : Lw ws) (hlo : -9223372036854775808 ≤ lo ∧ lo < 9223372036854775808) (hhi : -9223372036854775808 ≤ hi ∧ hi < 9223372036854775808) :
    Fc Tryd.prog 40 #[v, .int .i64 lo, .int .i64 hi] w (Ret w (.pred (ownI w.heap.size 66 .u64 (wordsOf (flipP ws lo hi))))) := by
  have hlen := h.len
  refine Fc.of (args := [_, _, _]) Tryd.func40 rfl rfl Tryd.ntmps40 (Nat.le_of_ble_eq_true rfl) ?_
  repeat' (first
   |(refine oLA ?_;first
   |refine LA_pass rfl ?_
   |refine LA_makeI (n := 1024) rfl u64_el rfl rfl (by decide) (by decide) ?_
   |refine LA_max2 rfl rfl rfl ?_
   |refine LA_min2 rfl rfl rfl ?_
   |(refine oD 12 ?_; refine LA_stop (hK _ _ (LX_pick 7 rfl (fun v7 w3 e3 h3 => ?_))); clear hK K; have h3 : OwnI w.heap.size 66 .u64 w3 v7 (List.replicate 1024 0) := h3; have hw3 := h.ext e3; have hv7 : subS v7 0 (List.replicate 1024 (0 : Int)).length 1 = v7 := (by rw [List.length_replicate]; exact sub_all h3); refine LX_la (by kernel_rfl) (fun K hK => ?_))
   |(refine LA_stop (hK _ _ (LX_copy 0 rfl (by intro q h; cases h; decide) u64_el (by rw [hv7]; rfl) rfl h3 (SlI.c64 hw3) (Nat.zero_le _) (fun c hc => ints_one c (List.mem_of_mem_take hc)) (fun w4 w5 e4 ho5 hg5 => ?_))); clear hK K; dsimp only [vals]; refine LX_la (by kernel_rfl) (fun K hK => ?_))|(refine wOpB ?_;try dsimp only [Int.reduceToNat, Int.reducePow])|refine wOp ?_|(refine wOpD ?_;try dsimp only [Int.reduceToNat, Int.toNat_natCast])|(refine LA_cmp rfl rfl rfl rfl (fun hc => ?_) (fun hc => ?_)<;>dsimp only [cmpP] at hc)|(refine LA_nil (hK [] _ (LX_nil ?_));clear hK K)|(refine LA_nil (hK _ ?_);clear hK K))
   |(refine oCX ?_;first
   |refine wCX ?_|(refine wCR ?_;intro K hK))
   |(refine oPX ?_;first
   |refine wPX ?_)
   |(refine oLX ?_;first
   |refine LX_nil ?_))
  have x5 : Ext w w5 := (e3.trans e4).grown hg5 (fun q hq => (Own.lt h3 q hq).1)
  have o5 : OwnI w.heap.size 66 .u64 w5 v7 (padS ws) := by
    unfold OwnI
    rw [padS_len]
    have e : (List.map (Value.int .u64) (List.replicate 1024 (0 : Int))).take (0 * 1) ++ (List.map (Value.int .u64) ws).take (min ws.length ((List.replicate 1024 (0 : Int)).length - 0) * 1) ++ (List.map (Value.int .u64) (List.replicate 1024 (0 : Int))).drop ((0 + min ws.length ((List.replicate 1024 (0 : Int)).length - 0)) * 1) = (padS ws).map (Value.int .u64) := by
      rw [List.length_replicate, Nat.zero_mul, List.take_zero, List.nil_append, ← List.map_take, ← List.map_drop, ← List.map_append]
      unfold padS
      rw [List.drop_replicate, show min ws.length (1024 - 0) * 1 = min ws.length 1024 by omega, show 1024 - (0 + min ws.length (1024 - 0)) * 1 = 1024 - ws.length by omega]
      congr 2
      by_cases h : ws.length ≤ 1024
      · rw [Nat.min_eq_left h, List.take_of_length_le (Nat.le_refl _), List.take_of_length_le h]
      · rw [Nat.min_eq_right (by omega)]
    rw [e, List.length_replicate] at ho5; exact ho5
  obtain ⟨LO, hLO⟩ : ∃ LO : Nat, max lo 0 = LO := ⟨(max lo 0).toNat, by omega⟩
  obtain ⟨HI, hHI⟩ : ∃ HI : Int, min hi 65536 = HI := ⟨_, rfl⟩
  rw [hLO, hHI]
  have hLb : (LO : Int) < 9223372036854775808 := by omega
  have hHb : -9223372036854775808 ≤ HI ∧ HI ≤ 65536 := by omega
  refine CX_loopV (ι := Nat × List Int) (fun i => [(1, .val (.int .i64 LO)), (2, .val (.int .i64 HI)), (7, .val v7), (19, .val (.int .i64 i.1))]) (fun i w' => Ext w w' ∧ i.1 ≤ 1024 ∧ i.2.length = 1024 ∧ Lw i.2 ∧ (∀ j, j < 65536 → wbit i.2 j = if j < 64 * i.1 then flipP ws lo hi j else wbit ws j) ∧ OwnI w.heap.size 66 .u64 w' v7 i.2)
    (fun i => 1024 - i.1) (fun w2 e2 => ⟨(0, padS ws), ⟨x5.trans e2, Nat.zero_le _, padS_len ws, padS_lw hl, fun j hj => by rw [padS_bit ws hj]; simp, o5.ext e2⟩, (by repeat' (first | exact Sub.nil | refine Sub.val rfl (by first | with_reducible rfl | (congr 1; omega)) ?_ | refine Sub.same rfl ?_))⟩) ?_
  rintro ⟨k, l⟩ w1 ⟨he, hk, hwl, hlw, hbit, ho⟩
  dsimp only at hk hwl hlw hbit ho ⊢
  clear hLb
  by_cases hkl : k < 1024
  · have tail : ∀ j, j < 65536 → j / 64 ≠ k → wbit l j = if j < 64 * (k + 1) then flipP ws lo hi j else wbit ws j := fun j hj e => by
      rw [hbit j hj]
      by_cases h1 : j < 64 * k
      · rw [if_pos h1, if_pos (by omega)]
      · rw [if_neg h1, if_neg (by omega)]
    by_cases hfg : max (LO : Int) (64 * k) < min HI (64 * k + 64)
    · obtain ⟨d, s, hs, hd, hds, hbits⟩ : ∃ d s : Nat, max (LO : Int) (64 * k) - 64 * k = s ∧ min HI (64 * k + 64) - max (LO : Int) (64 * k) = d ∧ (0 < d ∧ d + s ≤ 64) ∧ ∀ b, b < 64 → ((decide (s ≤ b) && decide (b < s + d)) = (decide (lo ≤ ((64 * k + b : Nat) : Int)) && decide (((64 * k + b : Nat) : Int) < hi))) := by
        refine ⟨(min HI (64 * k + 64) - max (LO : Int) (64 * k)).toNat, (max (LO : Int) (64 * k) - 64 * k).toNat, by omega, by omega, by omega, fun b hb => ?_⟩
        congr 1
        · rw [decide_eq_decide]; omega
        · rw [decide_eq_decide]; omega
      obtain ⟨M, hM⟩ : ∃ M : Nat, M = 18446744073709551615 / 2 ^ (64 - d) * 2 ^ s % 18446744073709551616 := ⟨_, rfl⟩
      have hmask : ∀ b, M.testBit b = (decide (s ≤ b) && decide (b < s + d)) := fun b => by rw [hM]; exact mask_bit d s b hds.2
      have hMi : IntKind.u64.wrap (18446744073709551615 / 2 ^ (64 - (min HI (64 * (k : Int) + 64) - max (LO : Int) (64 * k))).toNat * 2 ^ (max (LO : Int) (64 * k) - 64 * k).toNat) = (M : Int) := by
        rw [hs, hd, hM, IntKind.wrap_u64, show (64 - (d : Int)).toNat = 64 - d by omega, Int.toNat_natCast]
        exact mask_int d s
      obtain ⟨gb, cap, cur, rfl, hgb, hgc, hgn, hgm, hgs, hgt⟩ := ho.row (by omega)
      have hra := row_at hgt (i := 0 + k * 1) (by omega)
      obtain ⟨e1, e2⟩ := hlw.at k
      rw [show 0 + k * 1 = k by omega, e1] at hra
      repeat' (first
       |(refine oLA ?_;first
       |refine LA_pass rfl ?_
       |refine LA_max2 rfl rfl rfl ?_
       |refine LA_min2 rfl rfl rfl ?_
       |(refine LA_indexS (s := 1) rfl rfl (fun _ => rfl) rfl rfl (by omega) (by omega) ?_; rw [Int.toNat_natCast])
       |refine LA_loadB rfl (fun _ => rfl) rfl hgc (by rw [show 0 + k * 1 = k by omega]; exact hra) ?_
       |(refine LA_bits (.inr (.inr (.inl rfl))) rfl rfl rfl ?_; rw [hMi, xor64])
       |(refine LA_stop (hK _ _ rfl (LX_store1 (o := 0 + k * 1) rfl rfl rfl hgc (fun _ => rfl) (by omega) rfl rfl (fun w4 e4 => ?_))); clear hK K; dsimp only [vals]; refine LX_la (by kernel_rfl) (fun K hK => ?_))|(refine wOpB ?_;try dsimp only [Int.reduceToNat, Int.reducePow])|refine wOp ?_|(refine wOpD ?_;try dsimp only [Int.reduceToNat, Int.toNat_natCast])|(refine LA_cmp rfl rfl rfl rfl (fun hc => ?_) (fun hc => ?_)<;>dsimp only [cmpP] at hc)|(refine LA_nil (hK [] _ (LX_nil ?_));clear hK K)|(refine LA_nil (hK _ ?_);clear hK K))
       |(refine oCX ?_;first
       |refine CX_regionS 16 (by decide) (by kernel_rfl) (by kernel_rfl) (fun K hK => ?_)
       |refine wCX ?_|(refine wCR ?_;intro K hK))
       |(refine oPX ?_;first
       |refine wPX ?_)
       |(refine oLX ?_;first
       |refine LX_nil ?_))
      refine PX_rndV (k + 1, l.set (0 + k * 1) ((gXor (wd l k) M : Nat) : Int)) (fun w5 e5 => ⟨((he.trans e4).setRow hgb _).trans e5, ?_, ?_, ?_, ?_, ?_⟩) ?_ (by repeat' (first | exact Sub.nil | refine Sub.val rfl (by first | with_reducible rfl | (congr 1; omega)) ?_ | refine Sub.same rfl ?_))
      · dsimp only; omega
      · dsimp only; simp [hwl]
      · exact hlw.set _ (BitVec.ofNat 64 (wd l k) ^^^ BitVec.ofNat 64 M).isLt
      · intro j hj
        dsimp only
        rw [show 0 + k * 1 = k by omega, wbit_setw (by omega)]
        by_cases e : j / 64 = k
        · have hb := hbit j hj
          rw [if_neg (by omega)] at hb
          rw [if_pos e, gXor_bit _ _ _ (by omega), if_pos (by omega), hmask, hbits _ (by omega), show 64 * k + j % 64 = j by omega]
          unfold flipP
          rw [← hb]
          unfold wbit; rw [e]
        · rw [if_neg e]; exact tail j hj e
      · have hh := OwnI.set hgb (e4.block hgc) hgn hgm hgs hgt (0 + k * 1) (by omega) ((gXor (wd l k) M : Nat) : Int)
        dsimp only
        exact OwnI.ext hh e5
      · dsimp only; omega
    · skip
      repeat' (first
       |(refine oLA ?_;first
       |refine LA_pass rfl ?_
       |refine LA_max2 rfl rfl rfl ?_
       |refine LA_min2 rfl rfl rfl ?_|(refine wOpB ?_;try dsimp only [Int.reduceToNat, Int.reducePow])|refine wOp ?_|(refine wOpD ?_;try dsimp only [Int.reduceToNat, Int.toNat_natCast])|(refine LA_cmp rfl rfl rfl rfl (fun hc => ?_) (fun hc => ?_)<;>dsimp only [cmpP] at hc)|(refine LA_nil (hK [] _ (LX_nil ?_));clear hK K)|(refine LA_nil (hK _ ?_);clear hK K))
       |(refine oCX ?_;first
       |refine wCX ?_|(refine wCR ?_;intro K hK))
       |(refine oPX ?_;first
       |refine wPX ?_)
       |(refine oLX ?_;first
       |refine LX_nil ?_))
      refine PX_rndV (k + 1, l) (fun w5 e5 => ⟨he.trans e5, ?_, hwl, hlw, ?_, ho.ext e5⟩) ?_ (by repeat' (first | exact Sub.nil | refine Sub.val rfl (by first | with_reducible rfl | (congr 1; omega)) ?_ | refine Sub.same rfl ?_))
      · dsimp only; omega
      · intro j hj
        dsimp only
        by_cases e : j / 64 = k
        · have hb := hbit j hj
          rw [if_neg (by omega)] at hb
          rw [hb, if_pos (by omega)]
          unfold flipP
          have : (decide (lo ≤ (j : Int)) && decide ((j : Int) < hi)) = false := by
            rw [Bool.and_eq_false_iff, decide_eq_false_iff_not, decide_eq_false_iff_not]; omega
          rw [this]; cases wbit ws j <;> rfl
        · exact tail j hj e
      · dsimp only; omega
  · obtain rfl : k = 1024 := by omega
    repeat' (first
     |(refine oLA ?_;first
     |refine LA_pass rfl ?_|(refine wOpB ?_;try dsimp only [Int.reduceToNat, Int.reducePow])|refine wOp ?_|(refine wOpD ?_;try dsimp only [Int.reduceToNat, Int.toNat_natCast])|(refine LA_cmp rfl rfl rfl rfl (fun hc => ?_) (fun hc => ?_)<;>dsimp only [cmpP] at hc)|(refine LA_nil (hK [] _ (LX_nil ?_));clear hK K)|(refine LA_nil (hK _ ?_);clear hK K))
     |(refine oCX ?_;first
     |refine wCX ?_|(refine wCR ?_;intro K hK))
     |(refine oPX ?_;first
     |refine wPX ?_)
     |(refine oLX ?_;first
     |refine LX_nil ?_))
    refine PX_retP rfl rfl he (fun u w2 e2 hu => ?_)
    obtain rfl : u = _ := hu
    have hh := ho.ext e2
    rwa [words_of hlw hwl, wordsOf_congr (q := flipP ws lo hi) (fun i hi => by rw [hbit i hi, if_pos (by omega)])] at hh
end Go.Proofs.YtjiacignpmabcaaDoor
