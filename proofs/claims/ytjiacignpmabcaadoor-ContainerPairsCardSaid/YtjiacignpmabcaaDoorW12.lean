import Derived.Test.YtjiacignpmabcaaDoorW11
set_option linter.unusedSimpArgs false
set_option linter.unusedVariables false
set_option maxRecDepth 3000
namespace Go.Proofs.YtjiacignpmabcaaDoor
open Go.LA Go.ArrP Go.RowKit
theorem wordsOf_zero : wordsOf (fun _ => false) = List.replicate 1024 0 := by
  have h := words_of (Lw_zero 1024) List.length_replicate
  rw [h]
  exact wordsOf_congr fun i _ => by rw [wbit_zero]
theorem wordsOf_add (p : Nat → Bool) (k : Nat) (hk : k < 65536) (hp : p k = true) : wd (wordsOf (fun j => decide (j < k) && p j)) (k / 64) + 2 ^ (k % 64) < 18446744073709551616 ∧
    (wordsOf (fun j => decide (j < k) && p j)).set (k / 64) ((wd (wordsOf (fun j => decide (j < k) && p j)) (k / 64) + 2 ^ (k % 64) : Nat) : Int) = wordsOf (fun j => decide (j < k + 1) && p j) := by
  obtain ⟨q, hq⟩ : ∃ q : Nat → Bool, q = fun j => decide (j < k) && p j := ⟨_, rfl⟩
  rw [← hq]
  have hl := (wordsOf_lw q).at (k / 64)
  have hbit : ∀ b, b < 64 → (wd (wordsOf q) (k / 64)).testBit b = q (64 * (k / 64) + b) := fun b hb => by
    have := wordsOf_bit q (i := 64 * (k / 64) + b) (by omega)
    unfold wbit at this
    rwa [show (64 * (k / 64) + b) / 64 = k / 64 by omega, show (64 * (k / 64) + b) % 64 = b by omega] at this
  have hlt : wd (wordsOf q) (k / 64) < 2 ^ (k % 64) := by
    refine Nat.lt_pow_two_of_testBit _ fun b hb => ?_
    by_cases h : b < 64
    · rw [hbit b h, hq]; simp; omega
    · exact Nat.testBit_lt_two_pow (Nat.lt_of_lt_of_le hl.2 (Nat.pow_le_pow_right (n := 2) (by decide) (by omega : 64 ≤ b)))
  have hor : wd (wordsOf q) (k / 64) + 2 ^ (k % 64) = wd (wordsOf q) (k / 64) ||| 2 ^ (k % 64) := by
    have := Nat.two_pow_add_eq_or_of_lt hlt 1
    rw [Nat.mul_one] at this
    rw [Nat.add_comm, this, Nat.or_comm]
  have h2 : 2 ^ (k % 64) < 2 ^ 64 := Nat.pow_lt_pow_right (by decide) (by omega)
  have hlt64 : wd (wordsOf q) (k / 64) ||| 2 ^ (k % 64) < 2 ^ 64 := Nat.or_lt_two_pow hl.2 h2
  rw [hor]
  refine ⟨hlt64, words_ext ((wordsOf_lw q).set _ hlt64) (wordsOf_lw _) (by rw [List.length_set, wordsOf_len, wordsOf_len]) fun i hi => ?_⟩
  rw [List.length_set, wordsOf_len] at hi
  rw [wbit_or (by rw [wordsOf_len]; omega), wordsOf_bit _ (by omega), wordsOf_bit _ (by omega), hq]
  by_cases e : i = k
  · subst e; simp [hp]
  · rw [decide_eq_false e, Bool.or_false, show decide (i < k + 1) = decide (i < k) by rw [decide_eq_decide]; omega]
theorem shl_one (k : Nat) (hk : k < 64) : IntKind.u64.wrap ((1 : Int) * 2 ^ k) = ((2 ^ k : Nat) : Int) := by
  have h2 : 2 ^ k < 2 ^ 64 := Nat.pow_lt_pow_right (by decide) hk
  rw [Int.one_mul, IntKind.wrap_u64]
  have h3 : ((2 : Int) ^ k) = ((2 ^ k : Nat) : Int) := by rw [Int.natCast_pow]; rfl
  rw [h3]
  obtain ⟨m, hm⟩ : ∃ m, m = 2 ^ k := ⟨_, rfl⟩
  rw [← hm] at h2 ⊢
  omega
theorem rwords_c (w : World) (v : Value) (base : Nat) (p : Nat → Bool) (h : MkI base tM w v p) : Fc Tryd.prog 18 #[v] w (Ret w (.pred (ownI w.heap.size 66 .u64 (wordsOf p)))) := by
  obtain ⟨b, rfl, -, hb⟩ := h
  refine Fc.of (args := [_]) Tryd.func18 rfl rfl Tryd.ntmps18 (Nat.le_of_ble_eq_true rfl) ?_
  repeat' (first
   |(refine oLA ?_;first
   |refine LA_pass rfl ?_
   |refine LA_makeI (n := 1024) rfl u64_el rfl rfl (by decide) (by decide) ?_|(refine wOpB ?_;try dsimp only [Int.reduceToNat, Int.reducePow])|refine wOp ?_|(refine wOpD ?_;try dsimp only [Int.reduceToNat, Int.toNat_natCast])|(refine LA_cmp rfl rfl rfl rfl (fun hc => ?_) (fun hc => ?_)<;>dsimp only [cmpP] at hc)|(refine LA_nil (hK [] _ (LX_nil ?_));clear hK K)|(refine LA_nil (hK _ ?_);clear hK K))
   |(refine oCX ?_;first
   |refine wCX ?_|(refine wCR ?_;intro K hK))
   |(refine oPX ?_;first
   |refine wPX ?_)
   |(refine oLX ?_;first
   |refine LX_nil ?_))
  refine CX_pick 3 rfl (fun v3 w3 e3 h3 => ?_)
  have h3 : OwnI w.heap.size 66 .u64 w3 v3 (List.replicate 1024 0) := h3
  refine CX_loopV (ι := Nat) (fun k => [(0, .val (.pointer (some ⟨b, 0, none⟩))), (3, .val v3), (4, .val (.int .i64 k))]) (fun k w' => Ext w w' ∧ k ≤ 65536 ∧ OwnI w.heap.size 66 .u64 w' v3 (wordsOf (fun j => decide (j < k) && p j))) (fun k => 65536 - k) (fun w2 e2 => ⟨0, ⟨e3.trans e2, Nat.zero_le _, ?_⟩, (by repeat' (first | exact Sub.nil | refine Sub.val rfl (by first | with_reducible rfl | (congr 1; omega)) ?_ | refine Sub.same rfl ?_))⟩) ?_
  · rw [wordsOf_congr (q := fun _ => false) (fun i _ => by simp), wordsOf_zero]; exact h3.ext e2
  rintro k w1 ⟨he, hk, ho⟩
  have hb1 := he.block hb
  by_cases hkl : k < 65536
  · have hget : (marks p)[0 + k * 1]? = some (.bool (p k)) := by rw [show 0 + k * 1 = k by omega]; exact marks_get p hkl
    cases hp : p k
    · rw [hp] at hget
      repeat' (first
       |(refine oLA ?_;first
       |refine LA_pass rfl ?_
       |refine LA_nilCheck rfl rfl ?_
       |refine LA_indexArr (n := 65536) (s := 1) rfl rfl (fun _ => rfl) rfl rfl k rfl hkl ?_
       |refine LA_loadB rfl (fun _ => rfl) rfl hb1 hget ?_|(refine wOpB ?_;try dsimp only [Int.reduceToNat, Int.reducePow])|refine wOp ?_|(refine wOpD ?_;try dsimp only [Int.reduceToNat, Int.toNat_natCast])|(refine LA_cmp rfl rfl rfl rfl (fun hc => ?_) (fun hc => ?_)<;>dsimp only [cmpP] at hc)|(refine LA_nil (hK [] _ (LX_nil ?_));clear hK K)|(refine LA_nil (hK _ ?_);clear hK K))
       |(refine oCX ?_;first
       |refine wCX ?_|(refine wCR ?_;intro K hK))
       |(refine oPX ?_;first
       |refine wPX ?_)
       |(refine oLX ?_;first
       |refine LX_nil ?_))
      refine PX_rndV (k + 1) (fun w5 e5 => ⟨he.trans e5, by omega, ?_⟩) (by omega) (by repeat' (first | exact Sub.nil | refine Sub.val rfl (by first | with_reducible rfl | (congr 1; omega)) ?_ | refine Sub.same rfl ?_))
      have := ho.ext e5
      rwa [wordsOf_congr (q := fun j => decide (j < k + 1) && p j) (fun i _ => by
        by_cases e : i = k
        · subst e; simp [hp]
        · rw [show decide (i < k + 1) = decide (i < k) by rw [decide_eq_decide]; omega])] at this
    · rw [hp] at hget
      obtain ⟨a1, a2⟩ := wordsOf_add p k hkl hp
      obtain ⟨ws, hws⟩ : ∃ ws, ws = wordsOf (fun j => decide (j < k) && p j) := ⟨_, rfl⟩
      have hwl : ws.length = 1024 := by rw [hws, wordsOf_len]
      have hlw : Lw ws := hws ▸ wordsOf_lw _
      rw [← hws] at ho a1 a2
      have hshl := shl_one (k % 64) (by omega)
      obtain ⟨m, hm⟩ : ∃ m, m = 2 ^ (k % 64) := ⟨_, rfl⟩
      rw [← hm] at a1 a2 hshl
      obtain ⟨gb, cap, cur, rfl, hgb, hgc, hgn, hgm, hgs, hgt⟩ := ho.row (by omega)
      obtain ⟨e1, e2⟩ := hlw.at (k / 64)
      obtain ⟨q, hq⟩ : ∃ q, q = k / 64 := ⟨_, rfl⟩
      have hqi : (k : Int) / 64 = (q : Int) := by omega
      have hmi : (k : Int) % 64 = ((k % 64 : Nat) : Int) := by omega
      have hra := row_at hgt (i := 0 + q * 1) (by omega)
      rw [← hq] at a1 a2 e1 e2
      rw [show 0 + q * 1 = q by omega, e1] at hra
      repeat' (first
       |(refine oLA ?_;first
       |refine LA_pass rfl ?_
       |refine LA_nilCheck rfl rfl ?_
       |refine LA_indexArr (n := 65536) (s := 1) rfl rfl (fun _ => rfl) rfl rfl k rfl hkl ?_
       |refine LA_loadB rfl (fun _ => rfl) rfl hb1 hget ?_
       |(refine LA_quo rfl rfl rfl (by omega) (by omega) (by dsimp only [fits]; omega) ?_; rw [hqi])
       |(refine LA_rem rfl rfl rfl (by omega) (by omega) (by dsimp only [fits]; omega) ?_; rw [hmi])
       |(refine LA_indexS (s := 1) rfl rfl (fun _ => rfl) rfl rfl (by omega) (by omega) ?_; rw [Int.toNat_natCast])
       |refine LA_loadB rfl (fun _ => rfl) rfl hgc (by rw [show 0 + q * 1 = q by omega]; exact hra) ?_
       |(refine LA_shl rfl rfl rfl (by omega) (by dsimp only [IntKind.bits]; omega) ?_; rw [Int.toNat_natCast, hshl])
       |(refine LA_stop (hK _ _ (LX_store1 (o := 0 + q * 1) rfl rfl rfl hgc (fun _ => rfl) (by omega) rfl rfl (fun w4 e4 => ?_))); clear hK K; dsimp only [vals]; refine LX_la (by kernel_rfl) (fun K hK => ?_))|(refine wOpB ?_;try dsimp only [Int.reduceToNat, Int.reducePow])|refine wOp ?_|(refine wOpD ?_;try dsimp only [Int.reduceToNat, Int.toNat_natCast])|(refine LA_cmp rfl rfl rfl rfl (fun hc => ?_) (fun hc => ?_)<;>dsimp only [cmpP] at hc)|(refine LA_nil (hK [] _ (LX_nil ?_));clear hK K)|(refine LA_nil (hK _ ?_);clear hK K))
       |(refine oCX ?_;first
       |refine wCX ?_|(refine wCR ?_;intro K hK))
       |(refine oPX ?_;first
       |refine wPX ?_)
       |(refine oLX ?_;first
       |refine LX_nil ?_))
      refine PX_rndV (k + 1) (fun w5 e5 => ⟨((he.trans e4).setRow hgb _).trans e5, by omega, ?_⟩) (by omega) (by repeat' (first | exact Sub.nil | refine Sub.val rfl (by first | with_reducible rfl | (congr 1; omega)) ?_ | refine Sub.same rfl ?_))
      have hh := OwnI.set hgb (e4.block hgc) hgn hgm hgs hgt (0 + q * 1) (by omega) ((wd ws q : Int) + (m : Int))
      rw [← a2]
      have hz : 0 + q * 1 = q := by omega
      rw [hz] at hh
      rw [hz] at e5
      exact OwnI.ext hh e5
  · obtain rfl : k = 65536 := by omega
    repeat' (first
     |(refine oLA ?_;first
     |refine LA_pass rfl ?_|(refine wOpB ?_;try dsimp only [Int.reduceToNat, Int.reducePow])|refine wOp ?_|(refine wOpD ?_;try dsimp only [Int.reduceToNat, Int.toNat_natCast])|(refine LA_cmp rfl rfl rfl rfl (fun hc => ?_) (fun hc => ?_)<;>dsimp only [cmpP] at hc)|(refine LA_nil (hK [] _ (LX_nil ?_));clear hK K)|(refine LA_nil (hK _ ?_);clear hK K))
     |(refine oCX ?_;first
     |refine wCX ?_|(refine wCR ?_;intro K hK))
     |(refine oPX ?_;first
     |refine wPX ?_)
     |(refine oLX ?_;first
     |refine LX_nil ?_))
    refine PX_retP rfl rfl he (fun u w5 e5 hu => ?_)
    obtain rfl : u = _ := hu
    have := ho.ext e5
    rwa [wordsOf_congr (q := p) (fun i hi => by simp [hi])] at this
def flipM (p : Nat → Bool) (lo hi : Int) (i : Nat) : Bool := !(p i == (decide (lo ≤ i) && decide ((i : Int) < hi)))
set_option maxHeartbeats 4000000 in
theorem rflip_c (w : World) (v : Value) (base : Nat) (p : Nat → Bool) (lo hi : Int) (h : MkI base tM w v p) : Fc Tryd.prog 29 #[v, .int .i64 lo, .int .i64 hi] w (Ret w (.pred (mkI w.heap.size tM (flipM p lo hi)))) := by
  obtain ⟨ca, rfl, -, hca⟩ := h
  have hla := (Array.getElem?_eq_some_iff.1 hca).1
  refine Fc.of (args := [_, _, _]) Tryd.func29 rfl rfl Tryd.ntmps29 (Nat.le_of_ble_eq_true rfl) ?_
  repeat' (first
   |(refine oLA ?_;first
   |refine LA_pass rfl ?_
   |refine LA_build0 rfl build_mk ?_
   |refine LA_box rfl rfl ?_|(refine wOpB ?_;try dsimp only [Int.reduceToNat, Int.reducePow])|refine wOp ?_|(refine wOpD ?_;try dsimp only [Int.reduceToNat, Int.toNat_natCast])|(refine LA_cmp rfl rfl rfl rfl (fun hc => ?_) (fun hc => ?_)<;>dsimp only [cmpP] at hc)|(refine LA_nil (hK [] _ (LX_nil ?_));clear hK K)|(refine LA_nil (hK _ ?_);clear hK K))
   |(refine oCX ?_;first
   |refine wCX ?_|(refine wCR ?_;intro K hK))
   |(refine oPX ?_;first
   |refine wPX ?_)
   |(refine oLX ?_;first
   |refine LX_nil ?_))
  refine CX_pick 7 rfl (fun v7 w7 e7 h7 => ?_)
  obtain ⟨c, hc0, rfl, hcc⟩ := h7
  refine CX_loopV (ι := Nat) (fun k => [(0, .val (.pointer (some ⟨ca, 0, none⟩))), (1, .val (.int .i64 lo)), (2, .val (.int .i64 hi)), (7, .val (.pointer (some ⟨c, 0, none⟩))), (8, .val (.int .i64 k))]) (fun k w' => Ext w w' ∧ k ≤ 65536 ∧ w'.heap[c]? = some (.cells (marks (fun i => decide (i < k) && flipM p lo hi i)) tM (0, 0))) (fun k => 65536 - k) (fun w2 e2 => ⟨0, ⟨e7.trans e2, Nat.zero_le _, ?_⟩, (by repeat' (first | exact Sub.nil | refine Sub.val rfl (by first | with_reducible rfl | (congr 1; omega)) ?_ | refine Sub.same rfl ?_))⟩) ?_
  · rw [marks_congr (q := fun _ => false) (fun i _ => by simp)]; exact e2.block hcc
  rintro k w1 ⟨he, hk, hbl⟩
  have hca1 := he.block hca
  by_cases hkl : k < 65536
  · have hget : (marks p)[0 + k * 1]? = some (.bool (p k)) := by rw [show 0 + k * 1 = k by omega]; exact marks_get p hkl
    have fin : ∀ (r : Bool) (w5 w6 : World), r = flipM p lo hi k → Ext w1 w5 → Ext (w5.setRow c ((marks (fun i => decide (i < k) && flipM p lo hi i)).setIfInBounds (0 + k * 1) (.bool r))) w6 → w6.heap[c]? = some (.cells (marks (fun i => decide (i < k + 1) && flipM p lo hi i)) tM (0, 0)) := fun r w5 w6 hr e5 e6 => by
      have h6 := e6.block (setRow_heap w5 c _ _ _ (0, 0) (e5.block hbl))
      rw [marks_set _ _ (by omega), marks_congr (q := fun i => decide (i < k + 1) && flipM p lo hi i) (fun j hj => ?_)] at h6
      · exact h6
      · by_cases e : j = 0 + k * 1
        · rw [if_pos e, hr, show j = k by omega]; simp
        · rw [if_neg e, show decide (j < k + 1) = decide (j < k) by rw [decide_eq_decide]; omega]
    by_cases h1 : lo ≤ k
    all_goals by_cases h2 : (k : Int) < hi
    all_goals cases hp : p k
    all_goals rw [hp] at hget
    all_goals
      repeat' (first
       |(refine oLA ?_;first
       |refine LA_pass rfl ?_
       |refine LA_nilCheck rfl rfl ?_
       |refine LA_indexArr (n := 65536) (s := 1) rfl rfl (fun _ => rfl) rfl rfl k rfl hkl ?_
       |refine LA_loadB rfl (fun _ => rfl) rfl hca1 hget ?_
       |(refine LA_stop (hK _ _ rfl (LX_store1 rfl rfl rfl hbl (fun _ => rfl) (by rw [marks_size]; omega) rfl rfl (fun w4 e4 => ?_))); clear hK K; dsimp only [vals]; refine LX_la (by kernel_rfl) (fun K hK => ?_))|(refine wOpB ?_;try dsimp only [Int.reduceToNat, Int.reducePow])|refine wOp ?_|(refine wOpD ?_;try dsimp only [Int.reduceToNat, Int.toNat_natCast])|(refine LA_cmp rfl rfl rfl rfl (fun hc => ?_) (fun hc => ?_)<;>dsimp only [cmpP] at hc)|(refine LA_nil (hK [] _ (LX_nil ?_));clear hK K)|(refine LA_nil (hK _ ?_);clear hK K))
       |(refine oCX ?_;first
       |refine CX_regionS 18 (by decide) (by kernel_rfl) (by kernel_rfl) (fun K hK => ?_)
       |refine wCX ?_|(refine wCR ?_;intro K hK))
       |(refine oPX ?_;first
       |refine wPX ?_)
       |(refine oLX ?_;first
       |refine LX_nil ?_))
    all_goals
      refine PX_rndV (k + 1) (fun w6 e6 => ⟨((he.trans e4).setRow hc0 _).trans e6, by omega, fin _ _ _ ?_ e4 e6⟩) ?_ (by repeat' (first | exact Sub.nil | refine Sub.val rfl (by first | with_reducible rfl | (congr 1; omega)) ?_ | refine Sub.same rfl ?_))
      · unfold flipM; rw [hp]; simp [h1, h2]
      · omega
  · obtain rfl : k = 65536 := by omega
    repeat' (first
     |(refine oLA ?_;first
     |refine LA_pass rfl ?_|(refine wOpB ?_;try dsimp only [Int.reduceToNat, Int.reducePow])|refine wOp ?_|(refine wOpD ?_;try dsimp only [Int.reduceToNat, Int.toNat_natCast])|(refine LA_cmp rfl rfl rfl rfl (fun hc => ?_) (fun hc => ?_)<;>dsimp only [cmpP] at hc)|(refine LA_nil (hK [] _ (LX_nil ?_));clear hK K)|(refine LA_nil (hK _ ?_);clear hK K))
     |(refine oCX ?_;first
     |refine wCX ?_|(refine wCR ?_;intro K hK))
     |(refine oPX ?_;first
     |refine wPX ?_)
     |(refine oLX ?_;first
     |refine LX_nil ?_))
    refine PX_retP rfl rfl he (fun u w5 e5 hu => ?_)
    obtain rfl : u = _ := hu
    rw [marks_congr (q := flipM p lo hi) (fun j hj => by simp [hj])] at hbl
    exact ⟨c, rfl, hc0, e5.block hbl⟩

end Go.Proofs.YtjiacignpmabcaaDoor
