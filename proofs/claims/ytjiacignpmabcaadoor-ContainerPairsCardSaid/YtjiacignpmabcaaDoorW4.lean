import Derived.Test.YtjiacignpmabcaaDoorW3
set_option linter.unusedSimpArgs false
set_option linter.unusedVariables false
set_option maxRecDepth 3000
namespace Go.Proofs.YtjiacignpmabcaaDoor
open Go.LA Go.ArrP Go.RowKit

theorem u16_el : El Tryd.prog 22 29 (.int .u16 0) 1 2 := ⟨rfl, rfl, rfl, by decide⟩
theorem wlist_c (w : World) (v : Value) (ws : List Int) (h : SlI .u64 w v ws) (hl : Lw ws) (hT : Tab w) : Fc Tryd.prog 38 #[v] w (Ret w (.pred (ownI w.heap.size 29 .u16 (listS (wbit ws) (64 * min ws.length 1024))))) := by
  have hlen := h.len
  refine Fc.of (args := [_]) Tryd.func38 rfl rfl Tryd.ntmps38 (Nat.le_of_ble_eq_true rfl) ?_
  repeat' (first
   |(refine oLA ?_;first
   |refine LA_pass rfl ?_
   |refine LA_min2 rfl rfl rfl ?_|(refine wOpB ?_;try dsimp only [Int.reduceToNat, Int.reducePow])|refine wOp ?_|(refine wOpD ?_;try dsimp only [Int.reduceToNat, Int.toNat_natCast])|(refine LA_cmp rfl rfl rfl rfl (fun hc => ?_) (fun hc => ?_)<;>dsimp only [cmpP] at hc)|(refine LA_nil (hK [] _ (LX_nil ?_));clear hK K)|(refine LA_nil (hK _ ?_);clear hK K))
   |(refine oCX ?_;first
   |refine wCX ?_|(refine wCR ?_;intro K hK))
   |(refine oPX ?_;first
   |refine wPX ?_)
   |(refine oLX ?_;first
   |refine LX_nil ?_))
  refine CX_loopV (ι := Nat × Value) (fun i => [(0, .val v), (3, .val i.2), (8, .val (.int .i64 (min (ws.length : Int) 1024))), (9, .val (.int .i64 i.1))]) (fun i w' => Ext w w' ∧ i.1 ≤ min ws.length 1024 ∧ OwnI w.heap.size 29 .u16 w' i.2 (listS (wbit ws) (64 * i.1)))
    (fun i => min ws.length 1024 - i.1) (fun w2 e2 => ⟨(0, .slice none 0 0), ⟨e2, Nat.zero_le _, OwnI.nil⟩, (by repeat' (first | exact Sub.nil | refine Sub.val rfl (by first | with_reducible rfl | (congr 1; omega)) ?_ | refine Sub.same rfl ?_))⟩) ?_
  rintro ⟨k, so⟩ w1 ⟨he, hk, ho⟩
  dsimp only at hk ho ⊢
  have h1 := h.ext he
  have hT1 := hT.ext he
  by_cases hkl : k < min ws.length 1024
  · obtain ⟨e1, e2⟩ := hl.at k
    repeat' (first
     |(refine oLA ?_;first
     |refine LA_pass rfl ?_|(refine wOpB ?_;try dsimp only [Int.reduceToNat, Int.reducePow])|refine wOp ?_|(refine wOpD ?_;try dsimp only [Int.reduceToNat, Int.toNat_natCast])|(refine LA_cmp rfl rfl rfl rfl (fun hc => ?_) (fun hc => ?_)<;>dsimp only [cmpP] at hc)|(refine LA_nil (hK [] _ (LX_nil ?_));clear hK K)|(refine LA_nil (hK _ ?_);clear hK K))
     |(refine oCX ?_;first
     |refine wCX ?_|(refine wCR ?_;intro K hK))
     |(refine oPX ?_;first
     |refine wPX ?_)
     |(refine oLX ?_;first
     |refine LX_nil ?_))
    refine CX_loopV (ι := Nat × Nat × Value) (fun i => [(0, .val v), (3, .val i.2.2), (4, .val (.int .i64 k)), (5, .val (.int .u64 i.2.1)), (8, .val (.int .i64 (min (ws.length : Int) 1024))), (9, .val (.int .i64 k))])
      (fun i w' => Ext w w' ∧ i.1 ≤ 64 ∧ i.2.1 < 18446744073709551616 ∧ (∀ j, i.2.1.testBit j = (decide (i.1 ≤ j) && (wd ws k).testBit j)) ∧ OwnI w.heap.size 29 .u16 w' i.2.2 (listS (wbit ws) (64 * k + i.1)))
      (fun i => 64 - i.1) (fun w2 e2' => ⟨(0, wd ws k, so), ⟨he.trans e2', Nat.zero_le _, e2, fun j => by simp, ho.ext e2'⟩, ?_⟩) ?_
    · dsimp only; rw [← e1]; exact (by repeat' (first | exact Sub.nil | refine Sub.val rfl (by first | with_reducible rfl | (congr 1; omega)) ?_ | refine Sub.same rfl ?_))
    rintro ⟨t, x, sq⟩ w2 ⟨he2, ht, hx, hb, ho2⟩
    dsimp only at ht hx hb ho2 ⊢
    have hT2 := hT.ext he2
    have hwb : ∀ j, j < 64 → wbit ws (64 * k + j) = (wd ws k).testBit j := fun j hj => by
      unfold wbit; rw [show (64 * k + j) / 64 = k by omega, show (64 * k + j) % 64 = j by omega]
    have hll := listS_len (wbit ws) (64 * k + t)
    have hcl := cnt_le (wbit ws) (64 * k + t)
    by_cases h0 : x = 0
    · subst h0
      have hsk : listS (wbit ws) (64 * (k + 1)) = listS (wbit ws) (64 * k + t) := by
        refine listS_skip _ _ (by omega) fun i g1 g2 => ?_
        have := hb (i - 64 * k)
        rw [Nat.zero_testBit, decide_eq_true (by omega), Bool.true_and] at this
        have h2 := hwb (i - 64 * k) (by omega)
        rw [show 64 * k + (i - 64 * k) = i by omega] at h2
        rw [h2, ← this]
      repeat' (first
       |(refine oLA ?_;first
       |refine LA_pass rfl ?_|(refine wOpB ?_;try dsimp only [Int.reduceToNat, Int.reducePow])|refine wOp ?_|(refine wOpD ?_;try dsimp only [Int.reduceToNat, Int.toNat_natCast])|(refine LA_cmp rfl rfl rfl rfl (fun hc => ?_) (fun hc => ?_)<;>dsimp only [cmpP] at hc)|(refine LA_nil (hK [] _ (LX_nil ?_));clear hK K)|(refine LA_nil (hK _ ?_);clear hK K))
       |(refine oCX ?_;first
       |refine wCX ?_|(refine wCR ?_;intro K hK))
       |(refine oPX ?_;first
       |refine wPX ?_)
       |(refine oLX ?_;first
       |refine LX_nil ?_))
      refine PX_rndV (k + 1, sq) (fun w5 e5 => ⟨he2.trans e5, ?_, ?_⟩) ?_ (by repeat' (first | exact Sub.nil | refine Sub.val rfl (by first | with_reducible rfl | (congr 1; omega)) ?_ | refine Sub.same rfl ?_))
      · dsimp only; omega
      · dsimp only; rw [hsk]; exact ho2.ext e5
      · dsimp only; omega
    · obtain ⟨m, -, hc64⟩ := low_split h0 hx
      have lb := low_bit h0 hx
      obtain ⟨c, hc⟩ : ∃ c, c = Lib.ctz 64 x := ⟨_, rfl⟩
      rw [← hc] at hc64 lb
      have hct : t ≤ c ∧ (wd ws k).testBit c = true := by
        have := (lb 0).1.1; rw [hb] at this; simpa using this
      have hsk : listS (wbit ws) (64 * k + c) = listS (wbit ws) (64 * k + t) := by
        refine listS_skip _ _ (by omega) fun i g1 g2 => ?_
        have h3 := (lb (i - 64 * k)).1.2 (by omega)
        rw [hb, decide_eq_true (by omega), Bool.true_and] at h3
        have h2 := hwb (i - 64 * k) (by omega)
        rw [show 64 * k + (i - 64 * k) = i by omega] at h2
        rw [h2, h3]
      have hnx : listS (wbit ws) (64 * k + (c + 1)) = listS (wbit ws) (64 * k + t) ++ [((64 * k + c : Nat) : Int)] := by
        rw [← Nat.add_assoc, listS, hsk, hwb c hc64, hct.2]; rfl
      have hxa : bits .and .u64 (x : Int) ((x : Int) - 1) = ((x &&& (x - 1) : Nat) : Int) := and64 _ _ hx (by omega) rfl (by omega)
      have hx1 : x &&& (x - 1) < 18446744073709551616 := Nat.lt_of_le_of_lt Nat.and_le_left hx
      repeat' (first
       |(refine oLA ?_;first
       |refine LA_pass rfl ?_
       |(refine oC 72 ?_; refine LA_call1 (f := 72) rfl rfl rfl  (.val (.int .i64 c)) (by intro u1 w e hu1; (try obtain rfl : u1 = _ := hu1); exact (hc ▸ tz_c _ x hx (hT2.ext e))) ?_)
       |refine LA_one rfl u16_el rfl rfl ?_
       |(refine LA_stop (hK _ _ (LX_appendI rfl (by decide) u16_el rfl ho2 rfl (by omega) (by omega) he2 (fun v' w' he' ho' => ?_))); clear hK K; dsimp only [vals]; refine LX_la (by kernel_rfl) (fun K hK => ?_))
       |(refine LA_bits (.inl rfl) rfl rfl rfl ?_; rw [hxa])|(refine wOpB ?_;try dsimp only [Int.reduceToNat, Int.reducePow])|refine wOp ?_|(refine wOpD ?_;try dsimp only [Int.reduceToNat, Int.toNat_natCast])|(refine LA_cmp rfl rfl rfl rfl (fun hc => ?_) (fun hc => ?_)<;>dsimp only [cmpP] at hc)|(refine LA_nil (hK [] _ (LX_nil ?_));clear hK K)|(refine LA_nil (hK _ ?_);clear hK K))
       |(refine oCX ?_;first
       |refine wCX ?_|(refine wCR ?_;intro K hK))
       |(refine oPX ?_;first
       |refine wPX ?_)
       |(refine oLX ?_;first
       |refine LX_nil ?_))
      refine PX_rndV (c + 1, x &&& (x - 1), v') (fun w5 e5 => ⟨he'.trans e5, ?_, hx1, fun j => ?_, ?_⟩) ?_ (by repeat' (first | exact Sub.nil | refine Sub.val rfl (by first | with_reducible rfl | (congr 1; omega)) ?_ | refine Sub.same rfl ?_))
      · dsimp only; omega
      · dsimp only
        rw [(lb j).2, hb]
        by_cases hj : j < c
        · have h3 := (lb j).1.2 hj
          rw [hb] at h3
          rw [h3, decide_eq_false (show ¬ c + 1 ≤ j by omega)]; simp
        · by_cases e : j = c
          · subst e; rw [decide_eq_false (show ¬ j + 1 ≤ j by omega)]; simp
          · rw [decide_eq_true (by omega : t ≤ j), decide_eq_true (by omega : c + 1 ≤ j), decide_eq_true (show j ≠ c from e)]; simp
      · dsimp only; rw [hnx]
        have h9 := ho'.ext e5
        rwa [show (64 * (k : Int) + (c : Int)) = ((64 * k + c : Nat) : Int) by omega] at h9
      · dsimp only; omega
  · obtain rfl : k = min ws.length 1024 := by omega
    repeat' (first
     |(refine oLA ?_;first
     |refine LA_pass rfl ?_|(refine wOpB ?_;try dsimp only [Int.reduceToNat, Int.reducePow])|refine wOp ?_|(refine wOpD ?_;try dsimp only [Int.reduceToNat, Int.toNat_natCast])|(refine LA_cmp rfl rfl rfl rfl (fun hc => ?_) (fun hc => ?_)<;>dsimp only [cmpP] at hc)|(refine LA_nil (hK [] _ (LX_nil ?_));clear hK K)|(refine LA_nil (hK _ ?_);clear hK K))
     |(refine oCX ?_;first
     |refine wCX ?_|(refine wCR ?_;intro K hK))
     |(refine oPX ?_;first
     |refine wPX ?_)
     |(refine oLX ?_;first
     |refine LX_nil ?_))
    refine PX_retP rfl rfl he (fun u w2 e2 hu => ?_)
    obtain rfl : u = _ := hu
    exact ho.ext e2
end Go.Proofs.YtjiacignpmabcaaDoor
