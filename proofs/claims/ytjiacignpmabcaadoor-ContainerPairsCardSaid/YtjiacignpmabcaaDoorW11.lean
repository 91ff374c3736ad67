import Derived.Test.YtjiacignpmabcaaDoorW10
set_option linter.unusedSimpArgs false
set_option linter.unusedVariables false
set_option maxRecDepth 3000
namespace Go.Proofs.YtjiacignpmabcaaDoor
open Go.LA Go.ArrP Go.RowKit
theorem same_c (w : World) (v u : Value) (xs ys : List Int) (h : SlI .u16 w v xs) (h' : SlI .u16 w u ys) : Fc Tryd.prog 14 #[v, u] w (Ret w (.val (.bool (decide (xs = ys))))) := by
  have hl := h.len
  have hl' := h'.len
  refine Fc.of (args := [_, _]) Tryd.func14 rfl rfl Tryd.ntmps14 (Nat.le_of_ble_eq_true rfl) ?_
  repeat' (first
   |(refine oLA ?_;first
   |refine LA_pass rfl ?_|(refine wOpB ?_;try dsimp only [Int.reduceToNat, Int.reducePow])|refine wOp ?_|(refine wOpD ?_;try dsimp only [Int.reduceToNat, Int.toNat_natCast])|(refine LA_cmp rfl rfl rfl rfl (fun hc => ?_) (fun hc => ?_)<;>dsimp only [cmpP] at hc)|(refine LA_nil (hK [] _ (LX_nil ?_));clear hK K)|(refine LA_nil (hK _ ?_);clear hK K))
   |(refine oCX ?_;first
   |refine wCX ?_|(refine wCR ?_;intro K hK))
   |(refine oPX ?_;first
   |refine wPX ?_)
   |(refine oLX ?_;first
   |refine LX_nil ?_))
  · refine PX_retE rfl rfl (Ext.refl _) ?_
    have : xs ≠ ys := fun e => hc (by rw [e])
    simp [this]
  · refine CX_loop (ι := Nat) (fun k => [(0, .val v), (1, .val u), (5, .val (.int .i64 k))]) (fun k => ∀ i, i < k → i < xs.length → xs.getD i 0 = ys.getD i 0) (fun k => xs.length - k) 0 (fun i h1 => by omega) (Sub.same rfl (Sub.same rfl (Sub.same rfl Sub.nil))) ?_
    intro k hin
    repeat' (first
     |(refine oLA ?_;first
     |refine LA_pass rfl ?_|(refine wOpB ?_;try dsimp only [Int.reduceToNat, Int.reducePow])|refine wOp ?_|(refine wOpD ?_;try dsimp only [Int.reduceToNat, Int.toNat_natCast])|(refine LA_cmp rfl rfl rfl rfl (fun hc => ?_) (fun hc => ?_)<;>dsimp only [cmpP] at hc)|(refine LA_nil (hK [] _ (LX_nil ?_));clear hK K)|(refine LA_nil (hK _ ?_);clear hK K))
     |(refine oCX ?_;first
     |refine wCX ?_|(refine wCR ?_;intro K hK))
     |(refine oPX ?_;first
     |refine wPX ?_)
     |(refine oLX ?_;first
     |refine LX_nil ?_))
    · refine PX_retE rfl rfl (Ext.refl _) ?_
      have : xs ≠ ys := fun e => hc (by rw [e])
      simp [this]
    · refine PX_rnd (k + 1) (fun i h1 h2 => ?_) (by omega) (Sub.same rfl (Sub.same rfl (Sub.val rfl (by simp) Sub.nil)))
      rcases Nat.lt_or_ge i k with h4 | h4
      · exact hin i h4 h2
      · obtain rfl : i = k := by omega
        simpa using hc
    · refine PX_retE rfl rfl (Ext.refl _) ?_
      rename_i hc1
      have hle : xs.length = ys.length := by have : ¬ (xs.length : Int) ≠ ys.length := hc1; omega
      have : xs = ys := List.ext_getElem hle fun i h1 h2 => by
        have := hin i (by omega) h1
        rwa [getD_eq h1, getD_eq h2] at this
      simp [this]

theorem wsame_c (w : World) (v u : Value) (xs ys : List Int) (h : SlI .u64 w v xs) (h' : SlI .u64 w u ys) : Fc Tryd.prog 31 #[v, u] w (Ret w (.val (.bool (decide (xs = ys))))) := by
  have hl := h.len
  have hl' := h'.len
  refine Fc.of (args := [_, _]) Tryd.func31 rfl rfl Tryd.ntmps31 (Nat.le_of_ble_eq_true rfl) ?_
  repeat' (first
   |(refine oLA ?_;first
   |refine LA_pass rfl ?_|(refine wOpB ?_;try dsimp only [Int.reduceToNat, Int.reducePow])|refine wOp ?_|(refine wOpD ?_;try dsimp only [Int.reduceToNat, Int.toNat_natCast])|(refine LA_cmp rfl rfl rfl rfl (fun hc => ?_) (fun hc => ?_)<;>dsimp only [cmpP] at hc)|(refine LA_nil (hK [] _ (LX_nil ?_));clear hK K)|(refine LA_nil (hK _ ?_);clear hK K))
   |(refine oCX ?_;first
   |refine wCX ?_|(refine wCR ?_;intro K hK))
   |(refine oPX ?_;first
   |refine wPX ?_)
   |(refine oLX ?_;first
   |refine LX_nil ?_))
  · refine PX_retE rfl rfl (Ext.refl _) ?_
    have : xs ≠ ys := fun e => hc (by rw [e])
    simp [this]
  · refine CX_loop (ι := Nat) (fun k => [(0, .val v), (1, .val u), (5, .val (.int .i64 k))]) (fun k => ∀ i, i < k → i < xs.length → xs.getD i 0 = ys.getD i 0) (fun k => xs.length - k) 0 (fun i h1 => by omega) (Sub.same rfl (Sub.same rfl (Sub.same rfl Sub.nil))) ?_
    intro k hin
    repeat' (first
     |(refine oLA ?_;first
     |refine LA_pass rfl ?_|(refine wOpB ?_;try dsimp only [Int.reduceToNat, Int.reducePow])|refine wOp ?_|(refine wOpD ?_;try dsimp only [Int.reduceToNat, Int.toNat_natCast])|(refine LA_cmp rfl rfl rfl rfl (fun hc => ?_) (fun hc => ?_)<;>dsimp only [cmpP] at hc)|(refine LA_nil (hK [] _ (LX_nil ?_));clear hK K)|(refine LA_nil (hK _ ?_);clear hK K))
     |(refine oCX ?_;first
     |refine wCX ?_|(refine wCR ?_;intro K hK))
     |(refine oPX ?_;first
     |refine wPX ?_)
     |(refine oLX ?_;first
     |refine LX_nil ?_))
    · refine PX_retE rfl rfl (Ext.refl _) ?_
      have : xs ≠ ys := fun e => hc (by rw [e])
      simp [this]
    · refine PX_rnd (k + 1) (fun i h1 h2 => ?_) (by omega) (Sub.same rfl (Sub.same rfl (Sub.val rfl (by simp) Sub.nil)))
      rcases Nat.lt_or_ge i k with h4 | h4
      · exact hin i h4 h2
      · obtain rfl : i = k := by omega
        simpa using hc
    · refine PX_retE rfl rfl (Ext.refl _) ?_
      rename_i hc1
      have hle : xs.length = ys.length := by have : ¬ (xs.length : Int) ≠ ys.length := hc1; omega
      have : xs = ys := List.ext_getElem hle fun i h1 h2 => by
        have := hin i (by omega) h1
        rwa [getD_eq h1, getD_eq h2] at this
      simp [this]

theorem build_mk (w : World) : (Instr.build 60 #[]).run Tryd.prog w = .ok (.agg (marks (fun _ => false))) w := by
  rw [marks_none]; exact run_build w _ _ _ (by kernel_rfl)
abbrev tM : Nat := 60
theorem mof_c (w : World) (v : Value) (xs : List Int) (h : SlI .u16 w v xs) (hl : Low xs) : Fc Tryd.prog 10 #[v] w (Ret w (.pred (mkI w.heap.size tM (memb xs)))) := by
  have hlen := h.len
  refine Fc.of (args := [_]) Tryd.func10 rfl rfl Tryd.ntmps10 (Nat.le_of_ble_eq_true rfl) ?_
  repeat' (first
   |(refine oLA ?_;first
   |refine LA_pass rfl ?_
   |refine LA_build0 rfl build_mk ?_
   |refine LA_box rfl rfl ?_|(refine wOpB ?_;try dsimp only [Int.reduceToNat, Int.reducePow])|refine wOp ?_|(refine wOpD ?_;try dsimp only [Int.reduceToNat, Int.toNat_natCast])|(refine LA_cmp rfl rfl rfl rfl (fun hc => ?_) (fun hc => ?_)<;>dsimp only [cmpP] at hc)|(refine LA_nil (hK [] _ (LX_nil ?_));clear hK K)|(refine LA_nil (hK _ ?_);clear hK K))
   |(refine oCX ?_;first
   |refine wCX ?_|(refine wCR ?_;intro K hK))
   |(refine oPX ?_;first
   |refine wPX ?_)
   |(refine oLX ?_;first
   |refine LX_nil ?_))
  refine CX_pick 3 rfl (fun v3 w3 e3 h3 => ?_)
  obtain ⟨b, hb0, rfl, hb⟩ := h3
  refine CX_loopV (ι := Nat) (fun k => [(0, .val v), (3, .val (.pointer (some ⟨b, 0, none⟩))), (4, .val (.int .i64 k))]) (fun k w' => Ext w w' ∧ k ≤ xs.length ∧ w'.heap[b]? = some (.cells (marks (memb (xs.take k))) tM (0, 0))) (fun k => xs.length - k) (fun w2 e2 => ⟨0, ⟨e3.trans e2, Nat.zero_le _, ?_⟩, (by repeat' (first | exact Sub.nil | refine Sub.val rfl (by first | with_reducible rfl | (congr 1; omega)) ?_ | refine Sub.same rfl ?_))⟩) ?_
  · have : marks (memb (xs.take 0)) = marks (fun _ => false) := marks_congr (fun i _ => by simp [memb])
    rw [this]; exact e2.block hb
  rintro k w1 ⟨he, hk, hbl⟩
  have h1 := h.ext he
  by_cases hkl : k < xs.length
  · have hx : 0 ≤ xs.getD k 0 ∧ xs.getD k 0 < 65536 := by rw [getD_eq hkl]; exact hl _ (List.getElem_mem hkl)
    repeat' (first
     |(refine oLA ?_;first
     |refine LA_pass rfl ?_
     |refine LA_nilCheck rfl rfl ?_
     |refine LA_indexArr (n := 65536) (s := 1) rfl rfl (fun _ => rfl) rfl rfl (xs.getD k 0).toNat (by omega) (by omega) ?_
     |(refine LA_stop (hK _ _ rfl (LX_store1 rfl rfl rfl hbl (fun _ => rfl) (by rw [marks_size]; omega) rfl rfl (fun w4 e4 => ?_))); clear hK K; dsimp only [vals]; refine LX_la (by kernel_rfl) (fun K hK => ?_))|(refine wOpB ?_;try dsimp only [Int.reduceToNat, Int.reducePow])|refine wOp ?_|(refine wOpD ?_;try dsimp only [Int.reduceToNat, Int.toNat_natCast])|(refine LA_cmp rfl rfl rfl rfl (fun hc => ?_) (fun hc => ?_)<;>dsimp only [cmpP] at hc)|(refine LA_nil (hK [] _ (LX_nil ?_));clear hK K)|(refine LA_nil (hK _ ?_);clear hK K))
     |(refine oCX ?_;first
     |refine CX_regionT 7 (by kernel_rfl) (by kernel_rfl) (by decide) (fun K hK => ?_)
     |refine wCX ?_|(refine wCR ?_;intro K hK))
     |(refine oPX ?_;first
     |refine wPX ?_)
     |(refine oLX ?_;first
     |refine LX_nil ?_))
    refine PX_rndV (k + 1) (fun w5 e5 => ⟨((he.trans e4).setRow hb0 _).trans e5, ?_, ?_⟩) ?_ (by repeat' (first | exact Sub.nil | refine Sub.val rfl (by first | with_reducible rfl | (congr 1; omega)) ?_ | refine Sub.same rfl ?_))
    · omega
    · have h6 := e5.block (setRow_heap w4 b _ _ _ (0, 0) (e4.block hbl))
      rw [marks_set _ _ (by omega), marks_congr (q := memb (xs.take (k + 1))) (fun j hj => ?_)] at h6
      · exact h6
      · rw [List.take_succ_eq_append_getElem hkl]
        simp only [memb, List.mem_append, List.mem_singleton, ← getD_eq hkl]
        by_cases e : j = 0 + (xs.getD k 0).toNat * 1
        · rw [if_pos e, decide_eq_true (.inr (by omega))]
        · rw [if_neg e]
          by_cases hm : (j : Int) ∈ xs.take k
          · simp [hm]
          · rw [decide_eq_false hm, decide_eq_false (fun h => by rcases h with h | h; exact hm h; omega)]
    · omega
  · obtain rfl : k = xs.length := by omega
    repeat' (first
     |(refine oLA ?_;first
     |refine LA_pass rfl ?_|(refine wOpB ?_;try dsimp only [Int.reduceToNat, Int.reducePow])|refine wOp ?_|(refine wOpD ?_;try dsimp only [Int.reduceToNat, Int.toNat_natCast])|(refine LA_cmp rfl rfl rfl rfl (fun hc => ?_) (fun hc => ?_)<;>dsimp only [cmpP] at hc)|(refine LA_nil (hK [] _ (LX_nil ?_));clear hK K)|(refine LA_nil (hK _ ?_);clear hK K))
     |(refine oCX ?_;first
     |refine wCX ?_|(refine wCR ?_;intro K hK))
     |(refine oPX ?_;first
     |refine wPX ?_)
     |(refine oLX ?_;first
     |refine LX_nil ?_))
    refine PX_retP rfl rfl he (fun u w5 e5 hu => ?_)
    obtain rfl : u = _ := hu
    rw [List.take_length] at hbl
    exact ⟨b, rfl, hb0, e5.block hbl⟩
theorem mlist_c (w : World) (v : Value) (base : Nat) (p : Nat → Bool) (h : MkI base tM w v p) : Fc Tryd.prog 11 #[v] w (Ret w (.pred (ownI w.heap.size 29 .u16 (listS p 65536)))) := by
  obtain ⟨b, rfl, -, hb⟩ := h
  refine Fc.of (args := [_]) Tryd.func11 rfl rfl Tryd.ntmps11 (Nat.le_of_ble_eq_true rfl) ?_
  repeat' (first
   |(refine oLA ?_;first
   |refine LA_pass rfl ?_|(refine wOpB ?_;try dsimp only [Int.reduceToNat, Int.reducePow])|refine wOp ?_|(refine wOpD ?_;try dsimp only [Int.reduceToNat, Int.toNat_natCast])|(refine LA_cmp rfl rfl rfl rfl (fun hc => ?_) (fun hc => ?_)<;>dsimp only [cmpP] at hc)|(refine LA_nil (hK [] _ (LX_nil ?_));clear hK K)|(refine LA_nil (hK _ ?_);clear hK K))
   |(refine oCX ?_;first
   |refine wCX ?_|(refine wCR ?_;intro K hK))
   |(refine oPX ?_;first
   |refine wPX ?_)
   |(refine oLX ?_;first
   |refine LX_nil ?_))
  refine CX_loopV (ι := Nat × Value) (fun i => [(0, .val (.pointer (some ⟨b, 0, none⟩))), (3, .val i.2), (4, .val (.int .i64 i.1))]) (fun i w' => Ext w w' ∧ i.1 ≤ 65536 ∧ OwnI w.heap.size 29 .u16 w' i.2 (listS p i.1)) (fun i => 65536 - i.1) (fun w2 e2 => ⟨(0, .slice none 0 0), ⟨e2, Nat.zero_le _, OwnI.nil⟩, (by repeat' (first | exact Sub.nil | refine Sub.val rfl (by first | with_reducible rfl | (congr 1; omega)) ?_ | refine Sub.same rfl ?_))⟩) ?_
  rintro ⟨k, so⟩ w1 ⟨he, hk, ho⟩
  dsimp only at hk ho ⊢
  have hb1 := he.block hb
  by_cases hkl : k < 65536
  · have hget : (marks p)[0 + k * 1]? = some (.bool (p k)) := by rw [show 0 + k * 1 = k by omega]; exact marks_get p hkl
    have hll := listS_len p k
    have hcl := cnt_le p k
    cases hp : p k
    all_goals rw [hp] at hget
    all_goals
      repeat' (first
       |(refine oLA ?_;first
       |refine LA_pass rfl ?_
       |refine LA_nilCheck rfl rfl ?_
       |refine LA_indexArr (n := 65536) (s := 1) rfl rfl (fun _ => rfl) rfl rfl k rfl hkl ?_
       |refine LA_loadB rfl (fun _ => rfl) rfl hb1 hget ?_
       |refine LA_one rfl u16_el rfl rfl ?_
       |(refine LA_stop (hK _ _ (LX_appendI rfl (by decide) u16_el rfl ho rfl (by omega) (by omega) he (fun v' w' he' ho' => ?_))); clear hK K; dsimp only [vals]; refine LX_la (by kernel_rfl) (fun K hK => ?_))|(refine wOpB ?_;try dsimp only [Int.reduceToNat, Int.reducePow])|refine wOp ?_|(refine wOpD ?_;try dsimp only [Int.reduceToNat, Int.toNat_natCast])|(refine LA_cmp rfl rfl rfl rfl (fun hc => ?_) (fun hc => ?_)<;>dsimp only [cmpP] at hc)|(refine LA_nil (hK [] _ (LX_nil ?_));clear hK K)|(refine LA_nil (hK _ ?_);clear hK K))
       |(refine oCX ?_;first
       |refine wCX ?_|(refine wCR ?_;intro K hK))
       |(refine oPX ?_;first
       |refine wPX ?_)
       |(refine oLX ?_;first
       |refine LX_nil ?_))
    · refine PX_rndV (k + 1, so) (fun w5 e5 => ⟨he.trans e5, ?_, ?_⟩) ?_ (by repeat' (first | exact Sub.nil | refine Sub.val rfl (by first | with_reducible rfl | (congr 1; omega)) ?_ | refine Sub.same rfl ?_))
      · dsimp only; omega
      · dsimp only [listS]; rw [hp]; simpa using ho.ext e5
      · dsimp only; omega
    · refine PX_rndV (k + 1, v') (fun w5 e5 => ⟨he'.trans e5, ?_, ?_⟩) ?_ (by repeat' (first | exact Sub.nil | refine Sub.val rfl (by first | with_reducible rfl | (congr 1; omega)) ?_ | refine Sub.same rfl ?_))
      · dsimp only; omega
      · dsimp only [listS]; rw [hp]; simpa using ho'.ext e5
      · dsimp only; omega
  · obtain rfl : k = 65536 := by omega
    repeat' (first
     |(refine oLA ?_;first
     |refine LA_pass rfl ?_|(refine wOpB ?_;try dsimp only [Int.reduceToNat, Int.reducePow])|refine wOp ?_|(refine wOpD ?_;try dsimp only [Int.reduceToNat, Int.toNat_natCast])|(refine LA_cmp rfl rfl rfl rfl (fun hc => ?_) (fun hc => ?_)<;>dsimp only [cmpP] at hc)|(refine LA_nil (hK [] _ (LX_nil ?_));clear hK K)|(refine LA_nil (hK _ ?_);clear hK K))
     |(refine oCX ?_;first
     |refine wCX ?_|(refine wCR ?_;intro K hK))
     |(refine oPX ?_;first
     |refine wPX ?_)
     |(refine oLX ?_;first
     |refine LX_nil ?_))
    refine PX_retP rfl rfl he (fun u w5 e5 hu => ?_)
    obtain rfl : u = _ := hu
    exact ho.ext e5
theorem mruns_c (w : World) (v : Value) (base : Nat) (p : Nat → Bool) (h : MkI base tM w v p) : Fc Tryd.prog 65 #[v] w (Ret w (.val (.int .i64 (cnt (startsS p) 65536)))) := by
  obtain ⟨b, rfl, -, hb⟩ := h
  refine Fc.of (args := [_]) Tryd.func65 rfl rfl Tryd.ntmps65 (Nat.le_of_ble_eq_true rfl) ?_
  repeat' (first
   |(refine oLA ?_;first
   |refine LA_pass rfl ?_|(refine wOpB ?_;try dsimp only [Int.reduceToNat, Int.reducePow])|refine wOp ?_|(refine wOpD ?_;try dsimp only [Int.reduceToNat, Int.toNat_natCast])|(refine LA_cmp rfl rfl rfl rfl (fun hc => ?_) (fun hc => ?_)<;>dsimp only [cmpP] at hc)|(refine LA_nil (hK [] _ (LX_nil ?_));clear hK K)|(refine LA_nil (hK _ ?_);clear hK K))
   |(refine oCX ?_;first
   |refine wCX ?_|(refine wCR ?_;intro K hK))
   |(refine oPX ?_;first
   |refine wPX ?_)
   |(refine oLX ?_;first
   |refine LX_nil ?_))
  refine CX_loop (ι := Nat) (fun k => [(0, .val (.pointer (some ⟨b, 0, none⟩))), (3, .val (.int .i64 (cnt (startsS p) k))), (4, .val (.int .i64 k))]) (fun k => k ≤ 65536) (fun k => 65536 - k) 0 (by omega) (by repeat' (first | exact Sub.nil | refine Sub.val rfl (by first | with_reducible rfl | (congr 1; omega)) ?_ | refine Sub.same rfl ?_)) ?_
  intro k hk
  have hcl := cnt_le (startsS p) k
  have hcs : cnt (startsS p) (k + 1) = cnt (startsS p) k + if startsS p k then 1 else 0 := rfl
  by_cases hkl : k < 65536
  · have hget : (marks p)[0 + k * 1]? = some (.bool (p k)) := by rw [show 0 + k * 1 = k by omega]; exact marks_get p (by omega)
    have hget2 : (marks p)[0 + (k - 1) * 1]? = some (.bool (p (k - 1))) := by rw [show 0 + (k - 1) * 1 = k - 1 by omega]; exact marks_get p (by omega)
    by_cases hk0 : k = 0
    · subst hk0
      cases hp : p 0
      all_goals rw [hp] at hget
      all_goals simp only [startsS, hp, Bool.false_and, Bool.true_and, beq_self_eq_true, Bool.true_or, Bool.false_eq_true, if_false, if_true, Nat.add_zero, Nat.zero_add] at hcs
      all_goals
        repeat' (first
         |(refine oLA ?_;first
         |refine LA_pass rfl ?_
         |refine LA_nilCheck rfl rfl ?_
         |refine LA_indexArr (n := 65536) (s := 1) rfl rfl (fun _ => rfl) rfl rfl 0 rfl (by omega) ?_
         |refine LA_loadB rfl (fun _ => rfl) rfl hb hget ?_|(refine wOpB ?_;try dsimp only [Int.reduceToNat, Int.reducePow])|refine wOp ?_|(refine wOpD ?_;try dsimp only [Int.reduceToNat, Int.toNat_natCast])|(refine LA_cmp rfl rfl rfl rfl (fun hc => ?_) (fun hc => ?_)<;>dsimp only [cmpP] at hc)|(refine LA_nil (hK [] _ (LX_nil ?_));clear hK K)|(refine LA_nil (hK _ ?_);clear hK K))
         |(refine oCX ?_;first
         |refine wCX ?_|(refine wCR ?_;intro K hK))
         |(refine oPX ?_;first
         |refine wPX ?_)
         |(refine oLX ?_;first
         |refine LX_nil ?_))
      all_goals
        refine PX_rnd 1 ?_ ?_ (by repeat' (first | exact Sub.nil | refine Sub.val rfl (by first | with_reducible rfl | (congr 1; omega)) ?_ | refine Sub.same rfl ?_))
        · omega
        · omega
    · have hb0 : (k == 0) = false := by simpa using hk0
      cases hp : p k <;> cases hq : p (k - 1)
      all_goals rw [hp] at hget
      all_goals rw [hq] at hget2
      all_goals simp only [startsS, hp, hq, hb0, Bool.false_and, Bool.true_and, Bool.false_or, Bool.not_true, Bool.not_false, Bool.false_eq_true, if_false, if_true, Nat.add_zero, Nat.zero_add] at hcs
      all_goals
        repeat' (first
         |(refine oLA ?_;first
         |refine LA_pass rfl ?_
         |refine LA_nilCheck rfl rfl ?_
         |refine LA_indexArr (n := 65536) (s := 1) rfl rfl (fun _ => rfl) rfl rfl k rfl (by omega) ?_
         |refine LA_indexArr (n := 65536) (s := 1) rfl rfl (fun _ => rfl) rfl rfl (k - 1) (by omega) (by omega) ?_
         |refine LA_loadB rfl (fun _ => rfl) rfl hb hget ?_
         |refine LA_loadB rfl (fun _ => rfl) rfl hb hget2 ?_|(refine wOpB ?_;try dsimp only [Int.reduceToNat, Int.reducePow])|refine wOp ?_|(refine wOpD ?_;try dsimp only [Int.reduceToNat, Int.toNat_natCast])|(refine LA_cmp rfl rfl rfl rfl (fun hc => ?_) (fun hc => ?_)<;>dsimp only [cmpP] at hc)|(refine LA_nil (hK [] _ (LX_nil ?_));clear hK K)|(refine LA_nil (hK _ ?_);clear hK K))
         |(refine oCX ?_;first
         |refine wCX ?_|(refine wCR ?_;intro K hK))
         |(refine oPX ?_;first
         |refine wPX ?_)
         |(refine oLX ?_;first
         |refine LX_nil ?_))
      all_goals
        refine PX_rnd (k + 1) ?_ ?_ (by repeat' (first | exact Sub.nil | refine Sub.val rfl (by first | with_reducible rfl | (congr 1; omega)) ?_ | refine Sub.same rfl ?_))
        · omega
        · omega
  · obtain rfl : k = 65536 := by omega
    repeat' (first
     |(refine oLA ?_;first
     |refine LA_pass rfl ?_|(refine wOpB ?_;try dsimp only [Int.reduceToNat, Int.reducePow])|refine wOp ?_|(refine wOpD ?_;try dsimp only [Int.reduceToNat, Int.toNat_natCast])|(refine LA_cmp rfl rfl rfl rfl (fun hc => ?_) (fun hc => ?_)<;>dsimp only [cmpP] at hc)|(refine LA_nil (hK [] _ (LX_nil ?_));clear hK K)|(refine LA_nil (hK _ ?_);clear hK K))
     |(refine oCX ?_;first
     |refine wCX ?_|(refine wCR ?_;intro K hK))
     |(refine oPX ?_;first
     |refine wPX ?_)
     |(refine oLX ?_;first
     |refine LX_nil ?_))
    exact PX_retE rfl rfl (Ext.refl _) rfl
/-- Both, either, the first one alone, just one. -/
def bothF (what : Int) (a b : Bool) : Bool := if what = 1 then a && b else if what = 2 then a || b else if what = 3 then a && !b else !(a == b)
set_option maxHeartbeats 2000000 in
theorem mboth_c (w : World) (va vb : Value) (ba bb : Nat) (p q : Nat → Bool) (what : Int) (ha : MkI ba tM w va p) (hb : MkI bb tM w vb q) : Fc Tryd.prog 27 #[va, vb, .int .i64 what] w (Ret w (.pred (mkI w.heap.size tM (fun i => bothF what (p i) (q i))))) := by
  obtain ⟨ca, rfl, -, hca⟩ := ha
  obtain ⟨cb, rfl, -, hcb⟩ := hb
  have hla := (Array.getElem?_eq_some_iff.1 hca).1
  have hlb := (Array.getElem?_eq_some_iff.1 hcb).1
  refine Fc.of (args := [_, _, _]) Tryd.func27 rfl rfl Tryd.ntmps27 (Nat.le_of_ble_eq_true rfl) ?_
  repeat' (first
   |(refine oLA ?_;first
   |refine LA_pass rfl ?_
   |refine LA_build0 rfl build_mk ?_
   |refine LA_box rfl rfl ?_|(refine wOpB ?_;try dsimp only [Int.reduceToNat, Int.reducePow])|refine wOp ?_|(refine wOpD ?_;try dsimp only [Int.reduceToNat, Int.toNat_natCast])|(refine LA_cmp rfl rfl rfl rfl (fun hc => ?_) (fun hc => ?_)<;>dsimp only [cmpP] at hc)|(refine LA_nil (hK [] _ (LX_nil ?_));clear hK K)|(refine LA_nil (hK _ ?_);clear hK K))
   |(refine oCX ?_;first
   |refine wCX ?_|(refine wCR ?_;intro K hK))
   |(refine oPX ?_;first
   |refine wPX ?_)
   |(refine oLX ?_;first
   |refine LX_nil ?_))
  refine CX_pick 7 rfl (fun v7 w7 e7 h7 => ?_)
  obtain ⟨c, hc0, rfl, hcc⟩ := h7
  refine CX_loopV (ι := Nat) (fun k => [(0, .val (.pointer (some ⟨ca, 0, none⟩))), (1, .val (.pointer (some ⟨cb, 0, none⟩))), (2, .val (.int .i64 what)), (7, .val (.pointer (some ⟨c, 0, none⟩))), (8, .val (.int .i64 k))]) (fun k w' => Ext w w' ∧ k ≤ 65536 ∧ w'.heap[c]? = some (.cells (marks (fun i => decide (i < k) && bothF what (p i) (q i))) tM (0, 0))) (fun k => 65536 - k) (fun w2 e2 => ⟨0, ⟨e7.trans e2, Nat.zero_le _, ?_⟩, (by repeat' (first | exact Sub.nil | refine Sub.val rfl (by first | with_reducible rfl | (congr 1; omega)) ?_ | refine Sub.same rfl ?_))⟩) ?_
  · rw [marks_congr (q := fun _ => false) (fun i _ => by simp)]; exact e2.block hcc
  rintro k w1 ⟨he, hk, hbl⟩
  have hca1 := he.block hca
  have hcb1 := he.block hcb
  by_cases hkl : k < 65536
  · have hget : (marks p)[0 + k * 1]? = some (.bool (p k)) := by rw [show 0 + k * 1 = k by omega]; exact marks_get p hkl
    have hget2 : (marks q)[0 + k * 1]? = some (.bool (q k)) := by rw [show 0 + k * 1 = k by omega]; exact marks_get q hkl
    have fin : ∀ (r : Bool) (w5 w6 : World), r = bothF what (p k) (q k) → Ext w1 w5 → Ext (w5.setRow c ((marks (fun i => decide (i < k) && bothF what (p i) (q i))).setIfInBounds (0 + k * 1) (.bool r))) w6 → w6.heap[c]? = some (.cells (marks (fun i => decide (i < k + 1) && bothF what (p i) (q i))) tM (0, 0)) := fun r w5 w6 hr e5 e6 => by
      have h6 := e6.block (setRow_heap w5 c _ _ _ (0, 0) (e5.block hbl))
      rw [marks_set _ _ (by omega), marks_congr (q := fun i => decide (i < k + 1) && bothF what (p i) (q i)) (fun j hj => ?_)] at h6
      · exact h6
      · by_cases e : j = 0 + k * 1
        · rw [if_pos e, hr, show j = k by omega]; simp
        · rw [if_neg e, show decide (j < k + 1) = decide (j < k) by rw [decide_eq_decide]; omega]
    cases hp : p k <;> cases hq : q k
    all_goals rw [hp] at hget
    all_goals rw [hq] at hget2
    all_goals
      repeat' (first
       |(refine oLA ?_;first
       |refine LA_pass rfl ?_
       |refine LA_nilCheck rfl rfl ?_
       |refine LA_indexArr (n := 65536) (s := 1) rfl rfl (fun _ => rfl) rfl rfl k rfl hkl ?_
       |refine LA_loadB rfl (fun _ => rfl) rfl hca1 hget ?_
       |refine LA_loadB rfl (fun _ => rfl) rfl hcb1 hget2 ?_
       |(refine LA_stop (hK _ _ rfl (LX_store1 rfl rfl rfl hbl (fun _ => rfl) (by rw [marks_size]; omega) rfl rfl (fun w4 e4 => ?_))); clear hK K; dsimp only [vals]; refine LX_la (by kernel_rfl) (fun K hK => ?_))|(refine wOpB ?_;try dsimp only [Int.reduceToNat, Int.reducePow])|refine wOp ?_|(refine wOpD ?_;try dsimp only [Int.reduceToNat, Int.toNat_natCast])|(refine LA_cmp rfl rfl rfl rfl (fun hc => ?_) (fun hc => ?_)<;>dsimp only [cmpP] at hc)|(refine LA_nil (hK [] _ (LX_nil ?_));clear hK K)|(refine LA_nil (hK _ ?_);clear hK K))
       |(refine oCX ?_;first
       |refine CX_regionS 15 (by decide) (by kernel_rfl) (by kernel_rfl) (fun K hK => ?_)
       |refine CX_regionS 16 (by decide) (by kernel_rfl) (by kernel_rfl) (fun K hK => ?_)
       |refine CX_regionS 17 (by decide) (by kernel_rfl) (by kernel_rfl) (fun K hK => ?_)
       |refine wCX ?_|(refine wCR ?_;intro K hK))
       |(refine oPX ?_;first
       |refine wPX ?_)
       |(refine oLX ?_;first
       |refine LX_nil ?_))
    all_goals
      refine PX_rndV (k + 1) (fun w6 e6 => ⟨((he.trans e4).setRow hc0 _).trans e6, by omega, fin _ _ _ ?_ e4 e6⟩) ?_ (by repeat' (first | exact Sub.nil | refine Sub.val rfl (by first | with_reducible rfl | (congr 1; omega)) ?_ | refine Sub.same rfl ?_))
      · rw [hp, hq]; unfold bothF; split <;> (try split) <;> (try split) <;> first | rfl | (exfalso; omega)
      · omega
  · obtain rfl : k = 65536 := by omega
    repeat' (first
     |(refine oLA ?_;first
     |refine LA_pass rfl ?_|(refine wOpB ?_;try dsimp only [Int.reduceToNat, Int.reducePow])|refine wOp ?_|(refine wOpD ?_;try dsimp only [Int.reduceToNat, Int.toNat_natCast])|(refine LA_cmp rfl rfl rfl rfl (fun hc => ?_) (fun hc => ?_)<;>dsimp only [cmpP] at hc)|(refine LA_nil (hK [] _ (LX_nil ?_));clear hK K)|(refine LA_nil (hK _ ?_);clear hK K))
     |(refine oCX ?_;first
     |refine wCX ?_|(refine wCR ?_;intro K hK))
     |(refine oPX ?_;first
     |refine wPX ?_)
     |(refine oLX ?_;first
     |refine LX_nil ?_))
    refine PX_retP rfl rfl he (fun u w5 e5 hu => ?_)
    obtain rfl : u = _ := hu
    rw [marks_congr (q := fun i => bothF what (p i) (q i)) (fun j hj => by simp [hj])] at hbl
    exact ⟨c, rfl, hc0, e5.block hbl⟩

end Go.Proofs.YtjiacignpmabcaaDoor
