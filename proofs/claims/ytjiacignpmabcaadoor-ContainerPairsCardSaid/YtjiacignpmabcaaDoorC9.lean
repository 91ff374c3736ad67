import Derived.Test.YtjiacignpmabcaaDoorC8
import Derived.Test.YtjiacignpmabcaaDoorFl

set_option linter.unusedSimpArgs false
set_option linter.unusedVariables false
set_option maxRecDepth 3000
namespace Go.Proofs.YtjiacignpmabcaaDoor
open Go.LA Go.ArrP Go.RowKit
/-- A function value that tells of numbers, from some world on. -/
def Tells (w : World) (fv : Value) (q : Nat → Bool) : Prop := ∀ w', Ext w w' → ∀ x : Nat, x < 65536 → Clb Tryd.prog fv [.int .u16 x] w' (Ret w' (.val (.bool (q x))))
theorem Tells.ext {w w' : World} {fv : Value} {q : Nat → Bool} (h : Tells w fv q) (e : Ext w w') : Tells w' fv q := fun w2 e2 => h w2 (e.trans e2)
set_option maxHeartbeats 2000000 in
theorem idxf_c (w : World) (v fv : Value) (xs : List Int) (q : Nat → Bool) (h : SlI .u16 w v xs) (hl : Low xs) (hF : Tells w fv q) :
    Fc Tryd.prog 100 #[v, fv] w (Ret w (.val (.int .i64 (if fstQ q xs < xs.length then (fstQ q xs : Int) else -1)))) := by
  have hlen := h.len
  have hle := fstQ_le q xs
  refine Fc.of (args := [_, _]) Tryd.func100 rfl rfl Tryd.ntmps100 (Nat.le_of_ble_eq_true rfl) ?_
  repeat' (first
   |(refine oLA ?_;first
   |refine LA_pass rfl ?_|(refine wOpB ?_;try dsimp only [Int.reduceToNat, Int.reducePow])|refine wOp ?_|(refine wOpD ?_;try dsimp only [Int.reduceToNat, Int.toNat_natCast])|(refine LA_cmp rfl rfl rfl rfl (fun hc => ?_) (fun hc => ?_)<;>dsimp only [cmpP] at hc)|(refine LA_nil (hK [] _ (LX_nil ?_));clear hK K)|(refine LA_nil (hK _ ?_);clear hK K))
   |(refine oCX ?_;first
   |refine wCX ?_|(refine wCR ?_;intro K hK))
   |(refine oPX ?_;first
   |refine wPX ?_)
   |(refine oLX ?_;first
   |refine LX_nil ?_))
  refine CX_loop (ι := Nat) (fun j => [(0, .val v), (1, .val fv), (7, .val (.int .i64 xs.length)), (8, .val (.int .i64 j))]) (fun j => j ≤ fstQ q xs) (fun j => xs.length - j) 0 (by omega) (by repeat' (first | exact Sub.nil | refine Sub.val rfl (by first | with_reducible rfl | (congr 1; omega)) ?_ | refine Sub.same rfl ?_)) ?_
  intro j hj
  by_cases hjl : j < xs.length
  · have hx : 0 ≤ xs.getD j 0 ∧ xs.getD j 0 < 65536 := by rw [getD_eq hjl]; exact hl _ (List.getElem_mem hjl)
    obtain ⟨x, hxx⟩ := Int.eq_ofNat_of_zero_le hx.1
    have hx' : x < 65536 := by omega
    have hb := fstQ_before q xs j
    have ha := fstQ_at q xs
    rw [hxx, Int.toNat_natCast] at hb
    have hF0 : ∀ w', Ext w w' → Clb Tryd.prog fv [.int .u16 (xs.getD j 0)] w' (Ret w' (.val (.bool (q x)))) := fun w' e => by rw [hxx]; exact hF w' e x hx'
    cases hq : q x
    · rw [hq] at hF0
      have hne : j ≠ fstQ q xs := fun e => by
        subst e
        rw [hxx, Int.toNat_natCast, hq] at ha
        cases ha hjl
      repeat' (first
       |(refine oLA ?_;first
       |refine LA_pass rfl ?_|(refine wOpB ?_;try dsimp only [Int.reduceToNat, Int.reducePow])|refine wOp ?_|(refine wOpD ?_;try dsimp only [Int.reduceToNat, Int.toNat_natCast])|(refine LA_cmp rfl rfl rfl rfl (fun hc => ?_) (fun hc => ?_)<;>dsimp only [cmpP] at hc)|(refine oCv ?_;first
       |(refine LA_callV1 rfl rfl rfl (.val (.bool false)) (by intro vf u1 w' e hf hu1; obtain rfl : vf = _ := hf; obtain rfl : u1 = _ := hu1; exact hF0 w' e) ?_))|(refine LA_nil (hK [] _ (LX_nil ?_));clear hK K)|(refine LA_nil (hK _ ?_);clear hK K))
       |(refine oCX ?_;first
       |refine wCX ?_|(refine wCR ?_;intro K hK))
       |(refine oPX ?_;first
       |refine wPX ?_)
       |(refine oLX ?_;first
       |refine LX_nil ?_))
      refine PX_rnd (j + 1) ?_ ?_ (by repeat' (first | exact Sub.nil | refine Sub.val rfl (by first | with_reducible rfl | (congr 1; omega)) ?_ | refine Sub.same rfl ?_))
      · omega
      · omega
    · rw [hq] at hF0
      have hjq : j = fstQ q xs := by
        rcases Nat.lt_or_ge j (fstQ q xs) with h | h
        · rw [hq] at hb; cases hb h
        · omega
      rw [if_pos (by omega), ← hjq]
      repeat' (first
       |(refine oLA ?_;first
       |refine LA_pass rfl ?_|(refine wOpB ?_;try dsimp only [Int.reduceToNat, Int.reducePow])|refine wOp ?_|(refine wOpD ?_;try dsimp only [Int.reduceToNat, Int.toNat_natCast])|(refine LA_cmp rfl rfl rfl rfl (fun hc => ?_) (fun hc => ?_)<;>dsimp only [cmpP] at hc)|(refine oCv ?_;first
       |(refine LA_callV1 rfl rfl rfl (.val (.bool true)) (by intro vf u1 w' e hf hu1; obtain rfl : vf = _ := hf; obtain rfl : u1 = _ := hu1; exact hF0 w' e) ?_))|(refine LA_nil (hK [] _ (LX_nil ?_));clear hK K)|(refine LA_nil (hK _ ?_);clear hK K))
       |(refine oCX ?_;first
       |refine wCX ?_|(refine wCR ?_;intro K hK))
       |(refine oPX ?_;first
       |refine wPX ?_
       |exact PX_retE rfl rfl (Ext.refl _) rfl)
       |(refine oLX ?_;first
       |refine LX_nil ?_))
      all_goals skip
  · rw [if_neg (by omega)]
    repeat' (first
     |(refine oLA ?_;first
     |refine LA_pass rfl ?_|(refine wOpB ?_;try dsimp only [Int.reduceToNat, Int.reducePow])|refine wOp ?_|(refine wOpD ?_;try dsimp only [Int.reduceToNat, Int.toNat_natCast])|(refine LA_cmp rfl rfl rfl rfl (fun hc => ?_) (fun hc => ?_)<;>dsimp only [cmpP] at hc)|(refine LA_nil (hK [] _ (LX_nil ?_));clear hK K)|(refine LA_nil (hK _ ?_);clear hK K))
     |(refine oCX ?_;first
     |refine wCX ?_|(refine wCR ?_;intro K hK))
     |(refine oPX ?_;first
     |refine wPX ?_
     |exact PX_retE rfl rfl (Ext.refl _) rfl)
     |(refine oLX ?_;first
     |refine LX_nil ?_))
    all_goals skip
set_option maxHeartbeats 4000000 in
theorem delf_c (w0 w : World) (he0 : Ext w0 w) (v fv : Value) (xs : List Int) (q : Nat → Bool) (ho0 : OwnI w0.heap.size 29 .u16 w v xs) (hl : Low xs) (hn : xs.length ≤ 65536) (hF : Tells w0 fv q) :
    Fc Tryd.prog 79 #[v, fv] w (fun en w' => ∃ v', en = .returned v' ∧ OwnI w0.heap.size 29 .u16 w' v' (keepS q xs) ∧ Ext w0 w') := by
  have hle := fstQ_le q xs
  have hix : ∀ w', Ext w w' → _ := fun w' e => idxf_c w' v fv xs q (ho0.ext e).slI hl (hF.ext (he0.trans e))
  by_cases hall : fstQ q xs < xs.length
  · rw [if_pos hall] at hix
    have hst := Mid.start q hall
    obtain ⟨i0, hi0⟩ : ∃ i0, i0 = fstQ q xs := ⟨_, rfl⟩
    rw [← hi0] at hix hall hle hst
    refine Fc.of (args := [_, _]) Tryd.func79 rfl rfl Tryd.ntmps79 (Nat.le_of_ble_eq_true rfl) ?_
    repeat' (first
     |(refine oLA ?_;first
     |refine LA_pass rfl ?_|(refine wOpB ?_;try dsimp only [Int.reduceToNat, Int.reducePow])|refine wOp ?_|(refine wOpD ?_;try dsimp only [Int.reduceToNat, Int.toNat_natCast])|(refine LA_cmp rfl rfl rfl rfl (fun hc => ?_) (fun hc => ?_)<;>dsimp only [cmpP] at hc)|(refine oCv ?_;first
     |(refine oC 100 ?_; refine LA_call2 (f := 100) rfl rfl rfl rfl  (.val (.int .i64 i0)) (by intro u1 u2 w e hu1 hu2; (try obtain rfl : u1 = _ := hu1); (try obtain rfl : u2 = _ := hu2); exact hix _ e) ?_))|(refine LA_nil (hK [] _ (LX_nil ?_));clear hK K)|(refine LA_nil (hK _ ?_);clear hK K))
     |(refine oCX ?_;first
     |refine wCX ?_|(refine wCR ?_;intro K hK))
     |(refine oPX ?_;first
     |refine wPX ?_)
     |(refine oLX ?_;first
     |refine LX_nil ?_))
    refine CX_loopV (ι := (Nat × Nat) × List Int) (fun s => [(0, .val v), (1, .val fv), (5, .val (.int .i64 s.1.1)), (6, .val (.int .i64 s.1.2))]) (fun s w' => Ext w0 w' ∧ Mid q xs s.2 s.1.1 s.1.2 ∧ OwnI w0.heap.size 29 .u16 w' v s.2) (fun s => xs.length - s.1.2)
      (fun w2 e2 => ⟨((i0, i0 + 1), xs), ⟨he0.trans e2, hst, ho0.ext e2⟩, (by repeat' (first | exact Sub.nil | refine Sub.val rfl (by first | with_reducible rfl | (congr 1; omega)) ?_ | refine Sub.same rfl ?_))⟩) ?_
    rintro ⟨⟨i, j⟩, ys⟩ w1 ⟨he, hM, ho⟩
    dsimp only at hM ho ⊢
    have m1 := hM.len
    have m2 := hM.lt
    have m3 := hM.le
    clear hix ho0 hst
    by_cases hjl : j < xs.length
    · have hcur := hM.cur hjl
      have hx : 0 ≤ xs.getD j 0 ∧ xs.getD j 0 < 65536 := by rw [getD_eq hjl]; exact hl _ (List.getElem_mem hjl)
      obtain ⟨x, hxx⟩ := Int.eq_ofNat_of_zero_le hx.1
      have hx' : x < 65536 := by omega
      have hF0 : ∀ w', Ext w1 w' → Clb Tryd.prog fv [.int .u16 (ys.getD j 0)] w' (Ret w' (.val (.bool (q x)))) := fun w' e => by rw [hcur, hxx]; exact hF w' (he.trans e) x hx'
      have hqq : q (xs.getD j 0).toNat = q x := by rw [hxx]; rfl
      obtain ⟨gb, cap, cur, rfl, hgb, hgc, hgn, hgm, hgs, hgt⟩ := ho.row (by omega)
      cases hq : q x
      · rw [hq] at hF0 hqq
        have hM' := hM.put hjl hqq
        rw [← hcur] at hM'
        repeat' (first
         |(refine oLA ?_;first
         |refine LA_pass rfl ?_
         |(refine oD 33 ?_; refine LA_indexS (s := 1) rfl rfl (fun _ => rfl) rfl rfl (by omega) (by omega) ?_; rw [Int.toNat_natCast])
         |(refine LA_stop (hK _ _ (LX_store1 (o := 0 + i * 1) rfl rfl rfl hgc (fun _ => rfl) (by omega) rfl rfl (fun w4 e4 => ?_))); clear hK K; dsimp only [vals])|(refine wOpB ?_;try dsimp only [Int.reduceToNat, Int.reducePow])|refine wOp ?_|(refine wOpD ?_;try dsimp only [Int.reduceToNat, Int.toNat_natCast])|(refine LA_cmp rfl rfl rfl rfl (fun hc => ?_) (fun hc => ?_)<;>dsimp only [cmpP] at hc)|(refine oCv ?_;first
         |(refine LA_callV1 rfl rfl rfl (.val (.bool false)) (by intro vf u1 w' e hf hu1; obtain rfl : vf = _ := hf; obtain rfl : u1 = _ := hu1; exact hF0 w' e) ?_))|(refine LA_nil (hK [] _ (LX_nil ?_));clear hK K)|(refine LA_nil (hK _ ?_);clear hK K))
         |(refine oCX ?_;first
         |refine wCX ?_|(refine wCR ?_;intro K hK))
         |(refine oPX ?_;first
         |refine wPX ?_)
         |(refine oLX ?_;first
         |refine LX_nil ?_))
        all_goals skip
        refine PX_rndV ((i + 1, j + 1), ys.set i (ys.getD j 0)) (fun w5 e5 => ⟨((he.trans e4).setRow hgb _).trans e5, hM', ?_⟩) (by dsimp only; omega) (by repeat' (first | exact Sub.nil | refine Sub.val rfl (by first | with_reducible rfl | (congr 1; omega)) ?_ | refine Sub.same rfl ?_))
        have hh := OwnI.set hgb (e4.block hgc) hgn hgm hgs hgt (0 + i * 1) (by omega) (ys.getD j 0)
        rw [show 0 + i * 1 = i by omega] at hh e5
        exact OwnI.ext hh e5
      · rw [hq] at hF0 hqq
        have hM' := hM.skip hjl hqq
        repeat' (first
         |(refine oLA ?_;first
         |refine LA_pass rfl ?_|(refine wOpB ?_;try dsimp only [Int.reduceToNat, Int.reducePow])|refine wOp ?_|(refine wOpD ?_;try dsimp only [Int.reduceToNat, Int.toNat_natCast])|(refine LA_cmp rfl rfl rfl rfl (fun hc => ?_) (fun hc => ?_)<;>dsimp only [cmpP] at hc)|(refine oCv ?_;first
         |(refine LA_callV1 rfl rfl rfl (.val (.bool true)) (by intro vf u1 w' e hf hu1; obtain rfl : vf = _ := hf; obtain rfl : u1 = _ := hu1; exact hF0 w' e) ?_))|(refine LA_nil (hK [] _ (LX_nil ?_));clear hK K)|(refine LA_nil (hK _ ?_);clear hK K))
         |(refine oCX ?_;first
         |refine wCX ?_|(refine wCR ?_;intro K hK))
         |(refine oPX ?_;first
         |refine wPX ?_)
         |(refine oLX ?_;first
         |refine LX_nil ?_))
        all_goals skip
        exact PX_rndV ((i, j + 1), ys) (fun w5 e5 => ⟨he.trans e5, hM', ho.ext e5⟩) (by dsimp only; omega) (by repeat' (first | exact Sub.nil | refine Sub.val rfl (by first | with_reducible rfl | (congr 1; omega)) ?_ | refine Sub.same rfl ?_))
    · obtain rfl : j = xs.length := by omega
      have hfin := hM.fin
      have hkl : (keepS q xs).length = i := by rw [← hfin, List.length_take]; omega
      obtain ⟨gb, cap, cur, rfl, hgb, hgc, hgn, hgm, hgs, hgt⟩ := ho.row (by omega)
      have hsl : subS (.slice (some ⟨gb, 0, none⟩) ys.length cap) i ys.length 1 = .slice (some ⟨gb, 0 + i * 1, none⟩) (ys.length - i) (cap - i) := by rw [sub_lit (by omega)]; simp
      have hsh : subS (.slice (some ⟨gb, 0, none⟩) ys.length cap) 0 i 1 = .slice (some ⟨gb, 0, none⟩) i cap := by rw [sub_lit (by omega)]; simp
      repeat' (first
       |(refine oLA ?_;first
       |refine LA_pass rfl ?_
       |(refine oD 38 ?_; refine LA_sliceL (n := ys.length) (s := 1) (i := (i : Int)) rfl _ rfl rfl (HasI.ownV ho).c rfl (by omega) (by omega) (fun _ => rfl) ?_; rw [Int.toNat_natCast, hsl])
       |(refine LA_stop (hK _ _ (LX_clear (b := gb) (o := 0 + i * 1) (m := ys.length - i) (c := cap - i) rfl rfl (fun _ => rfl) rfl rfl rfl hgc (by omega) (fun w4 cur4 e4 hs4 ht4 => ?_))); clear hK K; dsimp only [vals])|(refine wOpB ?_;try dsimp only [Int.reduceToNat, Int.reducePow])|refine wOp ?_|(refine wOpD ?_;try dsimp only [Int.reduceToNat, Int.toNat_natCast])|(refine LA_cmp rfl rfl rfl rfl (fun hc => ?_) (fun hc => ?_)<;>dsimp only [cmpP] at hc)|(refine LA_nil (hK [] _ (LX_nil ?_));clear hK K)|(refine LA_nil (hK _ ?_);clear hK K))
       |(refine oCX ?_;first
       |refine wCX ?_|(refine wCR ?_;intro K hK))
       |(refine oPX ?_;first
       |refine wPX ?_)
       |(refine oLX ?_;first
       |refine LX_nil ?_))
      all_goals skip
      have hb4 := setRow_heap w4 gb cur cur4 29 (0, 0) (e4.block hgc)
      have hown : OwnI w0.heap.size 29 .u16 (w4.setRow gb cur4) (.slice (some ⟨gb, 0, none⟩) i cap) (keepS q xs) := by
        refine ⟨by simp, .inr ⟨gb, cap, cur4, by rw [hkl], hgb, hb4, by rw [hkl]; omega, hgm, by omega, ?_⟩⟩
        rw [hkl, Nat.mul_one, ← hfin, List.map_take, ← hgt]
        rw [show (0 + i * 1) = i by omega] at ht4
        rw [ht4, List.take_take, Nat.min_eq_left (by omega)]
      have hcs : SlC (w4.setRow gb cur4) (.slice (some ⟨gb, 0, none⟩) ys.length cap) ys.length 1 (cur4.toList.take ys.length) :=
        ⟨by simp; omega, _, cap, rfl, hgn, hgm, (fun h => by cases h), .inr ⟨gb, 0, rfl, fun j c hj => by
          rw [cell_of_row _ gb _ cur4 _ (0, 0) hb4, ← Array.getElem?_toList]
          rw [List.getElem?_take] at hj
          split at hj
          · simpa using hj
          · cases hj⟩⟩
      repeat' (first
       |(refine oLA ?_;first
       |refine LA_pass rfl ?_
       |(refine oD 41 ?_; refine LA_sliceH (n := ys.length) (s := 1) (i := (i : Int)) rfl _ rfl rfl (HasC.val hcs) rfl (by omega) (by omega) (fun _ => rfl) ?_; rw [Int.toNat_natCast, hsh])|(refine wOpB ?_;try dsimp only [Int.reduceToNat, Int.reducePow])|refine wOp ?_|(refine wOpD ?_;try dsimp only [Int.reduceToNat, Int.toNat_natCast])|(refine LA_cmp rfl rfl rfl rfl (fun hc => ?_) (fun hc => ?_)<;>dsimp only [cmpP] at hc)|(refine LA_nil (hK [] _ (LX_nil ?_));clear hK K)|(refine LA_nil (hK _ ?_);clear hK K))
       |(refine oCX ?_;first
       |refine wCX ?_|(refine wCR ?_;intro K hK))
       |(refine oPX ?_;first
       |refine wPX ?_)
       |(refine oLX ?_;first
       |refine LX_nil ?_))
      all_goals skip
      all_goals exact PX_ret1 rfl (fun v' w' e hv => by obtain rfl : v' = _ := hv; exact ⟨_, rfl, hown.ext e, ((he.trans e4).setRow hgb _).trans e⟩)
  · rw [if_neg hall] at hix
    have hk : keepS q xs = xs := keepS_all q (by omega)
    rw [hk]
    refine Fc.of (args := [_, _]) Tryd.func79 rfl rfl Tryd.ntmps79 (Nat.le_of_ble_eq_true rfl) ?_
    repeat' (first
     |(refine oLA ?_;first
     |refine LA_pass rfl ?_|(refine wOpB ?_;try dsimp only [Int.reduceToNat, Int.reducePow])|refine wOp ?_|(refine wOpD ?_;try dsimp only [Int.reduceToNat, Int.toNat_natCast])|(refine LA_cmp rfl rfl rfl rfl (fun hc => ?_) (fun hc => ?_)<;>dsimp only [cmpP] at hc)|(refine oCv ?_;first
     |(refine oC 100 ?_; refine LA_call2 (f := 100) rfl rfl rfl rfl  (.val (.int .i64 (-1))) (by intro u1 u2 w e hu1 hu2; (try obtain rfl : u1 = _ := hu1); (try obtain rfl : u2 = _ := hu2); exact hix _ e) ?_))|(refine LA_nil (hK [] _ (LX_nil ?_));clear hK K)|(refine LA_nil (hK _ ?_);clear hK K))
     |(refine oCX ?_;first
     |refine wCX ?_|(refine wCR ?_;intro K hK))
     |(refine oPX ?_;first
     |refine wPX ?_)
     |(refine oLX ?_;first
     |refine LX_nil ?_))
    all_goals skip
    all_goals exact PX_ret1 rfl (fun v' w' e hv => by obtain rfl : v' = _ := hv; exact ⟨_, rfl, ho0.ext e, he0.trans e⟩)
end Go.Proofs.YtjiacignpmabcaaDoor
