import Derived.Test.YtadpcgjohleglaaGreatDoorM20
import Derived.Test.YtadpcgjohleglaaGreatDoorM23
section
set_option linter.unusedSimpArgs false
set_option linter.unusedVariables false
set_option maxRecDepth 3000
namespace Go.Proofs.YtadpcgjohleglaaGreatDoor
open Go.LA Go.ArrP Go.RowKit
set_option maxHeartbeats 4000000 in
theorem ccA {w : World} {v : Value} {ids : List Int} {many : Int} (h : SlI .i64 w v ids) (hT : Tab w) : Fc Tryz.prog 17 #[v, .int .i64 many] w (Ret w (ofX tRg (alA ids many) many.toNat fun i => sumP ids (i + 1))) := by
  have hl := h.len
  have hmx := a9A ids many
  by_cases hsz : ¬ (0 ≤ many ∧ many ≤ 16777216 ∧ ids.length ≤ 16777216)
  · have hmf : alA ids many = false := by
      cases hm : alA ids many
      · rfl
      · have := hmx.1 hm; exact absurd ⟨this.1, this.2.1, this.2.2.1⟩ hsz
    rw [hmf]
    refine Fc.of (args := [_, _]) Tryz.func17 rfl rfl Tryz.ntmps17 (Nat.le_of_ble_eq_true rfl) ?_
    by_cases c1 : many < 0
    · skip
      repeat' (first|(refine oLA ?_;first|refine LA_pass rfl ?_|refine wOp ?_|(refine wCm ?_ ?_<;>intro hc)|(refine wNl hK ?_;clear hK K))|refine wG ?_|(refine wCR ?_;intro K hK)|fail)
      all_goals exact PX_retE2 rfl rfl rfl (Ext.refl _) rfl rfl
    · by_cases c2 : 16777216 < many
      · skip
        repeat' (first|(refine oLA ?_;first|refine LA_pass rfl ?_|refine wOp ?_|(refine wCm ?_ ?_<;>intro hc)|(refine wNl hK ?_;clear hK K))|refine wG ?_|(refine wCR ?_;intro K hK)|fail)
        all_goals exact PX_retE2 rfl rfl rfl (Ext.refl _) rfl rfl
      · have c3 : 16777216 < (ids.length : Int) := by omega
        repeat' (first|(refine oLA ?_;first|refine LA_pass rfl ?_|refine wOp ?_|(refine wCm ?_ ?_<;>intro hc)|(refine wNl hK ?_;clear hK K))|refine wG ?_|(refine wCR ?_;intro K hK)|fail)
        all_goals exact PX_retE2 rfl rfl rfl (Ext.refl _) rfl rfl
  obtain ⟨s0, s1, s2⟩ := Decidable.not_not.1 hsz
  obtain ⟨n, rfl⟩ := Int.eq_ofNat_of_zero_le s0
  refine Fc.of (args := [_, _]) Tryz.func17 rfl rfl Tryz.ntmps17 (Nat.le_of_ble_eq_true rfl) ?_
  repeat' (first|(refine oLA ?_;first|refine LA_pass rfl ?_|(refine oD 24 ?_; refine bfA rfl ceA rfl rfl rfl (by omega) (by omega) ?_)|refine wOp ?_|(refine wCm ?_ ?_<;>intro hc)|(refine wNl hK ?_;clear hK K))|(refine oCX ?_;first|refine CX_seqW (id := 4) (ι := Value × List Value) (fun j => [(0, .val v), (1, .val (.int .i64 n)), (6, .val j.1)]) (fun j w' => Ext w w' ∧ RowsV w' w.heap.size j.1 j.2 n (fun i => a1A ids i ids.length) ∧ alA ids n = true) ?_ ?_)|refine wG ?_|(refine wCR ?_;intro K hK)|fail)
  all_goals skip
  · skip
    refine CX_pick 6 rfl (fun v6 w6 e6 h6 => ?_)
    refine CX_loopV (ι := Nat × List Value) (fun j => [(0, .val v), (1, .val (.int .i64 n)), (6, .val v6), (25, .val v), (26, .val (.int .i64 ids.length)), (27, .val (.int .i64 j.1))])
      (fun j w' => Ext w w' ∧ j.1 ≤ ids.length ∧ RowsV w' w.heap.size v6 j.2 n (fun i => a1A ids i j.1) ∧ ∀ i, i < j.1 → 0 ≤ ids.getD i 0 ∧ ids.getD i 0 < (n : Int))
      (fun j => ids.length - j.1) (fun w2 e2 => ⟨(0, List.replicate n nilS), ⟨e6.trans e2, Nat.zero_le _, (RowsV.new h6).ext e2, fun i hi => absurd hi (Nat.not_lt_zero _)⟩, (by repeat' (first | exact Sub.nil | refine Sub.val rfl (by first | with_reducible rfl | (congr 1; omega)) ?_ | refine Sub.same rfl ?_))⟩) ?_
    rintro ⟨k, vs⟩ w1 ⟨he, hk0, hr, hall⟩
    dsimp only at hk0 hr hall ⊢
    by_cases hk : k < ids.length
    · by_cases hid : 0 ≤ ids.getD k 0 ∧ ids.getD k 0 < (n : Int)
      · obtain ⟨id, hx⟩ := Int.eq_ofNat_of_zero_le hid.1
        have hx' : ids.getD k 0 = ((id : Nat) : Int) := hx
        have hidn : id < n := by have := hid.2; omega
        have hrl := a7A ids id k
        obtain ⟨rb, cap, cur, rfl, hrb, hrc, hnc, hcm, hcs, hct⟩ := hr.own.rowV (by omega)
        have hrn := apA hx'
        repeat' (first|(refine oLA ?_;first|refine LA_pass rfl ?_|(refine oD 30 ?_; refine LA_indexN rfl _ rfl (fun _ => rfl) rfl (HasI.val (h.ext he)) rfl hk ?_; rw [hx'])|(refine oD 43 ?_; refine a2A rfl _ rfl (fun _ => rfl) rfl (HasC.ownV hr.own) rfl id rfl hidn hr.own.lenV ?_)|(refine oD 47 ?_; refine LA_one rfl byA rfl rfl ?_)|(refine oD 48 ?_; refine LA_stop (hK _ _ (LX_appendL rfl (by decide) byA rfl (hr.at_ id hidn) rfl HasC.pred (fun u hu => by rw [List.mem_singleton] at hu; subst hu; rfl) (by unfold maxLen; omega) (by omega) (fun v' w2 w3 e2 ho3 hf3 hl3 => ?_))); clear hK K; have hc3 := hf3.at (e2.block hrc) (fun hk' => Own.apart (hr.at_ id hidn) hrc (by decide) hk'); obtain ⟨ck1, ck2⟩ := own_cells ho3; refine LX_la (by kernel_rfl) (fun K hK => ?_))|(refine oD 49 ?_; refine LA_indexS (s := 1) rfl rfl (fun _ => rfl) rfl rfl (by omega) (by omega) ?_; rw [Int.toNat_natCast, Nat.zero_add, Nat.mul_one])|(refine LA_stop (hK _ _ (LX_store1 rfl rfl rfl hc3 (fun _ => rfl) (by omega) ck1 ck2 (fun w4 e4 => ?_))); clear hK K; dsimp only [vals]; refine LX_la (by kernel_rfl) (fun K hK => ?_))|refine wOp ?_|(refine wCm ?_ ?_<;>intro hc)|(refine wNl hK ?_;clear hK K))|refine wG ?_|(refine wCR ?_;intro K hK)|fail)
        all_goals skip
        have x3 : Ext w w3 := Fr.ext (he.trans e2) hf3 (fun q hq => (Own.lt (hr.at_ id hidn) q hq).1)
        have hr4 := hr.put (w3 := w4) (ys := fun i => a1A ids i (k + 1)) hrb hrc hnc hcm hcs hct hidn he.size e2 hf3 hl3 (by rw [hrn, List.map_append, List.length_append]; exact ho3) e4 (fun j hj => aiA (by rw [hx']; omega))
        have x4 := (x3.trans e4).setRow hrb (cur.setIfInBounds id v')
        refine PX_rndV (k + 1, vs.set id v') (fun w5 e5 => ⟨x4.trans e5, hk, hr4.ext e5, fun i hi => ?_⟩) (by dsimp only; omega) (by repeat' (first | exact Sub.nil | refine Sub.val rfl (by first | with_reducible rfl | (congr 1; omega)) ?_ | refine Sub.same rfl ?_))
        by_cases e : i = k
        · rw [e]; exact hid
        · exact hall i (by omega)
      · have hmf : alA ids n = false := by
          cases hm : alA ids n
          · rfl
          · refine absurd ((hmx.1 hm).2.2.2 _ ?_) hid
            rw [List.getD_eq_getElem?_getD, List.getElem?_eq_getElem hk]; exact List.getElem_mem hk
        rw [hmf]
        rcases Int.lt_or_le (ids.getD k 0) 0 with c4 | c4
        all_goals
          repeat' (first|(refine oLA ?_;first|refine LA_pass rfl ?_|(refine oD 30 ?_; refine LA_indexN rfl _ rfl (fun _ => rfl) rfl (HasI.val (h.ext he)) rfl hk ?_)|refine wOp ?_|(refine wCm ?_ ?_<;>intro hc)|(refine wNl hK ?_;clear hK K))|refine wG ?_|(refine wCR ?_;intro K hK)|fail)
          all_goals skip
          all_goals exact PX_retE2 rfl rfl rfl he rfl rfl
    · obtain rfl : k = ids.length := by omega
      repeat' (first|(refine oLA ?_;first|refine LA_pass rfl ?_|refine wOp ?_|(refine wCm ?_ ?_<;>intro hc)|(refine wNl hK ?_;clear hK K))|refine wG ?_|(refine wCR ?_;intro K hK)|fail)
      all_goals skip
      exact PX_rndV (v6, vs) (fun w5 e5 => ⟨he.trans e5, hr.ext e5, hmx.2 ⟨s0, s1, s2, fun x hx => by
        obtain ⟨i, hi, rfl⟩ := List.getElem_of_mem hx
        have := hall i hi
        rw [List.getD_eq_getElem?_getD, List.getElem?_eq_getElem hi] at this; exact this⟩⟩) (by omega) (by repeat' (first | exact Sub.nil | refine Sub.val rfl (by first | with_reducible rfl | (congr 1; omega)) ?_ | refine Sub.same rfl ?_))
  rintro ⟨v6, vs⟩ w0 ⟨he0, hr0, hm⟩
  dsimp only at hr0
  rw [hm, Int.toNat_natCast]
  repeat' (first|(refine oLA ?_;first|refine LA_pass rfl ?_|refine LA_build0 (c := .agg #[nilS]) rfl (fun _ => by kernel_rfl) ?_|refine LA_box rfl rfl ?_|refine wOp ?_|(refine wCm ?_ ?_<;>intro hc)|(refine oCv ?_;first|(refine oC 12 ?_; refine LA_call0 (f := 12) rfl rfl  (.pred (rsP TT TT (fun _ => false))) (by intro w e; exact new_c _ tt) ?_))|(refine wNl hK ?_;clear hK K))|refine wG ?_|(refine wCR ?_;intro K hK)|fail)
  all_goals skip
  refine CX_pick 9 rfl (fun v9 w9 e9 h9 => ?_)
  refine CX_pick 10 rfl (fun v10 w10 e10 h10 => ?_)
  obtain ⟨b, hbb, rfl, hb9⟩ := h9
  have hbw : w.heap.size ≤ b := Nat.le_trans he0.size hbb
  have x9 := (he0.trans e9).trans e10
  refine CX_loopV (ι := Nat × Value × Value × List Value) (fun j => [(1, .val (.int .i64 n)), (6, .val v6), (9, .val (.pointer (some ⟨b, 0, none⟩))), (10, .val j.2.1), (54, .val (.int .i64 n)), (55, .val (.int .i64 j.1))])
    (fun j w' => Ext w w' ∧ j.1 ≤ n ∧ RowsV w' w.heap.size v6 vs n (fun i => a1A ids i ids.length) ∧ w'.heap[b]? = some (.cells #[j.2.2.1] tRg (0, 0)) ∧ Sets w' w.heap.size j.2.2.1 j.2.2.2 j.1 (fun i => sumP ids (i + 1)) ∧ RSet TT TT w' j.2.1 (sumP ids j.1))
    (fun j => n - j.1) (fun w2 e2 => ⟨(0, v10, nilS, []), ⟨x9.trans e2, Nat.zero_le _, (hr0.ext (e9.trans e10)).ext e2, (e10.trans e2).block hb9, ⟨Own.nil, fun i hi => absurd hi (Nat.not_lt_zero _)⟩, RSet.ext h10 e2⟩, (by repeat' (first | exact Sub.nil | refine Sub.val rfl (by first | with_reducible rfl | (congr 1; omega)) ?_ | refine Sub.same rfl ?_))⟩) ?_
  rintro ⟨k, sm, sv, ptrs⟩ w1 ⟨he, hk0, hr, hb1, hs, hsm⟩
  dsimp only at hk0 hr hb1 hs hsm ⊢
  by_cases hk : k < n
  · have hof : ∀ w' u, Ext w1 w' → u = vs.getD k undef → Fc Tryz.prog 36 #[u] w' (Ret w' (.pred (rsP TT TT (idP ids k)))) := fun w' u e hu => by
      rw [hu, ← azA]
      refine of_s ((hr.at_ k hk).ext e).slI (fun x hx => ?_) (by have := a7A ids k ids.length; omega) (hT.ext (he.trans e)) tt tt
      obtain ⟨y, h1, h2, h3⟩ := (abA ids k x ids.length).1 hx
      omega
    have hor : ∀ w' u, Ext w1 w' → RSet TT TT w' u (idP ids k) → Fc Tryz.prog 28 #[sm, u] w' (Ret w' (.pred (rsP TT TT (sumP ids (k + 1))))) := fun w' u e hu =>
      or_s (A := TT) (B := TT) (B1 := TT) (B2 := TT) (.inr (hsm.ext e)) (.inr hu) (hT.ext (he.trans e)) tt tt
    repeat' (first|(refine oLA ?_;first|refine LA_pass rfl ?_|(refine oD 61 ?_; refine a2A rfl _ rfl (fun _ => rfl) rfl (HasC.ownV hr.own) rfl k rfl hk hr.own.lenV ?_)|(refine oD 65 ?_; refine LA_stop (hK _ _ (LX_pick 10 rfl (fun v9 w2 e2 h2 => ?_))); clear hK K; have hb2 := e2.block hb1; have hs2 := hs.ext e2; have hs2' : RSet TT TT w2 v9 (sumP ids (k + 1)) := h2; obtain ⟨cv1, cv2⟩ := c1A _ _ h2; refine LX_la (by kernel_rfl) (fun K hK => LA_moveV rfl rfl ?_))|refine LA_nilCheck rfl rfl ?_|refine LA_fieldAddr (a' := ⟨b, 0, none⟩) rfl rfl (fun _ => rfl) ?_|(refine oD 69 ?_; refine LA_loadB (c := sv) rfl (fun _ => rfl) rfl hb2 rfl ?_)|(refine oD 71 ?_; refine LA_oneO rfl bzA rfl cv1 ?_)|(refine oD 72 ?_; refine LA_stop (hK _ _ (LX_appendL rfl (by decide) bzA rfl hs2.own rfl HasC.own (fun c hc => by rw [List.mem_singleton] at hc; subst hc; exact cv2) (by unfold maxLen; omega) (by omega) (fun sv' w4 w5 e4 hos hf hl => ?_))); clear hK K; have hb5 := hf.at (e4.block hb2) (fun hq => Own.apart hs2.own hb2 (by decide) hq); obtain ⟨ck1, ck2⟩ := own_cells hos; refine LX_la (by kernel_rfl) (fun K hK => ?_))|(refine LA_stop (hK _ _ (LX_store1 rfl rfl rfl hb5 (fun _ => rfl) (Nat.lt_succ_self 0) ck1 ck2 (fun w6 e6 => ?_))); clear hK K; dsimp only [vals]; refine LX_la (by kernel_rfl) (fun K hK => ?_))|refine wOp ?_|(refine wCm ?_ ?_<;>intro hc)|(refine oCv ?_;first|(refine oC 36 ?_; refine LA_call1 (f := 36) rfl rfl rfl  (.pred (rsP TT TT (idP ids k))) (by intro u1 w e hu1; (try obtain rfl : u1 = _ := hu1); exact hof _ _ e rfl) ?_)|(refine oC 28 ?_; refine LA_call2 (f := 28) rfl rfl rfl rfl  (.pred (rsP TT TT (sumP ids (k + 1)))) (by intro u1 u2 w e hu1 hu2; (try obtain rfl : u1 = _ := hu1); (try obtain rfl : u2 = _ := hu2); exact hor _ _ e hu2) ?_))|(refine wNl hK ?_;clear hK K))|refine wG ?_|(refine wCR ?_;intro K hK)|fail)
    all_goals skip
    have x4 := e2.trans e4
    have hR : ∀ q, sv.ownBlock = some q → ∃ cur, w4.heap[q]? = some (.cells cur tPs (0, 0)) := fun q hq => own_type (hs.own.ext x4) hq
    have hr5 : RowsV w5 w.heap.size v6 vs n (fun i => a1A ids i ids.length) := (hr.ext x4).fr hf (fun q hq => by obtain ⟨cur, hc⟩ := hR q hq; exact ⟨cur, _, hc, by decide, by decide⟩)
    have hRs : ∀ {p : Nat → Bool} {vv : Value}, RSet TT TT w4 vv p → RSet TT TT w5 vv p := fun hh => hh.off hf (fun q hq => by obtain ⟨cur, hc⟩ := hR q hq; exact ⟨cur, _, hc, by decide, by decide, by decide, by decide, by decide⟩)
    have hs9 := hRs (hs2'.ext e4)
    have hs5 : ∀ i, i < k + 1 → RSet TT TT w5 ((ptrs ++ [v9]).getD i undef) (sumP ids (i + 1)) := fun i hi => by
      rw [b1A hs.own.lenV]
      by_cases e : i < k
      · rw [if_pos e]; exact hRs ((hs.at_ i e).ext x4)
      · obtain rfl : i = k := by omega
        rw [if_neg e, if_pos rfl]; exact hs9
    have hsv5 : Own w.heap.size tPs 1 w5 sv' (k + 1) (ptrs ++ [v9]) := Own.rebase hos (hl.ge (fun q hq => (Own.lt hs.own q hq).1) (Nat.le_trans he.size x4.size))
    have x5 : Ext w w5 := Fr.ext (he.trans x4) hf (fun q hq => (Own.lt hs.own q hq).1)
    have hset : (#[sv] : Array Value).setIfInBounds 0 sv' = #[sv'] := rfl
    rw [hset]
    have hb6 := e6.block hb5
    have hfr : Fr (fun q => q = b) w6 (w6.setRow b #[sv']) := Fr.setRow (R := fun q => q = b) (Fr.of (Ext.refl _)) rfl _
    have hRb : ∀ q, q = b → ∃ cur e, w6.heap[q]? = some (.cells cur e (0, 0)) ∧ e = tRg := fun q hq => by subst hq; exact ⟨_, _, hb6, rfl⟩
    have hb7 : (w6.setRow b #[sv']).heap[b]? = some (.cells #[sv'] tRg (0, 0)) := setRow_heap w6 b _ _ _ _ hb6
    have hr7 := (hr5.ext e6).fr hfr (fun q hq => by obtain ⟨cur, e, h1, rfl⟩ := hRb q hq; exact ⟨cur, _, h1, by decide, by decide⟩)
    have hRt : ∀ {p : Nat → Bool} {vv : Value}, RSet TT TT w5 vv p → RSet TT TT (w6.setRow b #[sv']) vv p := fun hh => (hh.ext e6).off hfr (fun q hq => by obtain ⟨cur, e, h1, rfl⟩ := hRb q hq; exact ⟨cur, _, h1, by decide, by decide, by decide, by decide, by decide⟩)
    have hs7 : Sets (w6.setRow b #[sv']) w.heap.size sv' (ptrs ++ [v9]) (k + 1) (fun i => sumP ids (i + 1)) :=
      ⟨Own.setRow (hsv5.ext e6) _ (Own.apart (hsv5.ext e6) hb6 (by decide)), fun i hi => hRt (hs5 i hi)⟩
    have x7 := (x5.trans e6).setRow hbw #[sv']
    exact PX_rndV (k + 1, v9, sv', ptrs ++ [v9]) (fun w8 e8 => ⟨x7.trans e8, hk, hr7.ext e8, e8.block hb7, hs7.ext e8, (hRt hs9).ext e8⟩) (by dsimp only; omega) (by repeat' (first | exact Sub.nil | refine Sub.val rfl (by first | with_reducible rfl | (congr 1; omega)) ?_ | refine Sub.same rfl ?_))
  · obtain rfl : k = n := by omega
    repeat' (first|(refine oLA ?_;first|refine LA_pass rfl ?_|refine wOp ?_|(refine wCm ?_ ?_<;>intro hc)|(refine wNl hK ?_;clear hK K))|refine wG ?_|(refine wCR ?_;intro K hK)|fail)
    all_goals skip
    refine PX_ret2 rfl (fun x y w5 e5 hx hy => ⟨_, rfl, he.trans e5, x, y, rfl, ?_, hy⟩)
    obtain rfl : x = _ := hx
    have h8 := hs.ext e5
    exact ⟨b, sv, ptrs, rfl, e5.block hb1, ⟨Own.base h8.own (Nat.zero_le _), h8.at_⟩⟩
theorem bgA {w : World} {v : Value} {n : Nat} {ps : Nat → Nat → Bool} (h : NIX tRg n ps w v) : Fc Tryz.prog 29 #[v] w (Ret w (.val (.int .i64 n))) := by
  rcases h with ⟨rfl, rfl⟩ | ⟨b, sv, ptrs, rfl, hb, hs⟩
  · refine Fc.of (args := [_]) Tryz.func29 rfl rfl Tryz.ntmps29 (Nat.le_of_ble_eq_true rfl) ?_
    repeat' (first|(refine oLA ?_;first|refine LA_pass rfl ?_|(refine oD 4 ?_; refine LA_binV (c := .bool true) rfl rfl rfl (fun _ => rfl) ?_)|refine wOp ?_|(refine wCm ?_ ?_<;>intro hc)|(refine wNl hK ?_;clear hK K))|refine wG ?_|(refine wCR ?_;intro K hK)|fail)
    exact PX_retE rfl rfl (Ext.refl _) rfl
  · refine Fc.of (args := [_]) Tryz.func29 rfl rfl Tryz.ntmps29 (Nat.le_of_ble_eq_true rfl) ?_
    repeat' (first|(refine oLA ?_;first|refine LA_pass rfl ?_|(refine oD 4 ?_; refine LA_binV (c := .bool false) rfl rfl rfl (fun _ => rfl) ?_)|refine LA_nilCheck rfl rfl ?_|refine LA_fieldAddr (a' := ⟨b, 0, none⟩) rfl rfl (fun _ => rfl) ?_|(refine oD 8 ?_; refine LA_loadB (c := sv) rfl (fun _ => rfl) rfl hb rfl ?_)|(refine oLen ?_; refine LA_len rfl _ rfl rfl (HasC.ownV hs.own) ?_)|refine wOp ?_|(refine wCm ?_ ?_<;>intro hc)|(refine wNl hK ?_;clear hK K))|refine wG ?_|(refine wCR ?_;intro K hK)|fail)
    exact PX_retE rfl rfl (Ext.refl _) rfl
theorem rby_0 {w : World} {v : Value} {ps : Nat → Nat → Bool} (h : NIX tRg 0 ps w v) : Fc Tryz.prog 30 #[v] w (Ret w (.val nilS)) := by
  refine Fc.of (args := [_]) Tryz.func30 rfl rfl Tryz.ntmps30 (Nat.le_of_ble_eq_true rfl) ?_
  repeat' (first|(refine oLA ?_;first|refine LA_pass rfl ?_|refine wOp ?_|(refine wCm ?_ ?_<;>intro hc)|(refine oCv ?_;first|(refine oC 29 ?_; refine LA_call1 (f := 29) rfl rfl rfl  (.val (.int .i64 (0 : Nat))) (by intro u1 w e hu1; (try obtain rfl : u1 = _ := hu1); exact bgA (h.ext e)) ?_))|(refine wNl hK ?_;clear hK K))|refine wG ?_|(refine wCR ?_;intro K hK)|fail)
  refine CX_loop (ι := Unit) (fun _ => [(3, .val nilS), (6, .val (.int .i64 (0 : Nat))), (7, .val (.int .i64 0))]) (fun _ => True) (fun _ => 0) () trivial (by repeat' (first | exact Sub.nil | refine Sub.val rfl (by first | with_reducible rfl | (congr 1; omega)) ?_ | refine Sub.same rfl ?_)) ?_
  intro _ _
  repeat' (first|(refine oLA ?_;first|refine LA_pass rfl ?_|refine wOp ?_|(refine wCm ?_ ?_<;>intro hc)|(refine wNl hK ?_;clear hK K))|refine wG ?_|(refine wCR ?_;intro K hK)|fail)
  all_goals skip
  exact PX_retE rfl rfl (Ext.refl _) rfl
theorem a6A {w : World} {v : Value} {n : Nat} {ps : Nat → Nat → Bool} (h : NIX tRg n ps w v) (hn : n ≤ 16777216) {B : Nat → Prop} (hB : Fsh B w) (id : Int) : Fc Tryz.prog 18 #[v, .int .i64 id] w (Ret w (.pred (rsP B TT (upP n ps id)))) := by
  have hB' : ∀ w', Ext w w' → Fsh B w' := fun w' e => hB.ext e
  obtain ⟨m, hm⟩ : ∃ m, m = min id ((n : Int) - 1) := ⟨_, rfl⟩
  by_cases hid : 0 ≤ m
  · have hr : upP n ps id = ps m.toNat := by unfold upP; rw [← hm, if_pos hid]
    rw [hr]
    obtain ⟨j, rfl⟩ := Int.eq_ofNat_of_zero_le hid
    rw [Int.toNat_natCast]
    have hj : j < n := by omega
    have hh := h
    rcases hh with ⟨rfl, rfl⟩ | ⟨b, sv, ptrs, rfl, hb, hs⟩
    · omega
    have hp := hs.at_ j hj
    have hcp : ∀ w', Ext w w' → _ := fun w' e => copy_s (.inr (hp.ext e)) (B' := B) (A' := TT) (hB' w' e) (fun _ _ _ => trivial)
    refine Fc.of (args := [_, _]) Tryz.func18 rfl rfl Tryz.ntmps18 (Nat.le_of_ble_eq_true rfl) ?_
    repeat' (first|(refine oLA ?_;first|refine LA_pass rfl ?_|(refine LA_min2 rfl rfl rfl ?_; rw [← hm])|refine LA_nilCheck rfl rfl ?_|refine LA_fieldAddr (a' := ⟨b, 0, none⟩) rfl rfl (fun _ => rfl) ?_|(refine oD 16 ?_; refine LA_loadB (c := sv) rfl (fun _ => rfl) rfl hb rfl ?_)|(refine oD 18 ?_; refine a2A rfl _ rfl (fun _ => rfl) rfl (HasC.ownV hs.own) rfl j rfl hj hs.own.lenV ?_)|refine wOp ?_|(refine wCm ?_ ?_<;>intro hc)|(refine oCv ?_;first|(refine oC 29 ?_; refine LA_call1 (f := 29) rfl rfl rfl  (.val (.int .i64 n)) (by intro u1 w e hu1; (try obtain rfl : u1 = _ := hu1); exact bgA (h.ext e)) ?_)|(refine oC 44 ?_; refine LA_call1 (f := 44) rfl rfl rfl  (.pred (rsP B TT (ps j))) (by intro u1 w e hu1; (try obtain rfl : u1 = _ := hu1); exact hcp _ e) ?_))|(refine wNl hK ?_;clear hK K))|refine wG ?_|(refine wCR ?_;intro K hK)|fail)
    all_goals skip
    all_goals exact PX_retP rfl rfl (Ext.refl _) (fun _ _ _ hv => hv)
  · have hr : upP n ps id = fun _ => false := by unfold upP; rw [← hm, if_neg hid]
    rw [hr]
    refine Fc.of (args := [_, _]) Tryz.func18 rfl rfl Tryz.ntmps18 (Nat.le_of_ble_eq_true rfl) ?_
    repeat' (first|(refine oLA ?_;first|refine LA_pass rfl ?_|(refine LA_min2 rfl rfl rfl ?_; rw [← hm])|refine wOp ?_|(refine wCm ?_ ?_<;>intro hc)|(refine oCv ?_;first|(refine oC 29 ?_; refine LA_call1 (f := 29) rfl rfl rfl  (.val (.int .i64 n)) (by intro u1 w e hu1; (try obtain rfl : u1 = _ := hu1); exact bgA (h.ext e)) ?_)|(refine oC 12 ?_; refine LA_call0 (f := 12) rfl rfl  (.pred (rsP B TT (fun _ => false))) (by intro w e; exact new_c _ (hB' _ e)) ?_))|(refine wNl hK ?_;clear hK K))|refine wG ?_|(refine wCR ?_;intro K hK)|fail)
    all_goals skip
    all_goals exact PX_retP rfl rfl (Ext.refl _) (fun _ _ _ hv => hv)
theorem awA {w : World} {v : Value} {n : Nat} {ps : Nat → Nat → Bool} (h : NIX tRg n ps w v) (hn : n ≤ 16777216) (hT : Tab w) {lo hi : Int} (hlo : fits .i64 lo) (hhi : fits .i64 hi) : Fc Tryz.prog 20 #[v, .int .i64 lo, .int .i64 hi] w (Ret w (.pred (rsP TT TT (btP n ps lo hi)))) := by
  dsimp only [fits] at hlo hhi
  by_cases hle : hi ≤ lo
  · have hr : btP n ps lo hi = fun _ => false := by unfold btP; rw [if_pos hle]
    rw [hr]
    refine Fc.of (args := [_, _, _]) Tryz.func20 rfl rfl Tryz.ntmps20 (Nat.le_of_ble_eq_true rfl) ?_
    repeat' (first|(refine oLA ?_;first|refine LA_pass rfl ?_|refine wOp ?_|(refine wCm ?_ ?_<;>intro hc)|(refine oCv ?_;first|(refine oC 12 ?_; refine LA_call0 (f := 12) rfl rfl  (.pred (rsP TT TT (fun _ => false))) (by intro w e; exact new_c _ tt) ?_))|(refine wNl hK ?_;clear hK K))|refine wG ?_|(refine wCR ?_;intro K hK)|fail)
    all_goals skip
    all_goals exact PX_retP rfl rfl (Ext.refl _) (fun _ _ _ hv => hv)
  · have hr : btP n ps lo hi = two (fun x y => x && !y) (upP n ps (hi - 1)) (upP n ps (max lo 0 - 1)) := by unfold btP; rw [if_neg hle]
    rw [hr]
    refine Fc.of (args := [_, _, _]) Tryz.func20 rfl rfl Tryz.ntmps20 (Nat.le_of_ble_eq_true rfl) ?_
    repeat' (first|(refine oLA ?_;first|refine LA_pass rfl ?_|refine LA_max2 rfl rfl rfl ?_|refine wOp ?_|(refine wCm ?_ ?_<;>intro hc)|(refine oCv ?_;first|(refine oD 14 ?_; refine oC 18 ?_; refine LA_call2 (f := 18) rfl rfl rfl rfl  (.pred (rsP TT TT (upP n ps (hi - 1)))) (by intro u1 u2 w e hu1 hu2; (try obtain rfl : u1 = _ := hu1); (try obtain rfl : u2 = _ := hu2); exact a6A (h.ext e) hn tt _) ?_)|(refine oD 19 ?_; refine oC 18 ?_; refine LA_call2 (f := 18) rfl rfl rfl rfl  (.pred (rsP TT TT (upP n ps (max lo 0 - 1)))) (by intro u1 u2 w e hu1 hu2; (try obtain rfl : u1 = _ := hu1); (try obtain rfl : u2 = _ := hu2); exact a6A (h.ext e) hn tt _) ?_)|(refine oC 19 ?_; refine LA_call2 (f := 19) rfl rfl rfl rfl  (.pred (rsP TT TT (two (fun x y => x && !y) (upP n ps (hi - 1)) (upP n ps (max lo 0 - 1))))) (by intro u1 u2 w e hu1 hu2; (try obtain rfl : u1 = _ := hu1); (try obtain rfl : u2 = _ := hu2); exact andnot_s (A := TT) (B := TT) (B1 := TT) (B2 := TT) (.inr hu1) (.inr hu2) (hT.ext e) tt tt) ?_))|(refine wNl hK ?_;clear hK K))|refine wG ?_|(refine wCR ?_;intro K hK)|fail)
    all_goals skip
    all_goals exact PX_retP rfl rfl (Ext.refl _) (fun _ _ _ hv => hv)
end Go.Proofs.YtadpcgjohleglaaGreatDoor
end
section
set_option linter.unusedSimpArgs false
set_option linter.unusedVariables false
set_option maxRecDepth 3000
namespace Go.Proofs.YtadpcgjohleglaaGreatDoor
open Go.LA Go.ArrP Go.RowKit
abbrev tI6 : Nat := 3
theorem avA : El Tryz.prog 22 tI6 (.int .i64 0) 1 8 := ⟨rfl, rfl, rfl, by decide⟩
theorem IX.off {R : Nat → Prop} {t n : Nat} {ps : Nat → Nat → Bool} {w w' : World} {v : Value} (h : IX t n ps w v) (hf : Fr R w w') (hR : ∀ k, R k → ∃ cur, w.heap[k]? = some (.cells cur tI6 (0, 0))) (ht : t ≠ tI6) : IX t n ps w' v := by
  obtain ⟨b, sv, ptrs, h1, h2, h3⟩ := h
  refine ⟨b, sv, ptrs, h1, hf.at h2 (fun hk => ?_), hf.own h3.own (fun k hk hr => ?_), fun i hi => (h3.at_ i hi).off hf (fun k hk => ?_)⟩
  · obtain ⟨cur, hc⟩ := hR b hk
    rw [h2] at hc; cases hc; exact ht rfl
  · obtain ⟨cur, hc⟩ := hR k hr
    exact Own.apart h3.own hc (by decide) hk
  · obtain ⟨cur, hc⟩ := hR k hk
    exact ⟨cur, _, hc, by decide, by decide, by decide, by decide, by decide⟩
theorem b0A {w : World} {v : Value} {ids : List Int} {many : Int} (h : SlI .i64 w v ids) (hT : Tab w) (hm : alA ids many = true) : Fc Tryz.prog 10 #[v, .int .i64 many] w (Ret w (.tup2 (.pred (ixP tIv many.toNat fun i => idP ids i)) (.val (.int .i64 0)))) := by
  have := cdA (many := many) h hT; rw [hm] at this; exact this
theorem bcA {w : World} {v : Value} {ids : List Int} {many : Int} (h : SlI .i64 w v ids) (hT : Tab w) (hm : alA ids many = false) : Fc Tryz.prog 10 #[v, .int .i64 many] w (Ret w (.tup2 (.val (.pointer none)) (.val (.int .i64 2)))) := by
  have := cdA (many := many) h hT; rw [hm] at this; exact this
theorem bkA {w : World} {v : Value} {ids : List Int} {many : Int} (h : SlI .i64 w v ids) (hT : Tab w) (hm : alA ids many = true) : Fc Tryz.prog 17 #[v, .int .i64 many] w (Ret w (.tup2 (.pred (ixP tRg many.toNat fun i => sumP ids (i + 1))) (.val (.int .i64 0)))) := by
  have := ccA (many := many) h hT; rw [hm] at this; exact this
theorem c2A {w : World} {v : Value} {ids : List Int} {many : Int} (h : SlI .i64 w v ids) (hT : Tab w) (hm : alA ids many = false) : Fc Tryz.prog 17 #[v, .int .i64 many] w (Ret w (.tup2 (.val (.pointer none)) (.val (.int .i64 2)))) := by
  have := ccA (many := many) h hT; rw [hm] at this; exact this
theorem anA {p : Nat → Bool} {m c : Nat} (h : ∀ x, m ≤ x → p x = false) (hm : m ≤ 300) (hc : cnt p m = c) : cnt p TOP = c := by
  rw [cnt_flat (p := p) (a := m) TOP (by rw [TOP_eq]; omega) (fun x hx _ => h x hx)]; exact hc
theorem akA {p : Nat → Bool} {x : Nat} (h : ¬ p x = true) : p x = false := by simpa using h
theorem b5A {ids : List Int} {id : Int} {x : Nat} (h : ids.length ≤ x) : idP ids id x = false := akA fun h' => by have := (idP_iff.1 h').1; omega
theorem bbA (w : World) (hT : Tab w) : Fc Tryz.prog 22 #[] w (Ret w (.val (.bool true))) := by
  have c0 : cnt (rowP 3 (fun i => idP [1, 0, 1] i) 0) TOP = 1 := by rw [show (0 : Int) = ((0 : Nat) : Int) from rfl, adA (by decide)]; exact anA (m := 3) (fun x hx => b5A hx) (by decide) (by decide)
  have c1 : cnt (rowP 3 (fun i => idP [1, 0, 1] i) 1) TOP = 2 := by rw [show (1 : Int) = ((1 : Nat) : Int) from rfl, adA (by decide)]; exact anA (m := 3) (fun x hx => b5A hx) (by decide) (by decide)
  have c2 : cnt (rowP 3 (fun i => idP [1, 0, 1] i) 2) TOP = 0 := by rw [show (2 : Int) = ((2 : Nat) : Int) from rfl, adA (by decide)]; exact anA (m := 3) (fun x hx => b5A hx) (by decide) (by decide)
  have c3 : rowP 3 (fun i => idP [1, 0, 1] i) 1 2 = true := by rw [show (1 : Int) = ((1 : Nat) : Int) from rfl, adA (by decide)]; decide
  have hl0 : ∀ w' u, RSet TT TT w' u (rowP 3 (fun i => idP [1, 0, 1] i) 0) → _ := fun w' u hu => len_s (B := TT) (A := TT) (.inr hu)
  have hl1 : ∀ w' u, RSet TT TT w' u (rowP 3 (fun i => idP [1, 0, 1] i) 1) → _ := fun w' u hu => len_s (B := TT) (A := TT) (.inr hu)
  have hl2 : ∀ w' u, RSet TT TT w' u (rowP 3 (fun i => idP [1, 0, 1] i) 2) → _ := fun w' u hu => len_s (B := TT) (A := TT) (.inr hu)
  have hh : ∀ w' u, RSet TT TT w' u (rowP 3 (fun i => idP [1, 0, 1] i) 1) → _ := fun w' u hu => has_s (B := TT) (A := TT) (x := 2) (.inr hu) (by decide)
  rw [c0] at hl0; rw [c1] at hl1; rw [c2] at hl2; rw [c3] at hh
  refine Fc.of (args := []) Tryz.func22 rfl rfl Tryz.ntmps22 (Nat.le_of_ble_eq_true rfl) ?_
  repeat' (first|(refine oLA ?_;first|refine LA_pass rfl ?_|(refine oD 6 ?_; refine LA_three rfl avA rfl rfl rfl rfl rfl rfl ?_)|(refine oD 11 ?_; refine LA_oneO rfl avA rfl rfl ?_)|refine wOp ?_|(refine wCm ?_ ?_<;>intro hc)|(refine oCv ?_;first|(refine oD 7 ?_; refine oC 10 ?_; refine LA_call2 (f := 10) rfl rfl rfl rfl  (.tup2 (.pred (ixP tIv 3 fun i => idP [1, 0, 1] i)) (.val (.int .i64 0))) (by intro u1 u2 w e hu1 hu2; (try obtain rfl : u1 = _ := hu1); (try obtain rfl : u2 = _ := hu2); exact b0A (ids := [1, 0, 1]) (many := 3) (Own.slC hu1) (hT.ext e) (by decide)) ?_)|(refine oD 12 ?_; refine oC 10 ?_; refine LA_call2 (f := 10) rfl rfl rfl rfl  (.tup2 (.val (.pointer none)) (.val (.int .i64 2))) (by intro u1 u2 w e hu1 hu2; (try obtain rfl : u1 = _ := hu1); (try obtain rfl : u2 = _ := hu2); exact bcA (ids := [3]) (many := 3) (Own.slC hu1) (hT.ext e) (by decide)) ?_)|(refine oC 26 ?_; refine LA_call1 (f := 26) rfl rfl rfl  (.val (.int .i64 (3 : Nat))) (by intro u1 w e hu1; (try obtain rfl : u1 = _ := hu1); exact boA (.inr hu1)) ?_)|(refine oD 28 ?_; refine oC 15 ?_; refine LA_call2 (f := 15) rfl rfl rfl rfl  (.pred (rsP TT TT (rowP 3 (fun i => idP [1, 0, 1] i) 0))) (by intro u1 u2 w e hu1 hu2; (try obtain rfl : u1 = _ := hu1); (try obtain rfl : u2 = _ := hu2); exact aeA (.inr hu1) (by decide) tt 0) ?_)|(refine oD 34 ?_; refine oC 15 ?_; refine LA_call2 (f := 15) rfl rfl rfl rfl  (.pred (rsP TT TT (rowP 3 (fun i => idP [1, 0, 1] i) 1))) (by intro u1 u2 w e hu1 hu2; (try obtain rfl : u1 = _ := hu1); (try obtain rfl : u2 = _ := hu2); exact aeA (.inr hu1) (by decide) tt 1) ?_)|(refine oD 40 ?_; refine oC 15 ?_; refine LA_call2 (f := 15) rfl rfl rfl rfl  (.pred (rsP TT TT (rowP 3 (fun i => idP [1, 0, 1] i) 2))) (by intro u1 u2 w e hu1 hu2; (try obtain rfl : u1 = _ := hu1); (try obtain rfl : u2 = _ := hu2); exact aeA (.inr hu1) (by decide) tt 2) ?_)|(refine oD 46 ?_; refine oC 15 ?_; refine LA_call2 (f := 15) rfl rfl rfl rfl  (.pred (rsP TT TT (rowP 3 (fun i => idP [1, 0, 1] i) 1))) (by intro u1 u2 w e hu1 hu2; (try obtain rfl : u1 = _ := hu1); (try obtain rfl : u2 = _ := hu2); exact aeA (.inr hu1) (by decide) tt 1) ?_)|(refine oD 29 ?_; refine oC 23 ?_; refine LA_call1 (f := 23) rfl rfl rfl  (.val (.int .i64 (1 : Nat))) (by intro u1 w e hu1; (try obtain rfl : u1 = _ := hu1); exact hl0 _ _ hu1) ?_)|(refine oD 35 ?_; refine oC 23 ?_; refine LA_call1 (f := 23) rfl rfl rfl  (.val (.int .i64 (2 : Nat))) (by intro u1 w e hu1; (try obtain rfl : u1 = _ := hu1); exact hl1 _ _ hu1) ?_)|(refine oD 41 ?_; refine oC 23 ?_; refine LA_call1 (f := 23) rfl rfl rfl  (.val (.int .i64 (0 : Nat))) (by intro u1 w e hu1; (try obtain rfl : u1 = _ := hu1); exact hl2 _ _ hu1) ?_)|(refine oC 33 ?_; refine LA_call2 (f := 33) rfl rfl rfl rfl  (.val (.bool true)) (by intro u1 u2 w e hu1 hu2; (try obtain rfl : u1 = _ := hu1); (try obtain rfl : u2 = _ := hu2); exact hh _ _ hu1) ?_))|(refine wNl hK ?_;clear hK K))|refine wG ?_|(refine wCR ?_;intro K hK)|fail)
  all_goals skip
  all_goals exact PX_retE rfl rfl (Ext.refl _) rfl
end Go.Proofs.YtadpcgjohleglaaGreatDoor
end
