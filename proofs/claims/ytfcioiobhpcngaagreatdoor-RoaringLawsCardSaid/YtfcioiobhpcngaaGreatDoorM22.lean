import Derived.Test.YtfcioiobhpcngaaGreatDoorM18
import Derived.Test.YtfcioiobhpcngaaGreatDoorM21
section
set_option linter.unusedSimpArgs false
set_option linter.unusedVariables false
set_option maxRecDepth 3000
namespace Go.Proofs.YtfcioiobhpcngaaGreatDoor
open Go.LA Go.ArrP Go.RowKit
variable {A B : Nat → Prop}
theorem grow_s (w : World) (n : Nat) (hn : n ≤ 1000000) : Fc Tryz.prog 148 #[nilS, .int .i64 n] w (Ret w (.pred (ownI w.heap.size tK .u16 []))) := by
  by_cases h0 : n = 0
  · subst h0
    refine Fc.of (args := [_, _]) Tryz.func148 rfl rfl Tryz.ntmps148 (Nat.le_of_ble_eq_true rfl) ?_
    repeat' (first|(refine oLA ?_;first|refine LA_pass rfl ?_|(refine oD 10 ?_; refine LA_cap rfl rfl rfl ?_)|(refine oLen ?_; refine LA_len (n := 0) (s := 1) (cs := []) rfl _ rfl rfl (HasC.ownV (base := 0) (e := 0) Own.nil) ?_)|refine wOp ?_|(refine wCm ?_ ?_<;>intro hc)|(refine wNl hK ?_;clear hK K))|refine wG ?_|(refine wCR ?_;intro K hK)|fail)
    all_goals skip
    exact PX_retP rfl rfl (Ext.refl _) (fun v _ _ hv => by obtain rfl : v = _ := hv; exact OwnI.nil)
  · refine Fc.of (args := [_, _]) Tryz.func148 rfl rfl Tryz.ntmps148 (Nat.le_of_ble_eq_true rfl) ?_
    repeat' (first|(refine oLA ?_;first|refine LA_pass rfl ?_|(refine oD 10 ?_; refine LA_cap rfl rfl rfl ?_)|(refine oD 19 ?_; refine LA_cap rfl rfl rfl ?_)|(refine oLen ?_; refine LA_len (n := 0) (s := 1) (cs := []) rfl _ rfl rfl (HasC.ownV (base := 0) (e := 0) Own.nil) ?_)|(refine oD 20 ?_; refine LA_sliceH (n := 0) (s := 1) (cs := []) rfl _ rfl rfl (HasC.ownV (base := 0) (e := 0) Own.nil) rfl (by decide) (by decide) (fun _ => rfl) ?_)|(refine oD 22 ?_; refine LA_stop (hK _ _ (LX_appendMake (n := 0) (kn := n) (cs := []) (cap := 0) (a := none) rfl (by decide) el_c16 rfl rfl rfl (Own.nil (base := 0) (e := 0)).slC (by omega) (by omega) (by omega) (by decide) (by omega) (by omega) (fun v' w1 w2 zs e1 hz1 hz2 ho e2 => ?_))); clear hK K; refine LX_la (by kernel_rfl) (fun K hK => ?_))|refine wOp ?_|(refine wCm ?_ ?_<;>intro hc)|(refine wNl hK ?_;clear hK K))|refine wG ?_|(refine wCR ?_;intro K hK)|fail)
    all_goals skip
    refine PX_retP rfl rfl (e1.trans e2) (fun v w3 e3 hv => ?_)
    obtain rfl : v = _ := hv
    rcases ho.2 with ⟨_, h1⟩ | ⟨gb, cap, cur, rfl, hx⟩
    · omega
    · have h2 := own_take ho 0 (Nat.zero_le _)
      have hcap : 0 < cap := by have := hx.2.2.1; omega
      have h3 : subS (.slice (some ⟨gb, 0, none⟩) (0 + n) cap) 0 0 Tryz.prog.types[72].size = .slice (some ⟨gb, 0, none⟩) 0 cap := sub_lit hcap
      rw [h3]
      exact Own.base (h2.ext e3) e1.size
def rl2 (xs ys : List Int) (i : Nat) : List Int := if i = 0 then [] else if i = 1 then xs else xs ++ ys
theorem concat_s {w : World} {v ka kb : Value} {xs ys : List Int} (hv : SlC w v 2 1 [ka, kb]) (ha : SlI .u16 w ka xs) (hb : SlI .u16 w kb ys) (hx : xs.length ≤ 65536) (hy : ys.length ≤ 65536) :
    Fc Tryz.prog 104 #[v] w (Ret w (.pred (ownI w.heap.size tK .u16 (xs ++ ys)))) := by
  have hgr : ∀ w', Ext w w' → _ := fun w' e => grow_s w' (xs.length + ys.length) (by omega)
  refine Fc.of (args := [_]) Tryz.func104 rfl rfl Tryz.ntmps104 (Nat.le_of_ble_eq_true rfl) ?_
  repeat' (first|(refine oLA ?_;first|refine LA_pass rfl ?_|(refine oLen ?_; refine LA_len rfl _ rfl rfl (HasC.val hv) ?_)|refine wOp ?_|(refine wCm ?_ ?_<;>intro hc)|(refine wNl hK ?_;clear hK K))|refine wG ?_|(refine wCR ?_;intro K hK)|fail)
  refine CX_loop (ι := Nat) (fun i => [(0, .val v), (3, .val (.int .i64 ((rl2 xs ys i).length : Nat))), (9, .val v), (10, .val (.int .i64 2)), (11, .val (.int .i64 i))]) (fun i => i ≤ 2) (fun i => 2 - i) 0 (by decide) (by repeat' (first | exact Sub.nil | refine Sub.val rfl (by first | with_reducible rfl | (congr 1; omega)) ?_ | refine Sub.same rfl ?_)) ?_
  intro i hi
  obtain rfl | rfl | rfl : i = 0 ∨ i = 1 ∨ i = 2 := by omega
  · skip
    repeat' (first|(refine oLA ?_;first|refine LA_pass rfl ?_|(refine oD 13 ?_; refine LA_indexC (s := 1) rfl _ rfl (fun _ => rfl) rfl (HasC.val hv) rfl 0 rfl (by decide) ?_)|(refine oD 14 ?_; refine LA_load (c := ka) rfl (fun _ => rfl) rfl ?_)|(refine oLen ?_; refine LA_len rfl _ rfl rfl (HasI.val ha).c ?_)|(refine oD 18 ?_; refine LA_addF rfl rfl rfl (by show -9223372036854775808 ≤ (0 : Int) + xs.length ∧ (0 : Int) + xs.length ≤ 9223372036854775807; omega) ?_)|(refine oD 20 ?_; refine LA_cmpF rfl rfl rfl rfl (by show ¬ ((0 : Int) + xs.length < 0); omega) ?_)|refine wOp ?_|(refine wCm ?_ ?_<;>intro hc)|(refine wNl hK ?_;clear hK K))|refine wG ?_|(refine wCR ?_;intro K hK)|fail)
    all_goals skip
    exact PX_rnd 1 (by decide) (by decide) (Sub.same rfl (Sub.val rfl (by show Value.int .i64 ((0 : Int) + xs.length) = .int .i64 xs.length; rw [Int.zero_add]) (Sub.same rfl (Sub.same rfl (Sub.same rfl Sub.nil)))))
  · skip
    repeat' (first|(refine oLA ?_;first|refine LA_pass rfl ?_|(refine oD 13 ?_; refine LA_indexC (s := 1) rfl _ rfl (fun _ => rfl) rfl (HasC.val hv) rfl 1 rfl (by decide) ?_)|(refine oD 14 ?_; refine LA_load (c := kb) rfl (fun _ => rfl) rfl ?_)|(refine oLen ?_; refine LA_len rfl _ rfl rfl (HasI.val hb).c ?_)|(refine oD 18 ?_; refine LA_addF (a := (xs.length : Int)) rfl rfl rfl (by dsimp only [fits]; omega) ?_)|refine wOp ?_|(refine wCm ?_ ?_<;>intro hc)|(refine wNl hK ?_;clear hK K))|refine wG ?_|(refine wCR ?_;intro K hK)|fail)
    all_goals skip
    exact PX_rnd 2 (by decide) (by decide) (Sub.same rfl (Sub.val rfl (by show Value.int .i64 ((xs.length : Int) + ys.length) = .int .i64 ((xs ++ ys).length : Nat); rw [List.length_append, Int.natCast_add]) (Sub.same rfl (Sub.same rfl (Sub.same rfl Sub.nil)))))
  · skip
    repeat' (first|(refine oLA ?_;first|refine LA_pass rfl ?_|(refine oD 23 ?_; refine LA_moveV (c := .int .i64 ((xs.length + ys.length : Nat) : Int)) rfl (by show AD.val (Value.int .i64 ((xs ++ ys).length : Nat)) = _; rw [List.length_append]) ?_)|(refine oLen ?_; refine LA_len rfl _ rfl rfl (HasC.val hv) ?_)|refine wOp ?_|(refine wCm ?_ ?_<;>intro hc)|(refine oCv ?_;first|(refine oC 148 ?_; refine LA_call2 (f := 148) rfl rfl rfl rfl  (.pred (ownI w.heap.size tK .u16 [])) (by intro u1 u2 w e hu1 hu2; (try obtain rfl : u1 = _ := hu1); (try obtain rfl : u2 = _ := hu2); exact (hgr _ e).mono (ret_base e.size)) ?_))|(refine wNl hK ?_;clear hK K))|refine wG ?_|(refine wCR ?_;intro K hK)|fail)
    all_goals skip
    refine CX_pick 6 rfl (fun v6 w6 e6 h6 => ?_)
    refine CX_loopV (ι := Nat × Value) (fun i => [(6, .val i.2), (25, .val v), (26, .val (.int .i64 2)), (27, .val (.int .i64 i.1))]) (fun i w' => i.1 ≤ 2 ∧ Ext w w' ∧ OwnI w.heap.size tK .u16 w' i.2 (rl2 xs ys i.1)) (fun i => 2 - i.1)
      (fun w2 e2 => ⟨(0, v6), ⟨Nat.zero_le 2, e6.trans e2, OwnI.ext h6 e2⟩, (by repeat' (first | exact Sub.nil | refine Sub.val rfl (by first | with_reducible rfl | (congr 1; omega)) ?_ | refine Sub.same rfl ?_))⟩) ?_
    rintro ⟨i, so⟩ w1 ⟨hi, he, ho⟩
    dsimp only at hi ho ⊢
    have ha1 := ha.ext he
    have hb1 := hb.ext he
    have hv1 := hv.ext he
    obtain rfl | rfl | rfl : i = 0 ∨ i = 1 ∨ i = 2 := by omega
    · skip
      repeat' (first|(refine oLA ?_;first|refine LA_pass rfl ?_|(refine oD 29 ?_; refine LA_indexC (s := 1) rfl _ rfl (fun _ => rfl) rfl (HasC.val hv1) rfl 0 rfl (by decide) ?_)|(refine oD 30 ?_; refine LA_load (c := ka) rfl (fun _ => rfl) rfl ?_)|(refine oD 33 ?_; refine LA_stop (hK _ _ (LX_append (n := 0) (cs := []) rfl (by decide) el_c16 rfl ho rfl (HasI.val ha1).c (by intro u hu; obtain ⟨z, _, rfl⟩ := List.mem_map.1 hu; rfl) (by unfold maxLen; omega) (by omega) he.size (fun v' wa wb' e' ho' hg' => ?_))); clear hK K; refine LX_la (by kernel_rfl) (fun K hK => ?_))|refine wOp ?_|(refine wCm ?_ ?_<;>intro hc)|(refine wNl hK ?_;clear hK K))|refine wG ?_|(refine wCR ?_;intro K hK)|fail)
      all_goals skip
      have ho2 : OwnI w.heap.size tK .u16 wb' v' (rl2 xs ys 1) := by
        show Own _ _ _ _ _ xs.length (xs.map _)
        simpa using ho'
      exact PX_rndV (1, v') (fun w5 e5 => ⟨(by decide : 1 ≤ 2), ((he.trans e').grown hg' (fun q hq => (Own.lt ho q hq).1)).trans e5, ho2.ext e5⟩) (by dsimp only; omega) (by repeat' (first | exact Sub.nil | refine Sub.val rfl (by first | with_reducible rfl | (congr 1; omega)) ?_ | refine Sub.same rfl ?_))
    · skip
      repeat' (first|(refine oLA ?_;first|refine LA_pass rfl ?_|(refine oD 29 ?_; refine LA_indexC (s := 1) rfl _ rfl (fun _ => rfl) rfl (HasC.val hv1) rfl 1 rfl (by decide) ?_)|(refine oD 30 ?_; refine LA_load (c := kb) rfl (fun _ => rfl) rfl ?_)|(refine oD 33 ?_; refine LA_stop (hK _ _ (LX_append (n := xs.length) (cs := xs.map (Value.int .u16)) rfl (by decide) el_c16 rfl ho rfl (HasI.val hb1).c (by intro u hu; obtain ⟨z, _, rfl⟩ := List.mem_map.1 hu; rfl) (by unfold maxLen; omega) (by omega) he.size (fun v' wa wb' e' ho' hg' => ?_))); clear hK K; refine LX_la (by kernel_rfl) (fun K hK => ?_))|refine wOp ?_|(refine wCm ?_ ?_<;>intro hc)|(refine wNl hK ?_;clear hK K))|refine wG ?_|(refine wCR ?_;intro K hK)|fail)
      all_goals skip
      have ho2 : OwnI w.heap.size tK .u16 wb' v' (rl2 xs ys 2) := by
        show Own _ _ _ _ _ (xs ++ ys).length ((xs ++ ys).map _)
        rw [List.length_append, List.map_append]; exact ho'
      exact PX_rndV (2, v') (fun w5 e5 => ⟨(by decide : 2 ≤ 2), ((he.trans e').grown hg' (fun q hq => (Own.lt ho q hq).1)).trans e5, ho2.ext e5⟩) (by dsimp only; omega) (by repeat' (first | exact Sub.nil | refine Sub.val rfl (by first | with_reducible rfl | (congr 1; omega)) ?_ | refine Sub.same rfl ?_))
    · skip
      repeat' (first|(refine oLA ?_;first|refine LA_pass rfl ?_|refine wOp ?_|(refine wCm ?_ ?_<;>intro hc)|(refine wNl hK ?_;clear hK K))|refine wG ?_|(refine wCR ?_;intro K hK)|fail)
      all_goals skip
      exact PX_retP rfl rfl he (fun u w5 e5 hu => by obtain rfl : u = _ := hu; exact OwnI.ext (xs := xs ++ ys) ho e5)
end Go.Proofs.YtfcioiobhpcngaaGreatDoor
end
section
set_option linter.unusedSimpArgs false
set_option linter.unusedVariables false
set_option maxRecDepth 3000
namespace Go.Proofs.YtfcioiobhpcngaaGreatDoor
open Go.LA Go.ArrP Go.RowKit
variable {A B : Nat → Prop}
theorem getD_drop {xs : List Int} {k i : Nat} : (xs.drop k).getD i 0 = xs.getD (k + i) 0 := by
  rw [List.getD_eq_getElem?_getD, List.getD_eq_getElem?_getD, List.getElem?_drop]
theorem dd_take {xs : List Int} {k : Nat} (h : k < xs.length) : xs.take (k + 1) = xs.take k ++ [xs.getD k 0] := by
  rw [List.getD_eq_getElem?_getD, List.getElem?_eq_getElem h, List.take_add_one, List.getElem?_eq_getElem h]; rfl
structure MidD (xs ys : List Int) (k j : Nat) : Prop where
  len : ys.length = xs.length
  lo : 0 < k
  le : k < j
  hi : j ≤ xs.length
  pre : ys.take k = ddN xs j
  rest : ∀ i, j ≤ i + 1 → ys.getD i 0 = xs.getD i 0
theorem MidD.skip {xs ys : List Int} {k j : Nat} (h : MidD xs ys k j) (hj : j < xs.length) (he : xs.getD j 0 = xs.getD (j - 1) 0) : MidD xs ys k (j + 1) :=
  ⟨h.len, h.lo, by have := h.le; omega, hj, by rw [ddN_old (by have := h.le; omega) he]; exact h.pre, fun i hi => h.rest i (by omega)⟩
theorem MidD.put {xs ys : List Int} {k j : Nat} (h : MidD xs ys k j) (hj : j < xs.length) (he : xs.getD j 0 ≠ xs.getD (j - 1) 0) : MidD xs (ys.set k (xs.getD j 0)) (k + 1) (j + 1) := by
  have h1 := h.le
  have h2 := h.len
  refine ⟨by rw [List.length_set]; exact h.len, by omega, by omega, hj, ?_, fun i hi => ?_⟩
  · rw [ddN_new he, ← h.pre, dd_take (by rw [List.length_set]; omega), List.take_set_of_le (Nat.le_refl _)]
    congr 2
    rw [List.getD_eq_getElem?_getD, List.getElem?_set_self (by omega)]; rfl
  · rw [List.getD_eq_getElem?_getD, List.getElem?_set_ne (by omega), ← List.getD_eq_getElem?_getD]
    exact h.rest i (by omega)
set_option maxHeartbeats 1000000 in
theorem compact_s {w0 w : World} {v : Value} {xs : List Int} (he0 : Ext w0 w) (ho0 : OwnI w0.heap.size tK .u16 w v xs) (hx : xs.length ≤ 1000000) :
    Fc Tryz.prog 106 #[v] w (fun en w' => ∃ v', en = .returned v' ∧ Ext w0 w' ∧ OwnI w0.heap.size tK .u16 w' v' (ddN xs xs.length)) := by
  by_cases hlt : xs.length < 2
  · have hd : ddN xs xs.length = xs := by
      rcases xs with _ | ⟨a, _ | ⟨b, r⟩⟩
      · rfl
      · rfl
      · simp at hlt; omega
    rw [hd]
    refine Fc.of (args := [_]) Tryz.func106 rfl rfl Tryz.ntmps106 (Nat.le_of_ble_eq_true rfl) ?_
    repeat' (first|(refine oLA ?_;first|refine LA_pass rfl ?_|(refine oLen ?_; refine LA_len rfl _ rfl rfl (HasI.ownV ho0).c ?_)|refine wOp ?_|(refine wCm ?_ ?_<;>intro hc)|(refine wNl hK ?_;clear hK K))|refine wG ?_|(refine wCR ?_;intro K hK)|fail)
    all_goals skip
    exact PX_ret1 rfl (fun u w5 e5 hu => by obtain rfl : u = _ := hu; exact ⟨_, rfl, he0.trans e5, ho0.ext e5⟩)
  · obtain ⟨b, cap, cur, rfl, hb, hg, hnc, hm, hsz, ht⟩ := ho0.row (by omega)
    refine Fc.of (args := [_]) Tryz.func106 rfl rfl Tryz.ntmps106 (Nat.le_of_ble_eq_true rfl) ?_
    repeat' (first|(refine oLA ?_;first|refine LA_pass rfl ?_|(refine oLen ?_; refine LA_len rfl _ rfl rfl (HasI.ownV ho0).c ?_)|refine wOp ?_|(refine wCm ?_ ?_<;>intro hc)|(refine wNl hK ?_;clear hK K))|refine wG ?_|(refine wCR ?_;intro K hK)|fail)
    refine CX_loop (ι := Nat) (fun k => [(0, .val (.slice (some ⟨b, 0, none⟩) xs.length cap)), (3, .val (.int .i64 k))]) (fun k => 1 ≤ k ∧ k ≤ xs.length ∧ ddN xs k = xs.take k) (fun k => xs.length - k) 1 ⟨Nat.le_refl _, by omega, by rw [ddN_one, dd_take (by omega)]; rfl⟩ (by repeat' (first | exact Sub.nil | refine Sub.val rfl (by first | with_reducible rfl | (congr 1; omega)) ?_ | refine Sub.same rfl ?_)) ?_
    rintro k ⟨hk1, hk2, hkd⟩
    by_cases hkl : k < xs.length
    · by_cases heq : xs.getD k 0 = xs.getD (k - 1) 0
      · skip
        repeat' (first|(refine oLA ?_;first|refine LA_pass rfl ?_|(refine oLen ?_; refine LA_len rfl _ rfl rfl (HasI.ownV ho0).c ?_)|(refine oD 18 ?_; refine LA_indexN rfl _ rfl (fun _ => rfl) rfl (HasI.ownV ho0) rfl hkl ?_)|(refine oD 22 ?_; refine LA_subF rfl rfl rfl (by dsimp only [fits]; omega) ?_; rw [show ((k : Int) - 1) = ((k - 1 : Nat) : Int) by omega])|(refine oD 23 ?_; refine LA_indexN rfl _ rfl (fun _ => rfl) rfl (HasI.ownV ho0) rfl (by omega) ?_; rw [← heq])|(refine oD 28 ?_; refine LA_sliceL rfl _ rfl rfl (HasC.ownV ho0) rfl (by omega) (by omega) (by exact fun _ => rfl) ?_; rw [Int.toNat_natCast, sub_lit (show k < cap by omega)])|refine wOp ?_|(refine wCm ?_ ?_<;>intro hc)|(refine wNl hK ?_;clear hK K))|refine wG ?_|(refine wCR ?_;intro K hK)|fail)
        all_goals skip
        have hm0 : MidD xs xs k (k + 1) := ⟨rfl, hk1, Nat.lt_succ_self k, hkl, by rw [ddN_old hk1 heq]; exact hkd.symm, fun _ _ => rfl⟩
        refine CX_loopV (ι := Nat × Nat × List Int) (fun i => [(0, .val (.slice (some ⟨b, 0, none⟩) xs.length cap)), (3, .val (.int .i64 i.1)), (4, .val (.slice (some ⟨b, k * 1, none⟩) (xs.length - k) (cap - k))), (5, .val (.int .i64 i.2.1))]) (fun i w' => Ext w0 w' ∧ 1 ≤ i.2.1 ∧ MidD xs i.2.2 i.1 (k + i.2.1) ∧ OwnI w0.heap.size tK .u16 w' (.slice (some ⟨b, 0, none⟩) xs.length cap) i.2.2) (fun i => xs.length - i.2.1)
          (fun w2 e2 => ⟨(k, 1, xs), ⟨he0.trans e2, Nat.le_refl _, hm0, ho0.ext e2⟩, (by repeat' (first | exact Sub.nil | refine Sub.val rfl (by first | with_reducible rfl | (congr 1; omega)) ?_ | refine Sub.same rfl ?_))⟩) ?_
        rintro ⟨k', k2, ys⟩ w1 ⟨he, h1, hM, ho⟩
        dsimp only at h1 hM ho ⊢
        have hyl := hM.len
        have hle := hM.le
        have hhi := hM.hi
        have hs4 : SlI .u16 w1 (.slice (some ⟨b, k * 1, none⟩) (xs.length - k) (cap - k)) (ys.drop k) := by
          have := SlI.drop ho.slI (l := k) (by omega)
          rwa [sub_lit (show k < cap by omega), hyl] at this
        have hdl : (ys.drop k).length = xs.length - k := by rw [List.length_drop, hyl]
        by_cases h2 : k2 < xs.length - k
        · have g1 : (ys.drop k).getD k2 0 = xs.getD (k + k2) 0 := by rw [getD_drop]; exact hM.rest _ (by omega)
          have g2 : (ys.drop k).getD (k2 - 1) 0 = xs.getD (k + k2 - 1) 0 := by
            rw [getD_drop, show k + (k2 - 1) = k + k2 - 1 by omega]; exact hM.rest _ (by omega)
          by_cases he2 : xs.getD (k + k2) 0 = xs.getD (k + k2 - 1) 0
          · skip
            repeat' (first|(refine oLA ?_;first|refine LA_pass rfl ?_|(refine oLen ?_; refine LA_len rfl _ rfl rfl (HasI.val hs4).c ?_; rw [hdl])|(refine oD 37 ?_; refine LA_indexN rfl _ rfl (fun _ => rfl) rfl (HasI.val hs4) rfl (by omega) ?_; rw [g1])|(refine oD 41 ?_; refine LA_subF rfl rfl rfl (by dsimp only [fits]; omega) ?_; rw [show ((k2 : Int) - 1) = ((k2 - 1 : Nat) : Int) by omega])|(refine oD 42 ?_; refine LA_indexN rfl _ rfl (fun _ => rfl) rfl (HasI.val hs4) rfl (by omega) ?_; rw [g2, ← he2])|refine wOp ?_|(refine wCm ?_ ?_<;>intro hc)|(refine wNl hK ?_;clear hK K))|refine wG ?_|(refine wCR ?_;intro K hK)|fail)
            all_goals skip
            exact PX_rndV (k', k2 + 1, ys) (fun w5 e5 => ⟨he.trans e5, by dsimp only; omega, hM.skip (by omega) he2, ho.ext e5⟩) (by dsimp only; omega) (by repeat' (first | exact Sub.nil | refine Sub.val rfl (by first | with_reducible rfl | (congr 1; omega)) ?_ | refine Sub.same rfl ?_))
          · obtain ⟨b', cap', cur', hv', hb', hg', hnc', hm', hsz', ht'⟩ := ho.row (by omega)
            injection hv' with h5 h6 h7
            injection h5 with h5
            injection h5 with h5
            subst h5; subst h7
            have hlk : k' < ys.length := by omega
            repeat' (first|(refine oLA ?_;first|refine LA_pass rfl ?_|(refine oLen ?_; refine LA_len rfl _ rfl rfl (HasI.val hs4).c ?_; rw [hdl])|(refine oD 37 ?_; refine LA_indexN rfl _ rfl (fun _ => rfl) rfl (HasI.val hs4) rfl (by omega) ?_; rw [g1])|(refine oD 41 ?_; refine LA_subF rfl rfl rfl (by dsimp only [fits]; omega) ?_; rw [show ((k2 : Int) - 1) = ((k2 - 1 : Nat) : Int) by omega])|(refine oD 42 ?_; refine LA_indexN rfl _ rfl (fun _ => rfl) rfl (HasI.val hs4) rfl (by omega) ?_; rw [g2])|(refine oD 44 ?_; refine LA_cmpT rfl rfl rfl rfl he2 ?_)|(refine oD 49 ?_; refine LA_indexN rfl _ rfl (fun _ => rfl) rfl (HasI.val hs4) rfl (by omega) ?_; rw [g1])|(refine oD 51 ?_; refine LA_indexS (s := 1) rfl rfl (fun _ => rfl) rfl rfl (by omega) (by omega) ?_; rw [Int.toNat_natCast, Nat.zero_add, Nat.mul_one])|(refine oSt ?_; refine LA_stop (hK _ _ (LX_store1 rfl rfl rfl hg' (fun _ => rfl) (by omega) rfl rfl (fun w7 e7 => ?_))); clear hK K)|refine wOp ?_|(refine wCm ?_ ?_<;>intro hc)|(refine wNl hK ?_;clear hK K))|refine wG ?_|(refine wCR ?_;intro K hK)|fail)
            all_goals skip
            have hset := OwnI.set hb' (e7.block hg') hnc' hm' hsz' ht' k' hlk (xs.getD (k + k2) 0)
            rw [hyl] at hset
            have x7 := (he.trans e7).setRow hb' (cur'.setIfInBounds k' (.int .u16 (xs.getD (k + k2) 0)))
            exact PX_rndV (k' + 1, k2 + 1, ys.set k' (xs.getD (k + k2) 0)) (fun w5 e5 => ⟨x7.trans e5, by dsimp only; omega, hM.put (by omega) he2, hset.ext e5⟩) (by dsimp only; omega) (by repeat' (first | exact Sub.nil | refine Sub.val rfl (by first | with_reducible rfl | (congr 1; omega)) ?_ | refine Sub.same rfl ?_))
        · obtain ⟨b', cap', cur', hv', hb', hg', hnc', hm', hsz', ht'⟩ := ho.row (by omega)
          injection hv' with h5 h6 h7
          injection h5 with h5
          injection h5 with h5
          subst h5; subst h7
          have hkc : k' < cap := by omega
          repeat' (first|(refine oLA ?_;first|refine LA_pass rfl ?_|(refine oLen ?_; refine LA_len rfl _ rfl rfl (HasI.val hs4).c ?_; rw [hdl])|(refine oD 56 ?_; refine LA_sliceL (s := 1) rfl _ rfl rfl (HasC.ownV ho) rfl (by omega) (by omega) (by exact fun _ => rfl) ?_; rw [Int.toNat_natCast, hyl, sub_lit hkc])|(refine LA_stop (hK _ _ (LX_clear rfl rfl (fun _ => rfl) rfl rfl rfl hg' (by omega) (fun w7 cur2 e7 hs2 ht2 => ?_))); clear hK K)|(refine oD 59 ?_; refine LA_sliceC (s := 1) rfl _ rfl rfl rfl (by omega) (by omega) (by omega) (fun _ => rfl) ?_; rw [Int.toNat_natCast])|refine wOp ?_|(refine wCm ?_ ?_<;>intro hc)|(refine wNl hK ?_;clear hK K))|refine wG ?_|(refine wCR ?_;intro K hK)|fail)
          all_goals skip
          have hown : OwnI w0.heap.size tK .u16 (w7.setRow b cur2) (.slice (some ⟨b, 0, none⟩) k' cap) (ys.take k') := by
            have hl : (ys.take k').length = k' := by rw [List.length_take]; omega
            refine ⟨by rw [List.length_map, hl, Nat.mul_one], .inr ⟨b, cap, cur2, by rw [hl], hb', setRow_heap w7 b cur' _ tK _ (e7.block hg'), by rw [hl]; omega, hm', by rw [hs2]; omega, ?_⟩⟩
            rw [hl, Nat.mul_one, List.map_take, ← ht', List.take_take, Nat.min_eq_left (by omega)]
            rwa [Nat.mul_one] at ht2
          rw [hM.pre, show k + k2 = xs.length by omega] at hown
          exact PX_ret1 rfl (fun u w5 e5 hu => by obtain rfl : u = _ := hu; exact ⟨_, rfl, ((he.trans e7).setRow hb' cur2).trans e5, hown.ext e5⟩)
      · skip
        repeat' (first|(refine oLA ?_;first|refine LA_pass rfl ?_|(refine oLen ?_; refine LA_len rfl _ rfl rfl (HasI.ownV ho0).c ?_)|(refine oD 18 ?_; refine LA_indexN rfl _ rfl (fun _ => rfl) rfl (HasI.ownV ho0) rfl hkl ?_)|(refine oD 22 ?_; refine LA_subF rfl rfl rfl (by dsimp only [fits]; omega) ?_; rw [show ((k : Int) - 1) = ((k - 1 : Nat) : Int) by omega])|(refine oD 23 ?_; refine LA_indexN rfl _ rfl (fun _ => rfl) rfl (HasI.ownV ho0) rfl (by omega) ?_)|(refine oD 25 ?_; refine LA_cmpF rfl rfl rfl rfl heq ?_)|refine wOp ?_|(refine wCm ?_ ?_<;>intro hc)|(refine wNl hK ?_;clear hK K))|refine wG ?_|(refine wCR ?_;intro K hK)|fail)
        all_goals skip
        exact PX_rnd (k + 1) ⟨by omega, hkl, by rw [ddN_new heq, hkd, dd_take hkl]⟩ (by omega) (by repeat' (first | exact Sub.nil | refine Sub.val rfl (by first | with_reducible rfl | (congr 1; omega)) ?_ | refine Sub.same rfl ?_))
    · obtain rfl : k = xs.length := by omega
      repeat' (first|(refine oLA ?_;first|refine LA_pass rfl ?_|(refine oLen ?_; refine LA_len rfl _ rfl rfl (HasI.ownV ho0).c ?_)|refine wOp ?_|(refine wCm ?_ ?_<;>intro hc)|(refine wNl hK ?_;clear hK K))|refine wG ?_|(refine wCR ?_;intro K hK)|fail)
      all_goals skip
      exact PX_ret1 rfl (fun u w5 e5 hu => by obtain rfl : u = _ := hu; exact ⟨_, rfl, he0.trans e5, by rw [hkd, List.take_length]; exact ho0.ext e5⟩)
end Go.Proofs.YtfcioiobhpcngaaGreatDoor
end
section
set_option linter.unusedSimpArgs false
set_option linter.unusedVariables false
namespace Go.Proofs.YtfcioiobhpcngaaGreatDoor
open Go.LA Go.ArrP Go.RowKit
variable {A B : Nat → Prop}
def RowCn (base : Nat) (A : Nat → Prop) (p : Nat → Bool) (kk : Int) (v : Value) (w : World) : Prop := ∃ qc : Qd, Own base tC 4 w v 1 (qcs qc) ∧ Cn A w (qv qc) p kk ∧ ∀ u ∈ qcs qc, u.oneCell' = true
def rowCn (base : Nat) (A : Nat → Prop) (p : Nat → Bool) (kk : Int) : AV := ⟨fun v w => RowCn base A p kk v w, fun _ _ _ e ⟨qc, h1, h2, h3⟩ => ⟨qc, h1.ext e, h2.ext e, h3⟩⟩
section
variable {P : Program} {l : List Oper} {N : Nn} {wb : World} {K : List Oper → Env → Prop} {rest : List Oper} {E : Env} {Q : Exit → Act → World → Prop}
variable {d : Tmp} {ty t : TypeId} {pos : String} {after : Array Edge} {g : Option (Nat × Bool)} {x y z : Operand}
theorem LA_oneCn {z0 : Value} {b base : Nat} {r : AD} {p : Nat → Bool} {kk : Int} (hbase : base ≤ wb.heap.size) (hg : gdec l E g = some true) (hel : El P t tC z0 4 b) (hx : opE E x = r) (hr : ∀ v w, Ext wb w → r.ok v w → Cn A w v p kk) (h : LA P l wb K rest ((d, .pred (rowCn base A p kk)) :: E)) :
    LA P l wb K (⟨some d, .buildSlice t 1 #[(0, x)], ty, pos, after, g⟩ :: rest) E := by
  refine LA_of (.pred (rowCn base A p kk)) hg (fun a w he hh => ?_) h
  have h1 := hh x (by simp [Op.operands])
  rw [hx] at h1
  have hcn := hr _ _ he h1
  obtain ⟨qc, hqc, h1c⟩ := hcn.qd
  have hc : (a.eval x).cells = (qcs qc).toArray := by rw [hqc]; rfl
  have hcz : (a.eval x).cells.size = 4 := by rw [hc]; rfl
  have hrun : (Instr.buildSlice t 1 #[(0, a.eval x)]).run P w = .ok (.slice (some ⟨w.heap.size, 0, none⟩) 1 1) (w.alloc (.cells (a.eval x).cells tC)) := by
    have hf := fill_oneS (c := a.eval x) (z := z0.cells) (s := 4) hcz
    simp only [Instr.buildSlice, Sem.run_bind, run_underlying hel.ht, Result.andThen_ok, hel.sizeOf, Nat.one_mul, gt_iff_lt, show ¬ (2 ^ 24 < 4) by omega, if_false, show ¬ (4 = 0) by omega, Sem.run_pure, hel.zero]
    simp only [Nat.one_mul] at hf
    rw [hf]
    rfl
  simp only [execOp, List.map_toArray, List.map_cons, List.map_nil, Sem.run_bind, hrun, Result.andThen_ok, Sem.run_pure]
  have x1 : Ext w (w.alloc (.cells (a.eval x).cells tC)) := Ext.alloc _ _
  refine ⟨x1, qc, ⟨by simp [qcs], .inr ⟨w.heap.size, 1, (a.eval x).cells, rfl, Nat.le_trans hbase he.size, heap_alloc_new w _, Nat.le_refl _, by decide, by rw [hcz], ?_⟩⟩, (hqc ▸ hcn).ext x1, h1c⟩
  rw [hc]; rfl
end
theorem RowCn.fr {base : Nat} {A R : Nat → Prop} {p : Nat → Bool} {kk : Int} {v : Value} {w w' : World} (h : RowCn base A p kk v w) (hf : Fr R w w') (hR : Plain A R w) (hb : ∀ k, base ≤ k → ¬ R k) : RowCn base A p kk v w' := by
  obtain ⟨qc, h1, h2, h3⟩ := h
  exact ⟨qc, hf.own h1 (fun k hk => hb k (Own.lt h1 k hk).1), h2.fr hf hR, h3⟩
theorem RS.app {w w' : World} {b : Nat} {kv lv kv' lv' : Value} {p : Nat → Bool} (hS : RS A w b kv lv p) {k : Nat} (hk : k < 65536) (hlast : ∀ j, k ≤ j → ne p j = false) {q : Nat → Bool} (hq : ∀ i, 65536 ≤ i → q i = false) (hq0 : 0 < cnt q 65536) {Q : List Qd} {qc : Qd} (q1 : Q.length = nk p)
    (q3 : ∀ i, i < nk p → Cn (fun k => A k ∧ kv.ownBlock ≠ some k) w (qv (Q.getD i q0)) (blk p (kp p i)) (kindP (blk p (kp p i)))) (hc : Cn (fun j => A j ∧ kv'.ownBlock ≠ some j) w' (qv qc) q (kindP q))
    (hf : Fr (onw b kv lv) w w') (hb : w'.heap[b]? = some (.cells #[kv', lv'] tS (0, 0))) (hkk : OwnI 0 tK .u16 w' kv' (keysL p ++ [(k : Int)])) (hl : Own 0 tC 4 w' lv' (nk p + 1) (cellsQ Q ++ qcs qc)) (hk1 : LocR w kv kv') (hl1 : LocR w lv lv') : Mut A w b kv lv (upd p k q) w' := by
  have hn := hlast k (Nat.le_refl _)
  have hcn : cnt (ne p) k = nk p := (cnt_flat 65536 (Nat.le_of_lt hk) (fun x h1 _ => hlast x h1)).symm
  have hkeys := upd_keysN p hk hq hq0 hn
  have hkl := keysL_len p
  have hnk := upd_nk p hk hq hq0 hn
  rw [hcn, List.take_of_length_le (by omega), List.drop_of_length_le (by omega), List.append_nil] at hkeys
  have hcells : cellsQ (Q ++ [qc]) = cellsQ Q ++ qcs qc := by rw [cellsQ_app]; rfl
  refine ⟨kv', lv', ⟨hb, by rw [hkeys]; exact hkk, upd_top hS.top hk, Q ++ [qc], by rw [List.length_append, List.length_singleton, q1, hnk], by rw [hnk, hcells]; exact hl, fun i hi => ?_⟩, hf, hk1, hl1⟩
  rw [hnk] at hi
  rw [upd_kp p hk hq hq0 hn hi, hcn]
  have hne : ∀ j, j < nk p → kp p j ≠ k := fun j hj h => by
    have := (kp_at hj).2.1
    rw [h, hn] at this; cases this
  split
  · rename_i h1
    rw [upd_blk' p q (hne i h1), getD_app1 (by omega)]
    refine Cn.fr ((q3 i h1).mono (A' := fun k => A k ∧ kv'.ownBlock ≠ some k ∧ kv.ownBlock ≠ some k) fun j hlt ha => ⟨ha.1, fun h => ?_, ha.2⟩) hf (hS.plainA fun k h1 h2 => h2.2.2 h1) |>.mono fun k _ h => ⟨h.1, h.2.1⟩
    rcases hk1 with h' | h'
    · exact ha.2 (h' ▸ h)
    · have := h' j h; omega
  · have hi' : i = nk p := by omega
    rw [if_pos hi', upd_blk p k hq, getD_app2 (by omega), show i - Q.length = 0 by omega]
    exact hc
theorem Cn.loc {w w1 w' : World} {kv kv' v : Value} {p : Nat → Bool} {kk : Int} (hl : LocR w1 kv kv') (hs : w.heap.size ≤ w1.heap.size) (h : Cn (fun j => A j ∧ kv.ownBlock ≠ some j ∧ j < w.heap.size) w' v p kk) : Cn (fun j => A j ∧ kv'.ownBlock ≠ some j) w' v p kk :=
  h.mono fun j _ ha => ⟨ha.1, fun h => by
    rcases hl with h' | h'
    · exact ha.2.1 (h' ▸ h)
    · have h9 := h' j h
      have h10 := ha.2.2
      omega⟩
theorem Cn.loc3 {w w1 w' : World} {kv kv' v : Value} {p : Nat → Bool} {kk : Int} (hl : LocR w1 kv kv') (hs : w.heap.size ≤ w1.heap.size) (h : Cn (fun j => A j ∧ kv.ownBlock ≠ some j ∧ j < w.heap.size) w' v p kk) : Cn (fun j => A j ∧ kv.ownBlock ≠ some j ∧ kv'.ownBlock ≠ some j) w' v p kk :=
  h.mono fun j _ ha => ⟨ha.1, ha.2.1, fun h => by
    rcases hl with h' | h'
    · exact ha.2.1 (h' ▸ h)
    · have h9 := h' j h
      have h10 := ha.2.2
      omega⟩
end Go.Proofs.YtfcioiobhpcngaaGreatDoor
end
section
set_option linter.unusedSimpArgs false
set_option linter.unusedVariables false
set_option maxRecDepth 3000
namespace Go.Proofs.YtfcioiobhpcngaaGreatDoor
open Go.LA Go.ArrP Go.RowKit
variable {A B : Nat → Prop}
theorem new_x (w : World) : Fc Tryz.prog 11 #[] w (Ret w (.pred (ptrB w.heap.size #[nilS, nilS] tS))) := by
  refine Fc.of (args := []) Tryz.func11 rfl rfl Tryz.ntmps11 (Nat.le_of_ble_eq_true rfl) ?_
  repeat' (first|(refine oLA ?_;first|refine LA_pass rfl ?_|refine LA_build0 (c := .agg #[nilS, nilS]) rfl (fun _ => by kernel_rfl) ?_|refine LA_box rfl rfl ?_|refine wOp ?_|(refine wCm ?_ ?_<;>intro hc)|(refine wNl hK ?_;clear hK K))|refine wG ?_|(refine wCR ?_;intro K hK)|fail)
  exact PX_retP rfl rfl (Ext.refl _) (fun v w' e hv => hv)
theorem ret_ptrB {w : World} {base base' : Nat} {cs : Array Value} {e : TypeId} (hb : base' ≤ base) (en : Ending) (w' : World) (h : Ret w (.pred (ptrB base cs e)) en w') : Ret w (.pred (ptrB base' cs e)) en w' := by
  obtain ⟨v, h1, h2, b, h3, h4⟩ := h
  exact ⟨v, h1, h2, b, Nat.le_trans hb h3, h4⟩
theorem nset_lt {w : World} {v : Value} {p : Nat → Bool} (h : NSet B A w v p) : NSet B (fun k => A k ∧ k < w.heap.size) w v p := h.imp id (fun h => h.mono (fun _ _ h => h) (fun k hk ha => ⟨ha, hk⟩))
theorem el_ss : El Tryz.prog 60 52 (.slice none 0 0) 1 24 := ⟨rfl, rfl, rfl, by decide⟩
set_option maxHeartbeats 4000000 in
theorem each_s {w : World} {va vb fv : Value} {p q : Nat → Bool} {F : Bool → Bool → Bool} {B1 B2 : Nat → Prop} (ha : NSet B1 A w va p) (hb : NSet B2 A w vb q) (hF : F false false = false)
    (hfv : ∀ w' A' u v' kp kq p' q', Ext w w' → Cn A' w' u p' kp → Cn A' w' v' q' kq → Fsh A' w' → Clb Tryz.prog fv [u, v'] w' (Ret w' (.pred (cnP A' (two F p' q') (kindP (two F p' q'))))))
    (hT : Tab w) (hB : Fsh B w) (hA : Fsh A w) : Fc Tryz.prog 58 #[va, vb, fv] w (Ret w (.pred (rsP B A (two F p q)))) := by
  have hk1 : ∀ w', Ext w w' → _ := fun w' e => keys_s (ha.ext e)
  have hk2 : ∀ w', Ext w w' → _ := fun w' e => keys_s (hb.ext e)
  have hl1 := keysL_len p
  have hl2 := keysL_len q
  have hn1 := nk_le p
  have hn2 := nk_le q
  have hdd := dd_keys p q
  obtain ⟨xs, hxs⟩ : ∃ xs, xs = (keysL p ++ keysL q).mergeSort (fun x y => decide (x ≤ y)) := ⟨_, rfl⟩
  have hxl : xs.length ≤ 131072 := by rw [hxs, List.length_mergeSort, List.length_append]; omega
  obtain ⟨e, he⟩ : ∃ e, e = fun k => ne p k || ne q k := ⟨_, rfl⟩
  obtain ⟨U, hU⟩ : ∃ U, U = listS e 65536 := ⟨_, rfl⟩
  rw [← he, ← hU, ← hxs] at hdd
  have hUl : U.length = cnt e 65536 := by rw [hU, listS_len]
  have hUle : cnt e 65536 ≤ 65536 := cnt_le _ _
  refine Fc.of (args := [_, _, _]) Tryz.func58 rfl rfl Tryz.ntmps58 (Nat.le_of_ble_eq_true rfl) ?_
  repeat' (first|(refine oLA ?_;first|refine LA_pass rfl ?_|(refine oD 13 ?_; refine LA_stop (hK _ _ (LX_pick 7 rfl (fun v7 w7 e7 h7 => ?_))); clear hK K; obtain ⟨b, hbb, rfl, h7⟩ := h7; refine LX_la (by kernel_rfl) (fun K hK => LA_moveV rfl rfl ?_))|(refine oD 14 ?_; refine oC 40 ?_; refine LA_call1 (f := 40) rfl rfl rfl  (.pred (ownI w.heap.size tK .u16 (keysL p))) (by intro u1 w e hu1; (try obtain rfl : u1 = _ := hu1); exact (hk1 _ (e7.trans e)).mono (ret_base (e7.trans e).size)) ?_)|(refine oD 16 ?_; refine oC 40 ?_; refine LA_call1 (f := 40) rfl rfl rfl  (.pred (ownI w.heap.size tK .u16 (keysL q))) (by intro u1 w e hu1; (try obtain rfl : u1 = _ := hu1); exact (hk2 _ (e7.trans e)).mono (ret_base (e7.trans e).size)) ?_)|refine wOp ?_|(refine wCm ?_ ?_<;>intro hc)|(refine oCv ?_;first|(refine oC 11 ?_; refine LA_call0 (f := 11) rfl rfl  (.pred (ptrB w.heap.size #[nilS, nilS] tS)) (by intro w e; exact (new_x _).mono (ret_ptrB e.size)) ?_))|(refine wNl hK ?_;clear hK K))|refine wG ?_|(refine wCR ?_;intro K hK)|fail)
  all_goals skip
  refine LA_stop (hK _ _ (LX_pick 16 rfl (fun v16 w16 e16 h16 => LX_pick 14 rfl (fun v14 w14 e14 h14 => ?_))))
  clear hK K
  replace h16 : OwnI w.heap.size tK .u16 w14 v16 (keysL q) := OwnI.ext h16 e14
  replace h14 : OwnI w.heap.size tK .u16 w14 v14 (keysL p) := h14
  have x14 := e7.trans (e16.trans e14)
  replace h7 := (e16.trans e14).block h7
  have hcc : ∀ w', Ext w14 w' → ∀ u, Own w14.heap.size 52 1 w' u 2 [v14, v16] → _ := fun w' x u hu => concat_s (Own.slC hu) (h14.ext x).slI (h16.ext x).slI (by omega) (by omega)
  refine LX_la (by kernel_rfl) (fun K hK => LA_two rfl el_ss rfl rfl (OwnI.cells h14) (OwnI.cells h16) ?_)
  repeat' (first|(refine oLA ?_;first|refine LA_pass rfl ?_|(refine oD 19 ?_; refine LA_stop (hK _ _ (LX_pick 8 rfl (fun v8 w8 e8 h8 => ?_))); clear hK K; replace h8 : OwnI w14.heap.size tK .u16 w8 v8 (keysL p ++ keysL q) := h8; refine LX_la (by kernel_rfl) (fun K hK => LA_moveV rfl rfl ?_))|(refine oD 20 ?_; refine LA_stop (hK _ _ (LX_call1 rfl (by decide) rfl rfl (fun v w' => v = .tuple #[] ∧ Ext w14 w' ∧ OwnI w14.heap.size tK .u16 w' v8 xs) (fun w1 e1 => (Srt.sort16_c (e8.trans e1) (h8.ext e1) (by rw [List.length_append]; omega)).mono (fun en w' h => ⟨_, h.1, rfl, h.2.1, hxs ▸ h.2.2⟩)) (fun v w20 hm => ?_))); clear hK K; obtain ⟨rfl, x20, h20⟩ := hm)|(refine oD 22 ?_; refine LA_stop (hK _ _ (LX_call1 rfl (by decide) rfl rfl (fun v w' => Ext w14 w' ∧ OwnI w14.heap.size tK .u16 w' v U) (fun w1 e1 => (compact_s (x20.trans e1) (h20.ext e1) (by omega)).mono (fun en w' h => by obtain ⟨v', h1, h2, h3⟩ := h; exact ⟨v', h1, h2, hdd ▸ h3⟩)) (fun v22 w22 hm => ?_))); clear hK K; obtain ⟨x22, h22⟩ := hm; refine LX_la (by kernel_rfl) (fun K hK => ?_))|(refine oLen ?_; refine LA_len rfl _ rfl rfl (HasI.ownV h22).c ?_)|refine wOp ?_|(refine wCm ?_ ?_<;>intro hc)|(refine oCv ?_;first|(refine oC 104 ?_; refine LA_call1 (f := 104) rfl rfl rfl  (.pred (ownI w14.heap.size tK .u16 (keysL p ++ keysL q))) (by intro u1 w e hu1; (try obtain rfl : u1 = _ := hu1); exact (hcc _ e _ hu1).mono (ret_base e.size)) ?_))|(refine wNl hK ?_;clear hK K))|refine wG ?_|(refine wCR ?_;intro K hK)|fail)
  all_goals skip
  clear hdd hcc hk1 hk2 h20 h8 hxs
  replace h7 := x22.block h7
  have lt22 : ∀ k, v22.ownBlock = some k → k < w22.heap.size := fun k hk => (Own.lt h22 k hk).2
  have nb22 : v22.ownBlock ≠ some b := Own.apart h22 h7 (by decide)
  have x022 : Ext w w22 := x14.trans x22
  obtain ⟨R, hR⟩ : ∃ R, R = two F p q := ⟨_, rfl⟩
  have hRe : ∀ k, e k = false → ne R k = false := fun k hk => by rw [hR]; exact two_ne hF (by rw [he] at hk; exact hk)
  have hRtop : ∀ x, TOP ≤ x → R x = false := fun x hx => by rw [hR]; unfold two; rw [nset_top ha x hx, nset_top hb x hx, hF]
  have hRb : ∀ k, blk R k = two F (blk p k) (blk q k) := fun k => by rw [hR]; exact blk_two hF p q k
  rw [← hR]
  refine CX_loopV (ι := Nat) (fun i => [(0, .val va), (1, .val vb), (2, .val fv), (7, .val (.pointer (some ⟨b, 0, none⟩))), (22, .val v22), (23, .val (.int .i64 U.length)), (24, .val (.int .i64 i))]) (fun i w' => i ≤ U.length ∧ Ext w w' ∧ w22.heap.size ≤ w'.heap.size ∧ OwnI w.heap.size tK .u16 w' v22 U ∧ ∃ kv lv, RS A w' b kv lv (cutP R (kq e i)) ∧ ∀ k, onw b kv lv k → k = b ∨ w22.heap.size ≤ k) (fun i => U.length - i)
    (fun w2 e2 => ⟨0, ⟨Nat.zero_le _, x022.trans e2, e2.size, Own.base (h22.ext e2) x14.size, nilS, nilS, by rw [cut_none (fun j hj => hRe j (kq_first hj))]; exact RS.new (e2.block h7), fun k hk => by
      rcases hk with rfl | hk | hk
      · exact .inl rfl
      · cases hk
      · cases hk⟩, (by repeat' (first | exact Sub.nil | refine Sub.val rfl (by first | with_reducible rfl | (congr 1; omega)) ?_ | refine Sub.same rfl ?_))⟩) ?_
  rintro i w1 ⟨hi, hx1, hs1, hu1, kv, lv, hS, hon⟩
  have honw : ∀ k, onw b kv lv k → w.heap.size ≤ k := fun k hk => by
    rcases hon k hk with rfl | h
    · exact hbb
    · exact Nat.le_trans x022.size h
  by_cases hil : i < U.length
  · obtain ⟨k1, k2, k3, k4⟩ := kq_at (e := e) (i := i) (by omega)
    rw [← hU] at k4
    have hst := cut_step hRe (i := i) (by omega)
    obtain ⟨k, hk⟩ : ∃ k, k = kq e i := ⟨_, rfl⟩
    rw [← hk] at k1 k2 k4 hst hS
    have hA1 : Fsh A w1 := hA.ext hx1
    have hF1 := hS.fsh hA1
    have g1 : ∀ w', Ext w1 w' → _ := fun w' x => get_s ((nset_lt ha).ext (hx1.trans x)) k1
    have g2 : ∀ w', Ext w1 w' → _ := fun w' x => get_s ((nset_lt hb).ext (hx1.trans x)) k1
    have hmn : ∀ w' v' p' kk, Cn (fun k => A k ∧ k < w.heap.size) w' v' p' kk → Cn (fun k => A k ∧ kv.ownBlock ≠ some k) w' v' p' kk := fun w' v' p' kk h => h.mono fun j _ hj => ⟨hj.1, fun hkv => by
      have := honw j (.inr (.inl hkv)); omega⟩
    have hof : ∀ w', Ext w1 w' → ∀ u v', Cn (fun k => A k ∧ k < w.heap.size) w' u (blk p k) (kindP (blk p k)) → Cn (fun k => A k ∧ k < w.heap.size) w' v' (blk q k) (kindP (blk q k)) → Clb Tryz.prog fv [u, v'] w' (Ret w' (.pred (cnP (fun k => A k ∧ kv.ownBlock ≠ some k) (blk R k) (kindP (blk R k))))) :=
      fun w' x u v' h1 h2 => by rw [hRb]; exact hfv w' _ u v' _ _ _ _ (hx1.trans x) (hmn _ _ _ _ h1) (hmn _ _ _ _ h2) (hF1.ext x)
    have hlen : ∀ w' u, Cn (fun k => A k ∧ kv.ownBlock ≠ some k) w' u (blk R k) (kindP (blk R k)) → _ := fun w' u h => len_c h
    have hne : ne R k = true ↔ 0 < cnt (blk R k) 65536 := ne_cnt
    obtain ⟨c, hc⟩ : ∃ c, c = cnt (blk R k) 65536 := ⟨_, rfl⟩
    have hcl := cnt_le (blk R k) 65536
    rw [← hc] at hlen hne hcl
    by_cases hc0 : c = 0
    · have hnf : ne R k = false := by
        cases h : ne R k
        · rfl
        · have := hne.1 h; omega
      rw [cut_skip hnf] at hst
      clear hc hne
      repeat' (first|(refine oLA ?_;first|refine LA_pass rfl ?_|(refine oD 26 ?_; refine LA_indexN rfl _ rfl (fun _ => rfl) rfl (HasI.ownV hu1) rfl hil ?_; rw [k4])|(refine oD 31 ?_; refine oC 47 ?_; refine LA_call2 (f := 47) rfl rfl rfl rfl  (.pred (cnP (fun k => A k ∧ k < w.heap.size) (blk p k) (kindP (blk p k)))) (by intro u1 u2 w e hu1 hu2; (try obtain rfl : u1 = _ := hu1); (try obtain rfl : u2 = _ := hu2); exact g1 _ e) ?_)|(refine oD 34 ?_; refine oC 47 ?_; refine LA_call2 (f := 47) rfl rfl rfl rfl  (.pred (cnP (fun k => A k ∧ k < w.heap.size) (blk q k) (kindP (blk q k)))) (by intro u1 u2 w e hu1 hu2; (try obtain rfl : u1 = _ := hu1); (try obtain rfl : u2 = _ := hu2); exact g2 _ e) ?_)|(refine oD 11 ?_; refine LA_stop (hK _ _ (LX_varK (q := 35) (φ := cnP (fun k => A k ∧ kv.ownBlock ≠ some k) (blk R k) (kindP (blk R k))) (n := 4) rfl rfl (by decide) rfl rfl lays_cn (fun _ => rfl) rfl (fun _ => rfl) (fun b11 c11 w11 e11 hb11 hh11 hn11 hc11 => ?_))); clear hK K)|(refine oD 36 ?_; refine LA_loadK rfl hh11 hn11 rfl (fun _ => rfl) (fun _ => rfl) ?_)|(refine oD 37 ?_; refine oC 51 ?_; refine LA_call1 (f := 51) rfl rfl rfl  (.val (.int .i64 c)) (by intro u1 w e hu1; (try obtain rfl : u1 = _ := hu1); exact hlen _ _ (Cn.ext hc11 e)) ?_)|refine wOp ?_|(refine wCm ?_ ?_<;>intro hc)|(refine oCv ?_;first|(refine oD 35 ?_; refine LA_callV2 rfl rfl rfl rfl (.pred (cnP (fun k => A k ∧ kv.ownBlock ≠ some k) (blk R k) (kindP (blk R k)))) (by intro vf u1 u2 w' e hf hu1 hu2; obtain rfl : vf = _ := hf; exact hof _ e _ _ hu1 hu2) ?_))|(refine wNl hK ?_;clear hK K))|refine wG ?_|(refine wCR ?_;intro K hK)|fail)
      all_goals skip
      exact PX_rndV (i + 1) (fun w5 e5 => ⟨hil, hx1.trans (e11.trans e5), Nat.le_trans hs1 (e11.trans e5).size, hu1.ext (e11.trans e5), kv, lv, by rw [hst]; exact hS.ext (e11.trans e5), hon⟩) (by omega) (by repeat' (first | exact Sub.nil | refine Sub.val rfl (by first | with_reducible rfl | (congr 1; omega)) ?_ | refine Sub.same rfl ?_))
    · clear hne
      have hq1 : ∀ i, 65536 ≤ i → blk R k i = false := fun i hi => blk_off (by omega)
      have hq0 : 0 < cnt (blk R k) 65536 := by rw [← hc]; exact Nat.pos_of_ne_zero hc0
      have hlast : ∀ j, k ≤ j → ne (cutP R k) j = false := fun j hj => cut_ne R hj
      have hnkc := nk_le (cutP R k)
      clear hc
      repeat' (first|(refine oLA ?_;first|refine wBk ?_|(refine oD 26 ?_; refine LA_indexN rfl _ rfl (fun _ => rfl) rfl (HasI.ownV hu1) rfl hil ?_; rw [k4])|(refine oD 31 ?_; refine oC 47 ?_; refine LA_call2 (f := 47) rfl rfl rfl rfl  (.pred (cnP (fun k => A k ∧ k < w.heap.size) (blk p k) (kindP (blk p k)))) (by intro u1 u2 w e hu1 hu2; (try obtain rfl : u1 = _ := hu1); (try obtain rfl : u2 = _ := hu2); exact g1 _ e) ?_)|(refine oD 34 ?_; refine oC 47 ?_; refine LA_call2 (f := 47) rfl rfl rfl rfl  (.pred (cnP (fun k => A k ∧ k < w.heap.size) (blk q k) (kindP (blk q k)))) (by intro u1 u2 w e hu1 hu2; (try obtain rfl : u1 = _ := hu1); (try obtain rfl : u2 = _ := hu2); exact g2 _ e) ?_)|(refine oD 11 ?_; refine LA_stop (hK _ _ (LX_varK (q := 35) (φ := cnP (fun k => A k ∧ kv.ownBlock ≠ some k) (blk R k) (kindP (blk R k))) (n := 4) rfl rfl (by decide) rfl rfl lays_cn (fun _ => rfl) rfl (fun _ => rfl) (fun b11 c11 w11 e11 hb11 hh11 hn11 hc11 => ?_))); clear hK K)|(refine oD 36 ?_; refine LA_loadK rfl hh11 hn11 rfl (fun _ => rfl) (fun _ => rfl) ?_)|(refine oD 37 ?_; refine oC 51 ?_; refine LA_call1 (f := 51) rfl rfl rfl  (.val (.int .i64 c)) (by intro u1 w e hu1; (try obtain rfl : u1 = _ := hu1); exact hlen _ _ (Cn.ext hc11 e)) ?_)|(refine oD 39 ?_; refine LA_moveV rfl rfl ?_; have hS11 := hS.ext e11; have hcA : Cn (fun j => A j ∧ kv.ownBlock ≠ some j ∧ j < w11.heap.size) w11 (.agg c11) (blk R k) (kindP (blk R k)) := Cn.mono hc11 fun j hj ha => ⟨ha.1, ha.2, hj⟩)|(refine oNc ?_; refine LA_nilCheck rfl rfl ?_)|(refine oF 0 ?_; refine LA_fieldAddr (a' := ⟨b, 0, none⟩) rfl rfl (fun _ => rfl) ?_)|(refine oF 1 ?_; refine LA_fieldAddr (a' := ⟨b, 1, none⟩) rfl rfl (fun _ => rfl) ?_)|(refine oLt 52 ?_; refine LA_loadB (c := kv) rfl (fun _ => rfl) rfl hS11.hb rfl ?_)|(refine oLt 53 ?_; refine LA_loadB (c := lv) rfl (fun _ => rfl) rfl hS11.hb rfl ?_)|(refine oD 46 ?_; refine LA_oneO rfl el_c16 rfl rfl ?_)|(refine oD 52 ?_; refine LA_loadK rfl hh11 hn11 rfl (fun _ => rfl) (fun _ => rfl) ?_)|(refine oD 53 ?_; refine LA_oneCn (base := w11.heap.size) (Nat.le_refl _) rfl el_cct rfl (fun v w e h => by obtain rfl : v = _ := h; exact hcA.ext e) ?_)|refine wOp ?_|(refine wCm ?_ ?_<;>intro hc)|(refine oCv ?_;first|(refine oD 35 ?_; refine LA_callV2 rfl rfl rfl rfl (.pred (cnP (fun k => A k ∧ kv.ownBlock ≠ some k) (blk R k) (kindP (blk R k)))) (by intro vf u1 u2 w' e hf hu1 hu2; obtain rfl : vf = _ := hf; exact hof _ e _ _ hu1 hu2) ?_))|(refine wNl hK ?_;clear hK K))|(refine oCX ?_;first|refine CX_phases (id := 9) [8, 15, 18, 21] (by kernel_rfl) (by kernel_rfl) (by kernel_rfl) (Phase_cons ?_))|refine wG ?_|(refine wCR ?_;intro K hK)|refine wPh ?_|fail)
      have hplK : ∀ w', Ext w11 w' → Plain (fun j => A j ∧ kv.ownBlock ≠ some j ∧ j < w11.heap.size) (fun j => kv.ownBlock = some j) w' := fun w' x j hj => by
        obtain ⟨cur, hcur⟩ := own_type (hS11.hk.ext x) hj
        exact ⟨cur, _, _, hcur, by decide, by decide, fun ha => absurd hj ha.2.1⟩
      have hplL : ∀ (AA : Nat → Prop) w' n cs, Own 0 tC 4 w' lv n cs → Plain AA (fun j => lv.ownBlock = some j) w' := fun AA w' n cs ho j hj => by
        obtain ⟨cur, hcur⟩ := own_type ho hj
        exact ⟨cur, _, _, hcur, by decide, by decide, fun _ => by decide⟩
      have lkv : ∀ k, kv.ownBlock = some k → k < w11.heap.size := fun k h => hS11.lt (.inr (.inl h))
      have llv : ∀ k, lv.ownBlock = some k → k < w11.heap.size := fun k h => hS11.lt (.inr (.inr h))
      have hsn := slot_ne hS11
      obtain ⟨Q, q1, q2, q3⟩ := hS11.hl
      have hklen := keysL_len (cutP R k)
      have hnkl := nk_le (cutP R k)
      refine MX_appendL rfl el_c16 rfl hS11.hk rfl HasC.own (fun u hu => by rw [List.mem_singleton] at hu; subst hu; rfl) (by unfold maxLen; omega) (by omega) (fun kv' w1' w2 e1 ho' hf hl => ⟨(53, .pred (rowCn w11.heap.size (fun j => A j ∧ kv.ownBlock ≠ some j ∧ j < w11.heap.size) (blk R k) (kindP (blk R k)))) :: _, fun t u _ hu => keep_cons (fun u hu => ?_) vals_keep t u hu, Phase_cons ?_⟩)
      · exact RowCn.fr hu hf (hplK _ e1) (fun j hj h => by have := lkv j h; omega)
      have hb2 := hf.at (e1.block hS11.hb) (fun h => hsn.1 h)
      have hh2 := hf.at (e1.block hh11) (fun h => Own.apart hS11.hk hh11 (by decide) h)
      have q22 : Own 0 tC 4 w2 lv (nk (cutP R k)) (cellsQ Q) := hf.own (q2.ext e1) (fun k h1 h2 => hsn.2.2 k h2 h1)
      have hc2 := (hcA.ext e1).fr hf (hplK _ e1)
      have sz2 := Nat.le_trans e1.size hf.size
      repeat' (first|(refine oLA ?_;first|refine wBk ?_|(refine oNc ?_; refine LA_nilCheck rfl rfl ?_)|(refine oF 0 ?_; refine LA_fieldAddr (a' := ⟨b, 0, none⟩) rfl rfl (fun _ => rfl) ?_)|(refine oF 1 ?_; refine LA_fieldAddr (a' := ⟨b, 1, none⟩) rfl rfl (fun _ => rfl) ?_)|(refine oLt 52 ?_; refine LA_loadB (c := kv) rfl (fun _ => rfl) rfl hb2 rfl ?_)|(refine oLt 53 ?_; refine LA_loadB (c := lv) rfl (fun _ => rfl) rfl hb2 rfl ?_)|(refine oLt 65 ?_; refine LA_loadK (n := 4) rfl hh2 hn11 rfl (fun _ => rfl) (fun _ => rfl) ?_)|(refine oD 53 ?_; refine LA_oneCn (base := w11.heap.size) sz2 rfl el_cct rfl (fun v w e h => by obtain rfl : v = _ := h; exact hc2.ext e) ?_)|refine wOp ?_|(refine wCm ?_ ?_<;>intro hc)|(refine wNl hK ?_;clear hK K))|refine wG ?_|(refine wCR ?_;intro K hK)|refine wPh ?_|fail)
      refine MX_pick 53 rfl (by decide) rfl (fun v53 w3 e3 h53 => ?_)
      obtain ⟨qc, r1, r2, r3⟩ := h53
      refine MX_appendL rfl el_cct rfl (q22.ext e3) rfl (HasC.ownV r1) r3 (by unfold maxLen; omega) (by omega) (fun lv' w3' w4 e3' hol hfl hll => ⟨_, fun t u _ hu => vals_keep t u hu, Phase_cons ?_⟩)
      have x23 := e3.trans e3'
      have hb4 := hfl.at (x23.block hb2) (fun h => hsn.2.1 h)
      have r14 := hfl.own (ho'.ext x23) (fun k h1 h2 => by
        obtain ⟨cur, hcur⟩ := own_type (ho'.ext x23) h1
        exact Own.apart (q22.ext x23) hcur (by decide) h2)
      have rc4 := (r2.ext e3').fr hfl (hplL _ _ _ _ (q22.ext x23))
      obtain ⟨ck1, ck2⟩ := own_cells r14
      obtain ⟨cl1, cl2⟩ := own_cells hol
      have hF4 : Fr (onw b kv lv) w11 w4 := (((Fr.of e1).trans (hf.mono fun k h => .inr (.inl h))).trans (Fr.of x23)).trans (hfl.mono fun k h => .inr (.inr h))
      repeat' (first|(refine oLA ?_;first|refine wBk ?_|(refine oNc ?_; refine LA_nilCheck rfl rfl ?_)|(refine oF 0 ?_; refine LA_fieldAddr (a' := ⟨b, 0, none⟩) rfl rfl (fun _ => rfl) ?_)|(refine oF 1 ?_; refine LA_fieldAddr (a' := ⟨b, 1, none⟩) rfl rfl (fun _ => rfl) ?_)|(refine oLt 52 ?_; refine LA_loadB (c := kv) rfl (fun _ => rfl) rfl hb4 rfl ?_)|(refine oLt 53 ?_; refine LA_loadB (c := lv) rfl (fun _ => rfl) rfl hb4 rfl ?_)|refine wOp ?_|(refine wCm ?_ ?_<;>intro hc)|(refine wNl hK ?_;clear hK K))|refine wG ?_|(refine wCR ?_;intro K hK)|refine wPh ?_|fail)
      refine MX_store (news := [kv']) rfl rfl rfl hb4 ck1 (fun _ => rfl) (Nat.le_of_ble_eq_true rfl) (fun u hu => by rw [List.mem_singleton] at hu; subst hu; exact ck2) (fun w6 e6 => ⟨_, fun t u hu => vals_keep t u hu, Phase_cons ?_⟩)
      have hb6 : (w6.setRow b #[kv', lv]).heap[b]? = _ := setRow_heap w6 b _ _ _ _ (e6.block hb4)
      have rc7 := (rc4.ext e6).setRow (e6.block hb4) ⟨by decide, by decide, by decide⟩ #[kv', lv]
      obtain ⟨w7, hw7⟩ : ∃ w7, w7 = w6.setRow b #[kv', lv] := ⟨_, rfl⟩
      have hF7 : Fr (onw b kv lv) w11 w7 := hw7 ▸ ((hF4.trans (Fr.of e6)).setRow (.inl rfl) _)
      have r17 : Own 0 tK 1 w7 kv' _ _ := hw7 ▸ Own.setRow (r14.ext e6) _ (Own.apart (r14.ext e6) (e6.block hb4) (by decide))
      have s17 : Own 0 tC 4 w7 lv' _ _ := hw7 ▸ Own.setRow (hol.ext e6) _ (Own.apart (hol.ext e6) (e6.block hb4) (by decide))
      rw [show (#[kv, lv].toList.take 0 ++ [kv'] ++ #[kv, lv].toList.drop (0 + [kv'].length)).toArray = #[kv', lv] from rfl]
      rw [← hw7] at hb6 rc7 ⊢
      clear hw7
      repeat' (first|(refine oLA ?_;first|refine wBk ?_|(refine oNc ?_; refine LA_nilCheck rfl rfl ?_)|(refine oF 0 ?_; refine LA_fieldAddr (a' := ⟨b, 0, none⟩) rfl rfl (fun _ => rfl) ?_)|(refine oF 1 ?_; refine LA_fieldAddr (a' := ⟨b, 1, none⟩) rfl rfl (fun _ => rfl) ?_)|(refine oLt 52 ?_; refine LA_loadB (c := kv) rfl (fun _ => rfl) rfl hb6 rfl ?_)|(refine oLt 53 ?_; refine LA_loadB (c := lv) rfl (fun _ => rfl) rfl hb6 rfl ?_)|refine wOp ?_|(refine wCm ?_ ?_<;>intro hc)|(refine wNl hK ?_;clear hK K))|refine wG ?_|(refine wCR ?_;intro K hK)|refine wPh ?_|fail)
      refine MX_store (news := [lv']) rfl rfl rfl hb6 cl1 (fun _ => rfl) (Nat.le_of_ble_eq_true rfl) (fun u hu => by rw [List.mem_singleton] at hu; subst hu; exact cl2) (fun w8 e8 => ⟨_, fun t u hu => vals_keep t u hu, Phase_nil ?_⟩)
      have hb8 : (w8.setRow b #[kv', lv']).heap[b]? = _ := setRow_heap w8 b _ _ _ _ (e8.block hb6)
      have rc9 := (rc7.ext e8).setRow (e8.block hb6) ⟨by decide, by decide, by decide⟩ #[kv', lv']
      obtain ⟨w9, hw9⟩ : ∃ w9, w9 = w8.setRow b #[kv', lv'] := ⟨_, rfl⟩
      have hF9 : Fr (onw b kv lv) w11 w9 := hw9 ▸ ((hF7.trans (Fr.of e8)).setRow (.inl rfl) _)
      have r19 : Own 0 tK 1 w9 kv' _ _ := hw9 ▸ Own.setRow (r17.ext e8) _ (Own.apart (r17.ext e8) (e8.block hb6) (by decide))
      have s19 : Own 0 tC 4 w9 lv' _ _ := hw9 ▸ Own.setRow (s17.ext e8) _ (Own.apart (s17.ext e8) (e8.block hb6) (by decide))
      rw [show (#[kv', lv].toList.take 1 ++ [lv'] ++ #[kv', lv].toList.drop (1 + [lv'].length)).toArray = #[kv', lv'] from rfl]
      rw [← hw9] at hb8 rc9 ⊢
      clear hw9
      have hkk9 : OwnI 0 tK .u16 w9 kv' (keysL (cutP R k) ++ [(k : Int)]) := by unfold OwnI; rw [List.map_append, List.length_append, List.length_singleton]; exact r19
      have hmut : Mut A w11 b kv lv _ w9 := hS11.app k1 hlast hq1 hq0 q1 q3 (Cn.loc hl e1.size rc9) hF9 hb8 hkk9 s19 (hl.le e1.size) (hll.le (by have := x23.size; omega))
      repeat' (first|(refine oLA ?_;first|refine wBk ?_|(refine oNc ?_; refine LA_nilCheck rfl rfl ?_)|(refine oF 0 ?_; refine LA_fieldAddr (a' := ⟨b, 0, none⟩) rfl rfl (fun _ => rfl) ?_)|(refine oF 1 ?_; refine LA_fieldAddr (a' := ⟨b, 1, none⟩) rfl rfl (fun _ => rfl) ?_)|(refine oLt 52 ?_; refine LA_loadB (c := kv) rfl (fun _ => rfl) rfl hb8 rfl ?_)|(refine oLt 53 ?_; refine LA_loadB (c := lv) rfl (fun _ => rfl) rfl hb8 rfl ?_)|refine wOp ?_|(refine wCm ?_ ?_<;>intro hc)|(refine wNl hK ?_;clear hK K))|refine wG ?_|(refine wCR ?_;intro K hK)|refine wPh ?_|fail)
      all_goals skip
      obtain ⟨kv9, lv9, m1, m2, m3, m4⟩ := hmut
      have hu9 := m2.own (hu1.ext e11) (fun j h1 h2 => by
        rcases hon j h2 with rfl | h3
        · exact nb22 h1
        · have := lt22 j h1; omega)
      have hon9 : ∀ j, onw b kv9 lv9 j → j = b ∨ w22.heap.size ≤ j := fun j hj => by
        have hs11 := e11.size
        rcases hj with rfl | hj | hj
        · exact .inl rfl
        · rcases m3 with m3 | m3
          · exact hon j (.inr (.inl (m3 ▸ hj)))
          · have := m3 j hj; exact .inr (by omega)
        · rcases m4 with m4 | m4
          · exact hon j (.inr (.inr (m4 ▸ hj)))
          · have := m4 j hj; exact .inr (by omega)
      have x9 := Fr.ext (hx1.trans e11) m2 honw
      have sz9 := Nat.le_trans (Nat.le_trans hs1 e11.size) m2.size
      exact PX_rndV (i + 1) (fun w5 e5 => ⟨hil, x9.trans e5, Nat.le_trans sz9 e5.size, Own.ext hu9 e5, kv9, lv9, by rw [hst]; exact m1.ext e5, hon9⟩) (by omega) (by repeat' (first | exact Sub.nil | refine Sub.val rfl (by first | with_reducible rfl | (congr 1; omega)) ?_ | refine Sub.same rfl ?_))
  · have hie : i = U.length := by omega
    rw [hie, hUl, kq_end (Nat.le_refl _), cut_all hRtop] at hS
    repeat' (first|(refine oLA ?_;first|refine LA_pass rfl ?_|refine wOp ?_|(refine wCm ?_ ?_<;>intro hc)|(refine wNl hK ?_;clear hK K))|refine wG ?_|(refine wCR ?_;intro K hK)|fail)
    all_goals skip
    exact PX_retP rfl rfl hx1 (fun u w5 e5 hu => by obtain rfl : u = _ := hu; exact ⟨b, kv, lv, rfl, hS.ext e5, fun k hk => hB k (honw k hk)⟩)
end Go.Proofs.YtfcioiobhpcngaaGreatDoor
end
section
set_option linter.unusedSimpArgs false
set_option linter.unusedVariables false
set_option maxRecDepth 3000
namespace Go.Proofs.YtfcioiobhpcngaaGreatDoor
open Go.LA Go.ArrP Go.RowKit
variable {A B : Nat → Prop}
theorem and_s {w : World} {va vb : Value} {p q : Nat → Bool} {B1 B2 : Nat → Prop} (ha : NSet B1 A w va p) (hb : NSet B2 A w vb q) (hT : Tab w) (hB : Fsh B w) (hA : Fsh A w) :
    Fc Tryz.prog 28 #[va, vb] w (Ret w (.pred (rsP B A (two (fun x y => x && y) p q)))) := by
  refine Fc.of (args := [_, _]) Tryz.func28 rfl rfl Tryz.ntmps28 (Nat.le_of_ble_eq_true rfl) ?_
  repeat' (first|(refine oLA ?_;first|refine LA_pass rfl ?_|refine wOp ?_|(refine wCm ?_ ?_<;>intro hc)|(refine oCv ?_;first|(refine oC 58 ?_; refine LA_call3 (f := 58) rfl rfl rfl rfl rfl  (.pred (rsP B A (two (fun x y => x && y) p q))) (by intro u1 u2 u3 w e hu1 hu2 hu3; (try obtain rfl : u1 = _ := hu1); (try obtain rfl : u2 = _ := hu2); (try obtain rfl : u3 = _ := hu3); exact each_s (ha.ext e) (hb.ext e) rfl (fun w' A' u v' kp kq p' q' x h1 h2 hF => Clb.of (cand_c h1 h2 ((hT.ext e).ext x) hF)) (hT.ext e) (hB.ext e) (hA.ext e)) ?_))|(refine wNl hK ?_;clear hK K))|refine wG ?_|(refine wCR ?_;intro K hK)|fail)
  exact PX_retP rfl rfl (Ext.refl _) (fun _ _ _ hv => hv)
theorem or_s {w : World} {va vb : Value} {p q : Nat → Bool} {B1 B2 : Nat → Prop} (ha : NSet B1 A w va p) (hb : NSet B2 A w vb q) (hT : Tab w) (hB : Fsh B w) (hA : Fsh A w) :
    Fc Tryz.prog 26 #[va, vb] w (Ret w (.pred (rsP B A (two (fun x y => x || y) p q)))) := by
  refine Fc.of (args := [_, _]) Tryz.func26 rfl rfl Tryz.ntmps26 (Nat.le_of_ble_eq_true rfl) ?_
  repeat' (first|(refine oLA ?_;first|refine LA_pass rfl ?_|refine wOp ?_|(refine wCm ?_ ?_<;>intro hc)|(refine oCv ?_;first|(refine oC 58 ?_; refine LA_call3 (f := 58) rfl rfl rfl rfl rfl  (.pred (rsP B A (two (fun x y => x || y) p q))) (by intro u1 u2 u3 w e hu1 hu2 hu3; (try obtain rfl : u1 = _ := hu1); (try obtain rfl : u2 = _ := hu2); (try obtain rfl : u3 = _ := hu3); exact each_s (ha.ext e) (hb.ext e) rfl (fun w' A' u v' kp kq p' q' x h1 h2 hF => Clb.of (cor_c h1 h2 ((hT.ext e).ext x) hF)) (hT.ext e) (hB.ext e) (hA.ext e)) ?_))|(refine wNl hK ?_;clear hK K))|refine wG ?_|(refine wCR ?_;intro K hK)|fail)
  exact PX_retP rfl rfl (Ext.refl _) (fun _ _ _ hv => hv)
theorem andnot_s {w : World} {va vb : Value} {p q : Nat → Bool} {B1 B2 : Nat → Prop} (ha : NSet B1 A w va p) (hb : NSet B2 A w vb q) (hT : Tab w) (hB : Fsh B w) (hA : Fsh A w) :
    Fc Tryz.prog 24 #[va, vb] w (Ret w (.pred (rsP B A (two (fun x y => x && !y) p q)))) := by
  refine Fc.of (args := [_, _]) Tryz.func24 rfl rfl Tryz.ntmps24 (Nat.le_of_ble_eq_true rfl) ?_
  repeat' (first|(refine oLA ?_;first|refine LA_pass rfl ?_|refine wOp ?_|(refine wCm ?_ ?_<;>intro hc)|(refine oCv ?_;first|(refine oC 58 ?_; refine LA_call3 (f := 58) rfl rfl rfl rfl rfl  (.pred (rsP B A (two (fun x y => x && !y) p q))) (by intro u1 u2 u3 w e hu1 hu2 hu3; (try obtain rfl : u1 = _ := hu1); (try obtain rfl : u2 = _ := hu2); (try obtain rfl : u3 = _ := hu3); exact each_s (ha.ext e) (hb.ext e) rfl (fun w' A' u v' kp kq p' q' x h1 h2 hF => Clb.of (candnot_c h1 h2 ((hT.ext e).ext x) hF)) (hT.ext e) (hB.ext e) (hA.ext e)) ?_))|(refine wNl hK ?_;clear hK K))|refine wG ?_|(refine wCR ?_;intro K hK)|fail)
  exact PX_retP rfl rfl (Ext.refl _) (fun _ _ _ hv => hv)
theorem xor_s {w : World} {va vb : Value} {p q : Nat → Bool} {B1 B2 : Nat → Prop} (ha : NSet B1 A w va p) (hb : NSet B2 A w vb q) (hT : Tab w) (hB : Fsh B w) (hA : Fsh A w) :
    Fc Tryz.prog 29 #[va, vb] w (Ret w (.pred (rsP B A (two (fun x y => !(x == y)) p q)))) := by
  refine Fc.of (args := [_, _]) Tryz.func29 rfl rfl Tryz.ntmps29 (Nat.le_of_ble_eq_true rfl) ?_
  repeat' (first|(refine oLA ?_;first|refine LA_pass rfl ?_|refine wOp ?_|(refine wCm ?_ ?_<;>intro hc)|(refine oCv ?_;first|(refine oC 58 ?_; refine LA_call3 (f := 58) rfl rfl rfl rfl rfl  (.pred (rsP B A (two (fun x y => !(x == y)) p q))) (by intro u1 u2 u3 w e hu1 hu2 hu3; (try obtain rfl : u1 = _ := hu1); (try obtain rfl : u2 = _ := hu2); (try obtain rfl : u3 = _ := hu3); exact each_s (ha.ext e) (hb.ext e) rfl (fun w' A' u v' kp kq p' q' x h1 h2 hF => Clb.of (akA h1 h2 ((hT.ext e).ext x) hF)) (hT.ext e) (hB.ext e) (hA.ext e)) ?_))|(refine wNl hK ?_;clear hK K))|refine wG ?_|(refine wCR ?_;intro K hK)|fail)
  exact PX_retP rfl rfl (Ext.refl _) (fun _ _ _ hv => hv)
noncomputable def notP (n : Nat) (p : Nat → Bool) (x : Nat) : Bool := decide (x < min n TOP) && !p x
theorem spU_one (lo hi : Nat) : spU [((lo : Int), (hi : Int))] = fun y => decide (lo ≤ y) && decide (y < min hi TOP) := by
  funext y
  unfold spU
  rw [List.any_cons, List.any_nil, Bool.or_false, Int.toNat_natCast, Int.toNat_natCast]
theorem not_s {w : World} {va : Value} {p : Nat → Bool} {B1 : Nat → Prop} {n : Nat} (ha : NSet B1 A w va p) (hn : n < 18446744073709551616) (hT : Tab w) (hB : Fsh B w) (hA : Fsh A w) :
    Fc Tryz.prog 30 #[va, .int .u64 n] w (Ret w (.pred (rsP B A (notP n p)))) := by
  have hnp : two (fun x y => x && !y) (spU [((0 : Int), (n : Int))]) p = notP n p := by
    funext x
    have := congrFun (spU_one 0 n) x
    unfold two notP
    rw [show ((0 : Int), (n : Int)) = (((0 : Nat) : Int), (n : Int)) from rfl, this, decide_eq_true (Nat.zero_le x), Bool.true_and]
  refine Fc.of (args := [_, _]) Tryz.func30 rfl rfl Tryz.ntmps30 (Nat.le_of_ble_eq_true rfl) ?_
  repeat' (first|(refine oLA ?_;first|refine LA_pass rfl ?_|(refine oD 6 ?_; refine LA_build2 (c := spV .u64 (0, n)) rfl rfl rfl (fun w => run_build w _ _ _ (by kernel_rfl)) ?_)|(refine oD 7 ?_; refine LA_oneS rfl span_el rfl rfl (by decide) ?_)|refine wOp ?_|(refine wCm ?_ ?_<;>intro hc)|(refine oCv ?_;first|(refine oC 14 ?_; refine LA_call1 (f := 14) rfl rfl rfl  (.pred (rsP B A (spU [((0 : Int), (n : Int))]))) (by intro u1 w e hu1; (try obtain rfl : u1 = _ := hu1); exact spans_s (xs := [((0 : Int), (n : Int))]) (Own.slC hu1) (by intro x hx; rw [List.mem_singleton] at hx; subst hx; dsimp only; omega) (hT.ext e) (hB.ext e) (hA.ext e)) ?_)|(refine oC 24 ?_; refine LA_call2 (f := 24) rfl rfl rfl rfl  (.pred (rsP B A (notP n p))) (by intro u1 u2 w e hu1 hu2; (try obtain rfl : u1 = _ := hu1); (try obtain rfl : u2 = _ := hu2); exact by rw [← hnp]; exact andnot_s (B1 := B) (.inr hu1) (ha.ext e) (hT.ext e) (hB.ext e) (hA.ext e)) ?_))|(refine wNl hK ?_;clear hK K))|refine wG ?_|(refine wCR ?_;intro K hK)|fail)
  all_goals skip
  exact PX_retP rfl rfl (Ext.refl _) (fun _ _ _ hv => hv)
end Go.Proofs.YtfcioiobhpcngaaGreatDoor
end
section
set_option linter.unusedSimpArgs false
set_option linter.unusedVariables false
set_option maxRecDepth 3000
namespace Go.Proofs.YtfcioiobhpcngaaGreatDoor
open Go.LA Go.ArrP Go.RowKit
variable {A B : Nat → Prop}
set_option maxHeartbeats 400000 in
theorem push_s {w0 w : World} {b : Nat} {kv lv va : Value} {p : Nat → Bool} {xs : List Int} {k : Nat} (hx0 : Ext w0 w) (hT : Tab w0) (hB : ∀ k, onw b kv lv k → w0.heap.size ≤ k) (hS : RS A w b kv lv p) (hA : Fsh A w) (hk : k < 65536) (hlast : ∀ j, k ≤ j → ne p j = false) (ha : SlI .u16 w va xs) (hi : Inc xs) (hlo : Low xs) (h0 : 0 < xs.length) :
    Fc Tryz.prog 62 #[.pointer (some ⟨b, 0, none⟩), .int .u16 k, va] w (fun en w' => en = .returned (.tuple #[]) ∧ Mut A w b kv lv (upd p k (memb xs)) w') := by
  have hF := hS.fsh hA
  have hq1 : ∀ i, 65536 ≤ i → memb xs i = false := fun i hi' => by
    unfold memb; exact decide_eq_false fun h => by have := hlo _ h; omega
  have hq0 : 0 < cnt (memb xs) 65536 := by
    rw [← listS_len, listS_memb hi hlo]; exact h0
  have hnkc := nk_le p
  obtain ⟨q, hq⟩ : ∃ q, q = memb xs := ⟨_, rfl⟩
  have hof : ∀ w', Ext w w' → _ := fun w' e => ofarr_c (ha.ext e) hi hlo (hF.ext e)
  rw [← hq] at hq1 hq0 hof ⊢
  clear hq
  refine Fc.of (args := [_, _, _]) Tryz.func62 rfl rfl Tryz.ntmps62 (Nat.le_of_ble_eq_true rfl) ?_
  repeat' (first|(refine oLA ?_;first|refine wBk ?_|(refine oD 6 ?_; refine LA_stop (hK _ _ (LX_varK (q := 11) (φ := cnP (fun k => A k ∧ kv.ownBlock ≠ some k) q 1) (n := 4) rfl rfl (by decide) rfl rfl lays_cn (fun _ => rfl) rfl (fun _ => rfl) (fun b11 c11 w11 e11 hb11 hh11 hn11 hc11 => ?_))); clear hK K; refine LX_la (by kernel_rfl) (fun K hK => ?_))|(refine oD 13 ?_; refine LA_moveV rfl rfl ?_; have hS11 := hS.ext e11; have hcA : Cn (fun j => A j ∧ kv.ownBlock ≠ some j ∧ j < w11.heap.size) w11 (.agg c11) q 1 := Cn.mono hc11 fun j hj ha => ⟨ha.1, ha.2, hj⟩)|(refine oNc ?_; refine LA_nilCheck rfl rfl ?_)|(refine oF 0 ?_; refine LA_fieldAddr (a' := ⟨b, 0, none⟩) rfl rfl (fun _ => rfl) ?_)|(refine oF 1 ?_; refine LA_fieldAddr (a' := ⟨b, 1, none⟩) rfl rfl (fun _ => rfl) ?_)|(refine oLt 52 ?_; refine LA_loadB (c := kv) rfl (fun _ => rfl) rfl hS11.hb rfl ?_)|(refine oLt 53 ?_; refine LA_loadB (c := lv) rfl (fun _ => rfl) rfl hS11.hb rfl ?_)|(refine oD 20 ?_; refine LA_oneO rfl el_c16 rfl rfl ?_)|(refine oD 26 ?_; refine LA_loadK rfl hh11 hn11 rfl (fun _ => rfl) (fun _ => rfl) ?_)|refine wOp ?_|(refine wCm ?_ ?_<;>intro hc)|(refine oCv ?_;first|(refine oC 32 ?_; refine LA_call1 (f := 32) rfl rfl rfl  (.tup2 (.pred (cnP (fun k => A k ∧ kv.ownBlock ≠ some k) q 1)) (.val (.bool true))) (by intro u1 w e hu1; (try obtain rfl : u1 = _ := hu1); exact hof _ e) ?_))|(refine wNl hK ?_;clear hK K))|(refine oCX ?_;first|refine CX_phases (id := 1) [8, 16, 19, 22] (by kernel_rfl) (by kernel_rfl) (by kernel_rfl) (Phase_cons ?_))|refine wG ?_|(refine wCR ?_;intro K hK)|refine wPh ?_|fail)
  all_goals skip
  have hplK : ∀ w', Ext w11 w' → Plain (fun j => A j ∧ kv.ownBlock ≠ some j ∧ j < w11.heap.size) (fun j => kv.ownBlock = some j) w' := fun w' x j hj => by
    obtain ⟨cur, hcur⟩ := own_type (hS11.hk.ext x) hj
    exact ⟨cur, _, _, hcur, by decide, by decide, fun ha => absurd hj ha.2.1⟩
  have hplL : ∀ (AA : Nat → Prop) w' n cs, Own 0 tC 4 w' lv n cs → Plain AA (fun j => lv.ownBlock = some j) w' := fun AA w' n cs ho j hj => by
    obtain ⟨cur, hcur⟩ := own_type ho hj
    exact ⟨cur, _, _, hcur, by decide, by decide, fun _ => by decide⟩
  have lkv : ∀ k, kv.ownBlock = some k → k < w11.heap.size := fun k h => hS11.lt (.inr (.inl h))
  have llv : ∀ k, lv.ownBlock = some k → k < w11.heap.size := fun k h => hS11.lt (.inr (.inr h))
  have hsn := slot_ne hS11
  obtain ⟨Q, q1, q2, q3⟩ := hS11.hl
  have hklen := keysL_len p
  have hnkl := nk_le p
  refine MX_appendL rfl el_c16 rfl hS11.hk rfl HasC.own (fun u hu => by rw [List.mem_singleton] at hu; subst hu; rfl) (by unfold maxLen; omega) (by omega) (fun kv' w1' w2 e1 ho' hf hl => ⟨_, fun t u _ hu => vals_keep t u hu, Phase_cons ?_⟩)
  have hT2 := hT.ext (Fr.ext (hx0.trans (e11.trans e1)) hf (fun j h => hB j (.inr (.inl h)))); have hF3 : Fsh (fun j => A j ∧ kv.ownBlock ≠ some j ∧ kv'.ownBlock ≠ some j) w2 := fun j hj => ⟨hA j (Nat.le_trans (Nat.le_trans e11.size e1.size) (Nat.le_trans hf.size hj)), fun h => by have h1 := lkv j h; have h2 := e1.size; have h3 := hf.size; omega, fun h => by have h1 := (Own.lt ho' j h).2; omega⟩
  have hb2 := hf.at (e1.block hS11.hb) (fun h => hsn.1 h)
  have hh2 := hf.at (e1.block hh11) (fun h => Own.apart hS11.hk hh11 (by decide) h)
  have q22 : Own 0 tC 4 w2 lv (nk p) (cellsQ Q) := hf.own (q2.ext e1) (fun k h1 h2 => hsn.2.2 k h2 h1)
  have hc2 := (hcA.ext e1).fr hf (hplK _ e1)
  have sz2 := Nat.le_trans e1.size hf.size
  repeat' (first|(refine oLA ?_;first|refine wBk ?_|(refine oNc ?_; refine LA_nilCheck rfl rfl ?_)|(refine oF 0 ?_; refine LA_fieldAddr (a' := ⟨b, 0, none⟩) rfl rfl (fun _ => rfl) ?_)|(refine oF 1 ?_; refine LA_fieldAddr (a' := ⟨b, 1, none⟩) rfl rfl (fun _ => rfl) ?_)|(refine oLt 52 ?_; refine LA_loadB (c := kv) rfl (fun _ => rfl) rfl hb2 rfl ?_)|(refine oLt 53 ?_; refine LA_loadB (c := lv) rfl (fun _ => rfl) rfl hb2 rfl ?_)|(refine oLt 65 ?_; refine LA_loadK (n := 4) rfl hh2 hn11 rfl (fun _ => rfl) (fun _ => rfl) ?_)|(first | (refine oD 27 ?_; refine oC 75 ?_; refine LA_call1 (f := 75) rfl rfl rfl  (.pred (cnP (fun j => A j ∧ kv.ownBlock ≠ some j ∧ kv'.ownBlock ≠ some j) q (kindP q))) (by intro u1 w e hu1; (try obtain rfl : u1 = _ := hu1); exact canon_c ((Cn.loc3 hl e1.size hc2).ext e) (hT2.ext e) (hF3.ext e)) ?_) | (refine oD 28 ?_; refine LA_oneCn (base := w11.heap.size) sz2 rfl el_cct rfl (fun v w e h => h) ?_))|refine wOp ?_|(refine wCm ?_ ?_<;>intro hc)|(refine wNl hK ?_;clear hK K))|refine wG ?_|(refine wCR ?_;intro K hK)|refine wPh ?_|fail)
  refine MX_pick 28 rfl (by decide) rfl (fun v53 w3 e3 h53 => ?_)
  obtain ⟨qc, r1, r2, r3⟩ := h53
  refine MX_appendL rfl el_cct rfl (q22.ext e3) rfl (HasC.ownV r1) r3 (by unfold maxLen; omega) (by omega) (fun lv' w3' w4 e3' hol hfl hll => ⟨_, fun t u _ hu => vals_keep t u hu, Phase_cons ?_⟩)
  have x23 := e3.trans e3'
  have hb4 := hfl.at (x23.block hb2) (fun h => hsn.2.1 h)
  have r14 := hfl.own (ho'.ext x23) (fun k h1 h2 => by
    obtain ⟨cur, hcur⟩ := own_type (ho'.ext x23) h1
    exact Own.apart (q22.ext x23) hcur (by decide) h2)
  have rc4 := (r2.ext e3').fr hfl (hplL _ _ _ _ (q22.ext x23))
  obtain ⟨ck1, ck2⟩ := own_cells r14
  obtain ⟨cl1, cl2⟩ := own_cells hol
  have hF4 : Fr (onw b kv lv) w11 w4 := (((Fr.of e1).trans (hf.mono fun k h => .inr (.inl h))).trans (Fr.of x23)).trans (hfl.mono fun k h => .inr (.inr h))
  repeat' (first|(refine oLA ?_;first|refine wBk ?_|(refine oNc ?_; refine LA_nilCheck rfl rfl ?_)|(refine oF 0 ?_; refine LA_fieldAddr (a' := ⟨b, 0, none⟩) rfl rfl (fun _ => rfl) ?_)|(refine oF 1 ?_; refine LA_fieldAddr (a' := ⟨b, 1, none⟩) rfl rfl (fun _ => rfl) ?_)|(refine oLt 52 ?_; refine LA_loadB (c := kv) rfl (fun _ => rfl) rfl hb4 rfl ?_)|(refine oLt 53 ?_; refine LA_loadB (c := lv) rfl (fun _ => rfl) rfl hb4 rfl ?_)|refine wOp ?_|(refine wCm ?_ ?_<;>intro hc)|(refine wNl hK ?_;clear hK K))|refine wG ?_|(refine wCR ?_;intro K hK)|refine wPh ?_|fail)
  refine MX_store (news := [kv']) rfl rfl rfl hb4 ck1 (fun _ => rfl) (Nat.le_of_ble_eq_true rfl) (fun u hu => by rw [List.mem_singleton] at hu; subst hu; exact ck2) (fun w6 e6 => ⟨_, fun t u hu => vals_keep t u hu, Phase_cons ?_⟩)
  have hb6 : (w6.setRow b #[kv', lv]).heap[b]? = _ := setRow_heap w6 b _ _ _ _ (e6.block hb4)
  have rc7 := (rc4.ext e6).setRow (e6.block hb4) ⟨by decide, by decide, by decide⟩ #[kv', lv]
  obtain ⟨w7, hw7⟩ : ∃ w7, w7 = w6.setRow b #[kv', lv] := ⟨_, rfl⟩
  have hF7 : Fr (onw b kv lv) w11 w7 := hw7 ▸ ((hF4.trans (Fr.of e6)).setRow (.inl rfl) _)
  have r17 : Own 0 tK 1 w7 kv' _ _ := hw7 ▸ Own.setRow (r14.ext e6) _ (Own.apart (r14.ext e6) (e6.block hb4) (by decide))
  have s17 : Own 0 tC 4 w7 lv' _ _ := hw7 ▸ Own.setRow (hol.ext e6) _ (Own.apart (hol.ext e6) (e6.block hb4) (by decide))
  rw [show (#[kv, lv].toList.take 0 ++ [kv'] ++ #[kv, lv].toList.drop (0 + [kv'].length)).toArray = #[kv', lv] from rfl]
  rw [← hw7] at hb6 rc7 ⊢
  clear hw7
  repeat' (first|(refine oLA ?_;first|refine wBk ?_|(refine oNc ?_; refine LA_nilCheck rfl rfl ?_)|(refine oF 0 ?_; refine LA_fieldAddr (a' := ⟨b, 0, none⟩) rfl rfl (fun _ => rfl) ?_)|(refine oF 1 ?_; refine LA_fieldAddr (a' := ⟨b, 1, none⟩) rfl rfl (fun _ => rfl) ?_)|(refine oLt 52 ?_; refine LA_loadB (c := kv) rfl (fun _ => rfl) rfl hb6 rfl ?_)|(refine oLt 53 ?_; refine LA_loadB (c := lv) rfl (fun _ => rfl) rfl hb6 rfl ?_)|refine wOp ?_|(refine wCm ?_ ?_<;>intro hc)|(refine wNl hK ?_;clear hK K))|refine wG ?_|(refine wCR ?_;intro K hK)|refine wPh ?_|fail)
  refine MX_store (news := [lv']) rfl rfl rfl hb6 cl1 (fun _ => rfl) (Nat.le_of_ble_eq_true rfl) (fun u hu => by rw [List.mem_singleton] at hu; subst hu; exact cl2) (fun w8 e8 => ⟨_, fun t u hu => vals_keep t u hu, Phase_nil ?_⟩)
  have hb8 : (w8.setRow b #[kv', lv']).heap[b]? = _ := setRow_heap w8 b _ _ _ _ (e8.block hb6)
  have rc9 := (rc7.ext e8).setRow (e8.block hb6) ⟨by decide, by decide, by decide⟩ #[kv', lv']
  obtain ⟨w9, hw9⟩ : ∃ w9, w9 = w8.setRow b #[kv', lv'] := ⟨_, rfl⟩
  have hF9 : Fr (onw b kv lv) w11 w9 := hw9 ▸ ((hF7.trans (Fr.of e8)).setRow (.inl rfl) _)
  have r19 : Own 0 tK 1 w9 kv' _ _ := hw9 ▸ Own.setRow (r17.ext e8) _ (Own.apart (r17.ext e8) (e8.block hb6) (by decide))
  have s19 : Own 0 tC 4 w9 lv' _ _ := hw9 ▸ Own.setRow (s17.ext e8) _ (Own.apart (s17.ext e8) (e8.block hb6) (by decide))
  rw [show (#[kv', lv].toList.take 1 ++ [lv'] ++ #[kv', lv].toList.drop (1 + [lv'].length)).toArray = #[kv', lv'] from rfl]
  rw [← hw9] at hb8 rc9 ⊢
  clear hw9
  have hkk9 : OwnI 0 tK .u16 w9 kv' (keysL p ++ [(k : Int)]) := by unfold OwnI; rw [List.map_append, List.length_append, List.length_singleton]; exact r19
  have hmut : Mut A w11 b kv lv _ w9 := hS11.app hk hlast hq1 hq0 q1 q3 (rc9.mono fun j _ ha => ⟨ha.1, ha.2.2⟩) hF9 hb8 hkk9 s19 (hl.le e1.size) (hll.le (by have := x23.size; omega))
  repeat' (first|(refine oLA ?_;first|refine wBk ?_|(refine oNc ?_; refine LA_nilCheck rfl rfl ?_)|(refine oF 0 ?_; refine LA_fieldAddr (a' := ⟨b, 0, none⟩) rfl rfl (fun _ => rfl) ?_)|(refine oF 1 ?_; refine LA_fieldAddr (a' := ⟨b, 1, none⟩) rfl rfl (fun _ => rfl) ?_)|(refine oLt 52 ?_; refine LA_loadB (c := kv) rfl (fun _ => rfl) rfl hb8 rfl ?_)|(refine oLt 53 ?_; refine LA_loadB (c := lv) rfl (fun _ => rfl) rfl hb8 rfl ?_)|refine wOp ?_|(refine wCm ?_ ?_<;>intro hc)|(refine wNl hK ?_;clear hK K))|refine wG ?_|(refine wCR ?_;intro K hK)|refine wPh ?_|fail)
  all_goals skip
  exact PX_end0 rfl (fun w5 e5 => ⟨rfl, (hmut.from e11).ext e5⟩) (.inl rfl)
end Go.Proofs.YtfcioiobhpcngaaGreatDoor
end
