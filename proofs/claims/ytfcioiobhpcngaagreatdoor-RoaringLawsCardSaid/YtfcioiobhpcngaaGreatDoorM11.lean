import Derived.Laws.StructEq
import Derived.Test.YtfcioiobhpcngaaGreatDoorM6
import Derived.Test.YtfcioiobhpcngaaGreatDoorM10
section
set_option linter.unusedSimpArgs false
set_option linter.unusedVariables false
set_option maxRecDepth 3000
namespace Go.Proofs.YtfcioiobhpcngaaGreatDoor
open Go.LA Go.ArrP Go.RowKit
theorem ror1_c (x y : Bool) (w : World) : Fc Tryz.prog 139 #[.bool x, .bool y] w (Ret w (.val (.bool (x || y)))) := by
  cases x <;> cases y
  all_goals
    refine Fc.of (args := [_, _]) Tryz.func139 rfl rfl Tryz.ntmps139 (Nat.le_of_ble_eq_true rfl) ?_
    repeat' (first|(refine oLA ?_;first|refine LA_pass rfl ?_|refine wOp ?_|(refine wCm ?_ ?_<;>intro hc)|(refine wNl hK ?_;clear hK K))|refine wG ?_|(refine wCR ?_;intro K hK)|fail)
    exact PX_retE rfl rfl (Ext.refl _) rfl
theorem rand1_c (x y : Bool) (w : World) : Fc Tryz.prog 169 #[.bool x, .bool y] w (Ret w (.val (.bool (x && y)))) := by
  cases x <;> cases y
  all_goals
    refine Fc.of (args := [_, _]) Tryz.func169 rfl rfl Tryz.ntmps169 (Nat.le_of_ble_eq_true rfl) ?_
    repeat' (first|(refine oLA ?_;first|refine LA_pass rfl ?_|refine wOp ?_|(refine wCm ?_ ?_<;>intro hc)|(refine wNl hK ?_;clear hK K))|refine wG ?_|(refine wCR ?_;intro K hK)|fail)
    exact PX_retE rfl rfl (Ext.refl _) rfl
theorem rnot1_c (x y : Bool) (w : World) : Fc Tryz.prog 154 #[.bool x, .bool y] w (Ret w (.val (.bool (x && !y)))) := by
  cases x <;> cases y
  all_goals
    refine Fc.of (args := [_, _]) Tryz.func154 rfl rfl Tryz.ntmps154 (Nat.le_of_ble_eq_true rfl) ?_
    repeat' (first|(refine oLA ?_;first|refine LA_pass rfl ?_|refine wOp ?_|(refine wCm ?_ ?_<;>intro hc)|(refine wNl hK ?_;clear hK K))|refine wG ?_|(refine wCR ?_;intro K hK)|fail)
    exact PX_retE rfl rfl (Ext.refl _) rfl
theorem a9A (x y : Bool) (w : World) : Fc Tryz.prog 172 #[.bool x, .bool y] w (Ret w (.val (.bool (!(x == y))))) := by
  cases x <;> cases y
  all_goals
    refine Fc.of (args := [_, _]) Tryz.func172 rfl rfl Tryz.ntmps172 (Nat.le_of_ble_eq_true rfl) ?_
    repeat' (first|(refine oLA ?_;first|refine LA_pass rfl ?_|refine wOp ?_|(refine wCm ?_ ?_<;>intro hc)|(refine wNl hK ?_;clear hK K))|refine wG ?_|(refine wCR ?_;intro K hK)|fail)
    exact PX_retE rfl rfl (Ext.refl _) rfl
theorem rflip1_c (x y : Bool) (w : World) : Fc Tryz.prog 140 #[.bool x, .bool y] w (Ret w (.val (.bool (!(x == y))))) := by
  cases x <;> cases y
  all_goals
    refine Fc.of (args := [_, _]) Tryz.func140 rfl rfl Tryz.ntmps140 (Nat.le_of_ble_eq_true rfl) ?_
    repeat' (first|(refine oLA ?_;first|refine LA_pass rfl ?_|refine wOp ?_|(refine wCm ?_ ?_<;>intro hc)|(refine wNl hK ?_;clear hK K))|refine wG ?_|(refine wCR ?_;intro K hK)|fail)
    exact PX_retE rfl rfl (Ext.refl _) rfl
theorem ret_baseC {w : World} {base base' e s n : Nat} {cs : List Value} (hb : base' ≤ base) (en : Ending) (w' : World) (h : Ret w (.pred (ownC base e s n cs)) en w') : Ret w (.pred (ownC base' e s n cs)) en w' := by
  obtain ⟨v, h1, h2, h3⟩ := h
  exact ⟨v, h1, h2, Own.base h3 hb⟩
theorem runsL_len (p : Nat → Bool) : (runsL p).length ≤ 65536 := by
  unfold runsL; rw [many_opn]; exact cnt_le _ _
theorem row_of (w : World) (v : Value) (p : Nat → Bool) (hp : p 65536 = false) (h : SlR w v (runsL p)) : Fc Tryz.prog 138 #[v] w (Ret w (.pred (ownI w.heap.size 3 .i64 (listS (chg p) 65537)))) := by
  have := row_c w v (runsL p) h (runs_u16 p) (by have := runsL_len p; omega)
  rwa [row_runs hp] at this
section
variable (w : World) (va vb : Value) (p q : Nat → Bool) (hp : p 65536 = false) (hq : q 65536 = false) (ha : SlR w va (runsL p)) (hb : SlR w vb (runsL q))
include hp hq ha hb
theorem rand_c : Fc Tryz.prog 118 #[va, vb] w (Ret w (.pred (ownR w.heap.size 96 (runsL (two (fun x y => x && y) p q))))) := by
  refine Fc.of (args := [_, _]) Tryz.func118 rfl rfl Tryz.ntmps118 (Nat.le_of_ble_eq_true rfl) ?_
  repeat' (first|(refine oLA ?_;first|refine LA_pass rfl ?_|(refine oD 6 ?_; refine oC 138 ?_; refine LA_call1 (f := 138) rfl rfl rfl  (.pred (ownI w.heap.size 3 .i64 (listS (chg p) 65537))) (by intro u1 w e hu1; (try obtain rfl : u1 = _ := hu1); exact (row_of _ _ p hp (ha.ext e)).mono (ret_base e.size)) ?_)|(refine oD 8 ?_; refine oC 138 ?_; refine LA_call1 (f := 138) rfl rfl rfl  (.pred (ownI w.heap.size 3 .i64 (listS (chg q) 65537))) (by intro u1 w e hu1; (try obtain rfl : u1 = _ := hu1); exact (row_of _ _ q hq (hb.ext e)).mono (ret_base e.size)) ?_)|(refine oC 137 ?_; refine LA_call3 (f := 137) rfl rfl rfl rfl rfl  (.pred (ownR w.heap.size 96 (runsL (two (fun x y => x && y) p q)))) (by intro u1 u2 u3 w e hu1 hu2 hu3; (try obtain rfl : u1 = _ := hu1); (try obtain rfl : u2 = _ := hu2); (try obtain rfl : u3 = _ := hu3); exact (edges_c (fun x y => x && y) _ rand1_c rfl _ _ _ p q hp hq (OwnI.slI hu1) (OwnI.slI hu2)).mono (ret_baseR e.size rfl)) ?_)|refine wOp ?_|(refine wCm ?_ ?_<;>intro hc)|(refine wNl hK ?_;clear hK K))|refine wG ?_|(refine wCR ?_;intro K hK)|fail)
  exact PX_retP rfl rfl (Ext.refl _) (fun _ _ _ h => h)
theorem ror_c : Fc Tryz.prog 92 #[va, vb] w (Ret w (.pred (ownR w.heap.size 96 (runsL (two (fun x y => x || y) p q))))) := by
  refine Fc.of (args := [_, _]) Tryz.func92 rfl rfl Tryz.ntmps92 (Nat.le_of_ble_eq_true rfl) ?_
  repeat' (first|(refine oLA ?_;first|refine LA_pass rfl ?_|(refine oD 6 ?_; refine oC 138 ?_; refine LA_call1 (f := 138) rfl rfl rfl  (.pred (ownI w.heap.size 3 .i64 (listS (chg p) 65537))) (by intro u1 w e hu1; (try obtain rfl : u1 = _ := hu1); exact (row_of _ _ p hp (ha.ext e)).mono (ret_base e.size)) ?_)|(refine oD 8 ?_; refine oC 138 ?_; refine LA_call1 (f := 138) rfl rfl rfl  (.pred (ownI w.heap.size 3 .i64 (listS (chg q) 65537))) (by intro u1 w e hu1; (try obtain rfl : u1 = _ := hu1); exact (row_of _ _ q hq (hb.ext e)).mono (ret_base e.size)) ?_)|(refine oC 137 ?_; refine LA_call3 (f := 137) rfl rfl rfl rfl rfl  (.pred (ownR w.heap.size 96 (runsL (two (fun x y => x || y) p q)))) (by intro u1 u2 u3 w e hu1 hu2 hu3; (try obtain rfl : u1 = _ := hu1); (try obtain rfl : u2 = _ := hu2); (try obtain rfl : u3 = _ := hu3); exact (edges_c (fun x y => x || y) _ ror1_c rfl _ _ _ p q hp hq (OwnI.slI hu1) (OwnI.slI hu2)).mono (ret_baseR e.size rfl)) ?_)|refine wOp ?_|(refine wCm ?_ ?_<;>intro hc)|(refine wNl hK ?_;clear hK K))|refine wG ?_|(refine wCR ?_;intro K hK)|fail)
  exact PX_retP rfl rfl (Ext.refl _) (fun _ _ _ h => h)
theorem rnot_c : Fc Tryz.prog 111 #[va, vb] w (Ret w (.pred (ownR w.heap.size 96 (runsL (two (fun x y => x && !y) p q))))) := by
  refine Fc.of (args := [_, _]) Tryz.func111 rfl rfl Tryz.ntmps111 (Nat.le_of_ble_eq_true rfl) ?_
  repeat' (first|(refine oLA ?_;first|refine LA_pass rfl ?_|(refine oD 6 ?_; refine oC 138 ?_; refine LA_call1 (f := 138) rfl rfl rfl  (.pred (ownI w.heap.size 3 .i64 (listS (chg p) 65537))) (by intro u1 w e hu1; (try obtain rfl : u1 = _ := hu1); exact (row_of _ _ p hp (ha.ext e)).mono (ret_base e.size)) ?_)|(refine oD 8 ?_; refine oC 138 ?_; refine LA_call1 (f := 138) rfl rfl rfl  (.pred (ownI w.heap.size 3 .i64 (listS (chg q) 65537))) (by intro u1 w e hu1; (try obtain rfl : u1 = _ := hu1); exact (row_of _ _ q hq (hb.ext e)).mono (ret_base e.size)) ?_)|(refine oC 137 ?_; refine LA_call3 (f := 137) rfl rfl rfl rfl rfl  (.pred (ownR w.heap.size 96 (runsL (two (fun x y => x && !y) p q)))) (by intro u1 u2 u3 w e hu1 hu2 hu3; (try obtain rfl : u1 = _ := hu1); (try obtain rfl : u2 = _ := hu2); (try obtain rfl : u3 = _ := hu3); exact (edges_c (fun x y => x && !y) _ rnot1_c rfl _ _ _ p q hp hq (OwnI.slI hu1) (OwnI.slI hu2)).mono (ret_baseR e.size rfl)) ?_)|refine wOp ?_|(refine wCm ?_ ?_<;>intro hc)|(refine wNl hK ?_;clear hK K))|refine wG ?_|(refine wCR ?_;intro K hK)|fail)
  exact PX_retP rfl rfl (Ext.refl _) (fun _ _ _ h => h)
theorem aiA : Fc Tryz.prog 121 #[va, vb] w (Ret w (.pred (ownR w.heap.size 96 (runsL (two (fun x y => !(x == y)) p q))))) := by
  refine Fc.of (args := [_, _]) Tryz.func121 rfl rfl Tryz.ntmps121 (Nat.le_of_ble_eq_true rfl) ?_
  repeat' (first|(refine oLA ?_;first|refine LA_pass rfl ?_|(refine oD 6 ?_; refine oC 138 ?_; refine LA_call1 (f := 138) rfl rfl rfl  (.pred (ownI w.heap.size 3 .i64 (listS (chg p) 65537))) (by intro u1 w e hu1; (try obtain rfl : u1 = _ := hu1); exact (row_of _ _ p hp (ha.ext e)).mono (ret_base e.size)) ?_)|(refine oD 8 ?_; refine oC 138 ?_; refine LA_call1 (f := 138) rfl rfl rfl  (.pred (ownI w.heap.size 3 .i64 (listS (chg q) 65537))) (by intro u1 w e hu1; (try obtain rfl : u1 = _ := hu1); exact (row_of _ _ q hq (hb.ext e)).mono (ret_base e.size)) ?_)|(refine oC 137 ?_; refine LA_call3 (f := 137) rfl rfl rfl rfl rfl  (.pred (ownR w.heap.size 96 (runsL (two (fun x y => !(x == y)) p q)))) (by intro u1 u2 u3 w e hu1 hu2 hu3; (try obtain rfl : u1 = _ := hu1); (try obtain rfl : u2 = _ := hu2); (try obtain rfl : u3 = _ := hu3); exact (edges_c (fun x y => !(x == y)) _ a9A rfl _ _ _ p q hp hq (OwnI.slI hu1) (OwnI.slI hu2)).mono (ret_baseR e.size rfl)) ?_)|refine wOp ?_|(refine wCm ?_ ?_<;>intro hc)|(refine wNl hK ?_;clear hK K))|refine wG ?_|(refine wCR ?_;intro K hK)|fail)
  exact PX_retP rfl rfl (Ext.refl _) (fun _ _ _ h => h)
end
def spanM (lo hi : Int) (i : Nat) : Bool := decide (lo ≤ i) && decide ((i : Int) < hi) && decide (i < 65536)
def fXor' (x y : Bool) : Bool := !(x == y)
theorem listS_nil (P : Nat → Bool) {a : Nat} : ∀ b, a ≤ b → (∀ i, a ≤ i → i < b → P i = false) → listS P b = listS P a
  | 0, h, _ => by obtain rfl : a = 0 := by omega
                  rfl
  | b + 1, h, hf => by
    rcases Nat.lt_or_ge b a with h1 | h1
    · obtain rfl : a = b + 1 := by omega
      rfl
    · rw [listS, listS_nil P b h1 (fun i g1 g2 => hf i g1 (by omega)), hf b h1 (by omega)]; simp
theorem span_row (L H : Nat) (h1 : L < H) (h2 : H ≤ 65536) : listS (chg (spanM L H)) 65537 = [(L : Int), (H : Int)] := by
  have hb : ∀ i, bel (spanM L H) i = (decide (L < i) && decide (i ≤ H)) := fun i => by
    cases i with
    | zero => rfl
    | succ i =>
      show spanM L H i = _
      unfold spanM
      rw [Bool.eq_iff_iff]; simp; omega
  have hc : ∀ i, chg (spanM L H) i = (decide (i = L) || decide (i = H)) := fun i => by
    unfold chg
    rw [hb]
    unfold spanM
    by_cases e1 : i = L
    · subst e1
      rw [decide_eq_true (by omega : ((i : Nat) : Int) ≤ i), decide_eq_true (by omega : ((i : Nat) : Int) < (H : Int)), decide_eq_true (by omega : i < 65536), decide_eq_false (by omega : ¬ i < i)]; simp
    · by_cases e2 : i = H
      · subst e2
        rw [decide_eq_false (by omega : ¬ ((i : Nat) : Int) < (i : Int)), decide_eq_true (by omega : L < i)]; simp
      · rw [decide_eq_false e1, decide_eq_false e2, show decide ((L : Int) ≤ i) = decide (L < i) by rw [decide_eq_decide]; omega, show decide ((i : Int) < (H : Int)) = decide (i ≤ H) by rw [decide_eq_decide]; omega]
        by_cases e3 : i ≤ H
        · rw [decide_eq_true (by omega : i < 65536)]; simp
        · rw [decide_eq_false e3]; simp
  rw [listS_nil _ (a := H + 1) 65537 (by omega) (fun i g1 _ => by rw [hc, decide_eq_false (by omega), decide_eq_false (by omega)]; rfl), listS, hc, decide_eq_true (rfl : H = H), Bool.or_true, if_pos rfl]
  rw [listS_nil _ (a := L + 1) H (by omega) (fun i g1 g2 => by rw [hc, decide_eq_false (by omega), decide_eq_false (by omega)]; rfl), listS, hc, decide_eq_true (rfl : L = L), Bool.true_or, if_pos rfl]
  rw [listS_nil _ (a := 0) L (by omega) (fun i _ g2 => by rw [hc, decide_eq_false (by omega), decide_eq_false (by omega)]; rfl)]
  rfl
theorem span_cut (lo hi : Int) : spanM lo hi 65536 = false := by simp [spanM]
theorem span_min (lo hi : Int) : ∀ i, spanM lo hi i = spanM (max lo 0) (min hi 65536) i := fun i => by
  unfold spanM
  rw [Bool.eq_iff_iff]; simp; omega
theorem el_run : El Tryz.prog 63 96 (runV 0 0) 2 4 := ⟨rfl, rfl, rfl, by decide⟩
theorem clone_run (w : World) (v : Value) (n : Nat) (cs : List Value) (h : SlC w v n 2 cs) (h1 : ∀ u ∈ cs, u.oneCell' = true) (hb : n * 4 ≤ 140737488355328) : Fc Tryz.prog 73 #[v] w (Ret w (.pred (ownC w.heap.size 96 2 n cs))) := by
  obtain ⟨h0, a, cap, rfl, hc, hm, hn, hcs⟩ := id h
  have hlen := h.len
  cases a with
  | none =>
    obtain rfl := hn rfl
    obtain rfl : n = 0 := by omega
    obtain rfl : cs = [] := List.eq_nil_of_length_eq_zero (by omega)
    refine Fc.of (args := [_]) Tryz.func73 rfl rfl Tryz.ntmps73 (Nat.le_of_ble_eq_true rfl) ?_
    repeat' (first|(refine oLA ?_;first|refine LA_pass rfl ?_|refine LA_binV (c := .bool true) rfl rfl rfl (fun _ => rfl) ?_|refine wOp ?_|(refine wCm ?_ ?_<;>intro hc)|(refine wNl hK ?_;clear hK K))|refine wG ?_|(refine wCR ?_;intro K hK)|(refine oPX ?_;first|exact PX_retP rfl rfl (Ext.refl _) (fun u w2 e2 hu => by obtain rfl : u = _ := hu; exact Own.nil))|fail)
  | some a =>
    refine Fc.of (args := [_]) Tryz.func73 rfl rfl Tryz.ntmps73 (Nat.le_of_ble_eq_true rfl) ?_
    repeat' (first|(refine oLA ?_;first|refine LA_pass rfl ?_|refine LA_binV (c := .bool false) rfl rfl rfl (fun _ => rfl) ?_|refine LA_lit0 96 (s := 2) rfl (fun _ => by kernel_rfl) ?_|(refine LA_stop (hK _ _ (LX_pick 5 rfl (fun v5 w5 e5 h5 => ?_))); clear hK K; have h6 := h.ext e5; have ho : Own w.heap.size _ _ w5 v5 0 [] := h5; refine LX_la (by kernel_rfl) (fun K hK => ?_))|(refine LA_stop (hK _ _ (LX_append rfl (by decide) el_run rfl ho rfl (HasC.val h6) h1 (by rw [Nat.zero_add]; unfold maxLen; omega) (by rw [Nat.zero_add]; exact hb) e5.size (fun v' w2 w3 he2 ho3 hg3 => ?_))); clear hK K; dsimp only [vals]; refine LX_la (by kernel_rfl) (fun K hK => ?_))|refine wOp ?_|(refine wCm ?_ ?_<;>intro hc)|(refine wNl hK ?_;clear hK K))|refine wG ?_|(refine wCR ?_;intro K hK)|fail)
    exact PX_retP rfl rfl ((e5.trans he2).grown hg3 (fun q hq => (Own.lt ho q hq).1)) (fun u w4 e4 hu => by
      obtain rfl : u = _ := hu
      have h9 : Own w.heap.size 96 2 w3 u n cs := by simpa using ho3
      exact h9.ext e4)
set_option maxHeartbeats 2000000 in
theorem rflipR_c (w : World) (v : Value) (p : Nat → Bool) (lo hi : Int) (hp : p 65536 = false) (h : SlR w v (runsL p)) (hlo : -9223372036854775808 ≤ lo ∧ lo < 9223372036854775808) (hhi : -9223372036854775808 ≤ hi ∧ hi < 9223372036854775808) :
    Fc Tryz.prog 94 #[v, .int .i64 lo, .int .i64 hi] w (Ret w (.pred (ownR w.heap.size 96 (runsL (two fXor' p (spanM lo hi)))))) := by
  refine Fc.of (args := [_, _, _]) Tryz.func94 rfl rfl Tryz.ntmps94 (Nat.le_of_ble_eq_true rfl) ?_
  obtain ⟨L, hL⟩ : ∃ L : Nat, max lo 0 = L := ⟨(max lo 0).toNat, by omega⟩
  obtain ⟨H, hH⟩ : ∃ H : Int, min hi 65536 = H := ⟨_, rfl⟩
  have hsp : ∀ i, spanM lo hi i = spanM L H i := fun i => by rw [span_min, hL, hH]
  have hlen := runsL_len p
  by_cases hLH : (L : Int) ≥ H
  · have e : runsL (two fXor' p (spanM lo hi)) = runsL p := runsL_congr fun i _ => by
      have : spanM lo hi i = false := by
        rw [hsp]; unfold spanM
        by_cases h1 : (L : Int) ≤ i
        · rw [decide_eq_false (by omega : ¬ (i : Int) < H)]; simp
        · rw [decide_eq_false h1]; simp
      unfold two fXor'; rw [this]; cases p i <;> rfl
    rw [e]
    repeat' (first|(refine oLA ?_;first|refine LA_pass rfl ?_|(refine LA_max2 rfl rfl rfl ?_; rw [hL])|(refine LA_min2 rfl rfl rfl ?_; rw [hH])|refine wOp ?_|(refine wCm ?_ ?_<;>intro hc)|(refine oCv ?_;first|(refine oC 73 ?_; refine LA_call1 (f := 73) rfl rfl rfl  (.pred (ownC w.heap.size 96 2 (runsL p).length (cellsR (runsL p)))) (by intro u1 w e hu1; (try obtain rfl : u1 = _ := hu1); exact (clone_run _ _ _ _ (h.ext e) (cellsR_one _) (by omega)).mono (ret_baseC e.size)) ?_))|(refine wNl hK ?_;clear hK K))|refine wG ?_|(refine wCR ?_;intro K hK)|fail)
    exact PX_retP rfl rfl (Ext.refl _) (fun _ _ _ h => h)
  · obtain ⟨H', rfl⟩ := Int.eq_ofNat_of_zero_le (by omega : 0 ≤ H)
    have er := span_row L H' (by omega) (by omega)
    have hsc : spanM L H' 65536 = false := span_cut _ _
    have e : runsL (two fXor' p (spanM lo hi)) = runsL (two fXor' p (spanM L H')) := runsL_congr fun i _ => by unfold two; rw [hsp]
    rw [e]
    repeat' (first|(refine oLA ?_;first|refine LA_pass rfl ?_|(refine LA_max2 rfl rfl rfl ?_; rw [hL])|(refine LA_min2 rfl rfl rfl ?_; rw [hH])|refine LA_two rfl int_el rfl rfl rfl rfl ?_|(refine oC 137 ?_; refine LA_call3 (f := 137) rfl rfl rfl rfl rfl  (.pred (ownR w.heap.size 96 (runsL (two fXor' p (spanM L H'))))) (by intro u1 u2 u3 w e hu1 hu2 hu3; (try obtain rfl : u1 = _ := hu1); (try obtain rfl : u2 = _ := hu2); (try obtain rfl : u3 = _ := hu3); exact (edges_c fXor' _ rflip1_c rfl _ _ _ p (spanM L H') hp hsc (OwnI.slI hu1) (by rw [er]; exact Own.slC hu2)).mono (ret_baseR e.size rfl)) ?_)|refine wOp ?_|(refine wCm ?_ ?_<;>intro hc)|(refine oCv ?_;first|(refine oC 138 ?_; refine LA_call1 (f := 138) rfl rfl rfl  (.pred (ownI w.heap.size 3 .i64 (listS (chg p) 65537))) (by intro u1 w e hu1; (try obtain rfl : u1 = _ := hu1); exact (row_of _ _ p hp (h.ext e)).mono (ret_base e.size)) ?_))|(refine wNl hK ?_;clear hK K))|refine wG ?_|(refine wCR ?_;intro K hK)|fail)
    exact PX_retP rfl rfl (Ext.refl _) (fun _ _ _ h => h)
theorem last_cells {a : List Rn} {f m : Int} : cellsR (a ++ [(f, m)]) = cellsR a ++ [.int .u16 f, .int .u16 m] := by rw [cellsR_app]; rfl
theorem last_at {cur : Array Value} {a : List Rn} {f m : Int} (h : cur.toList.take ((a ++ [(f, m)]).length * 2) = cellsR (a ++ [(f, m)])) : cur[a.length * 2 + 1]? = some (.int .u16 m) := by
  rw [last_cells, List.length_append] at h
  have h1 := congrArg (fun l => l[a.length * 2 + 1]?) h
  simp only [List.getElem?_take] at h1
  rw [if_pos (by simp; omega), List.getElem?_append_right (by rw [cellsR_len]; omega), cellsR_len, show a.length * 2 + 1 - a.length * 2 = 1 by omega] at h1
  rw [← Array.getElem?_toList, h1]; rfl
theorem OwnR.bump {base e b cap : Nat} {w : World} {cur : Array Value} {a : List Rn} {f m : Int} (hb : base ≤ b) (hg : w.heap[b]? = some (.cells cur e (0, 0))) (hnc : (a ++ [(f, m)]).length ≤ cap) (hm : cap ≤ maxLen) (hsz : cur.size = cap * 2) (ht : cur.toList.take ((a ++ [(f, m)]).length * 2) = cellsR (a ++ [(f, m)])) (c : Int) :
    OwnR base e (w.setRow b (cur.setIfInBounds (a.length * 2 + 1) (.int .u16 c))) (.slice (some ⟨b, 0, none⟩) (a ++ [(f, m)]).length cap) (a ++ [(f, c)]) := by
  have hl : (a ++ [(f, c)]).length = (a ++ [(f, m)]).length := by simp
  unfold OwnR
  rw [hl]
  refine ⟨by rw [cellsR_len, hl], .inr ⟨b, cap, cur.setIfInBounds (a.length * 2 + 1) (.int .u16 c), rfl, hb, setRow_heap w b cur _ e _ hg, hnc, hm, by simpa using hsz, ?_⟩⟩
  rw [Array.toList_setIfInBounds, List.take_set, ht, last_cells, last_cells, List.set_append_right _ _ (by rw [cellsR_len]; omega), cellsR_len, show a.length * 2 + 1 - a.length * 2 = 1 by omega]
  rfl
def Tk (xs : List Int) : Nat → Nat
  | 0 => 0
  | k + 1 => (xs.getD k 0).toNat + 1
theorem inc_gap {xs : List Int} (h : Inc xs) (hl : Low xs) {k : Nat} (hk : k < xs.length) : Tk xs k ≤ (xs.getD k 0).toNat ∧ (∀ z, Tk xs k ≤ z → z < (xs.getD k 0).toNat → memb xs z = false) ∧ memb xs (xs.getD k 0).toNat = true := by
  have hb : ∀ j, j < xs.length → 0 ≤ xs.getD j 0 ∧ xs.getD j 0 < 65536 := fun j hj => by rw [getD_eq hj]; exact hl _ (List.getElem_mem hj)
  have hlt : ∀ i j, i < j → j < xs.length → xs.getD i 0 < xs.getD j 0 := fun i j hij hj => by
    rw [getD_eq hj, getD_eq (by omega)]
    exact List.pairwise_iff_getElem.1 h i j (by omega) hj hij
  refine ⟨?_, fun z h1 h2 => ?_, ?_⟩
  · cases k with
    | zero => exact Nat.zero_le _
    | succ k => have := hlt k (k + 1) (by omega) hk; have := hb k (by omega); simp only [Tk]; omega
  · unfold memb
    refine decide_eq_false fun hm => ?_
    obtain ⟨j, hj, he⟩ := List.getElem_of_mem hm
    have he' : xs.getD j 0 = z := by rw [getD_eq hj]; exact he
    rcases Nat.lt_or_ge j k with h3 | h3
    · obtain ⟨k', rfl⟩ : ∃ k', k = k' + 1 := ⟨k - 1, by omega⟩
      simp only [Tk] at h1
      rcases Nat.lt_or_ge j k' with h4 | h4
      · have := hlt j k' h4 (by omega); have := hb k' (by omega); omega
      · obtain rfl : j = k' := by omega
        omega
    · rcases Nat.lt_or_ge k j with h4 | h4
      · have := hlt k j h4 hj; have := hb k hk; omega
      · obtain rfl : j = k := by omega
        omega
  · unfold memb
    have := hb k hk
    rw [show (((xs.getD k 0).toNat : Nat) : Int) = xs.getD k 0 by omega]
    exact decide_eq_true (by rw [getD_eq hk]; exact List.getElem_mem hk)
set_option maxHeartbeats 4000000 in
theorem rofR_c (w : World) (v : Value) (xs : List Int) (h : SlI .u16 w v xs) (hi : Inc xs) (hl : Low xs) : Fc Tryz.prog 74 #[v] w (Ret w (.pred (ownR w.heap.size 96 (runsL (memb xs))))) := by
  have hlen := h.len
  refine Fc.of (args := [_]) Tryz.func74 rfl rfl Tryz.ntmps74 (Nat.le_of_ble_eq_true rfl) ?_
  repeat' (first|(refine oLA ?_;first|refine LA_pass rfl ?_|refine wOp ?_|(refine wCm ?_ ?_<;>intro hc)|(refine wNl hK ?_;clear hK K))|refine wG ?_|(refine wCR ?_;intro K hK)|fail)
  refine CX_loopV (ι := Nat × Value) (fun i => [(0, .val v), (3, .val i.2), (6, .val v), (7, .val (.int .i64 xs.length)), (8, .val (.int .i64 i.1))]) (fun i w' => Ext w w' ∧ i.1 ≤ xs.length ∧ OwnR w.heap.size 96 w' i.2 (opn (memb xs) (Tk xs i.1))) (fun i => xs.length - i.1)
    (fun w2 e2 => ⟨(0, .slice none 0 0), ⟨e2, Nat.zero_le _, OwnR.nil⟩, (by repeat' (first | exact Sub.nil | refine Sub.val rfl (by first | with_reducible rfl | (congr 1; omega)) ?_ | refine Sub.same rfl ?_))⟩) ?_
  rintro ⟨k, so⟩ w1 ⟨he, hk, ho⟩
  dsimp only at hk ho ⊢
  have h1 := h.ext he
  by_cases hkl : k < xs.length
  · obtain ⟨g1, g2, g3⟩ := inc_gap hi hl hkl
    have hxb : 0 ≤ xs.getD k 0 ∧ xs.getD k 0 < 65536 := by rw [getD_eq hkl]; exact hl _ (List.getElem_mem hkl)
    obtain ⟨X, hX⟩ := Int.eq_ofNat_of_zero_le hxb.1
    have hXb : X < 65536 := by omega
    have hTs : Tk xs (k + 1) = X + 1 := by simp only [Tk]; rw [hX]; rfl
    rw [hX, Int.toNat_natCast] at g1 g2 g3
    have hof := opn_flat X g1 g2
    rw [← hof] at ho
    by_cases hA : 0 < k ∧ Tk xs k = X
    · obtain ⟨j, rfl⟩ : ∃ j, k = j + 1 := ⟨k - 1, by omega⟩
      have hjb : 0 ≤ xs.getD j 0 ∧ xs.getD j 0 < 65536 := by rw [getD_eq (by omega)]; exact hl _ (List.getElem_mem _)
      have hjX : xs.getD j 0 + 1 = X := by have := hA.2; simp only [Tk] at this; omega
      have hji : (((j + 1 : Nat) : Int) - 1) = (j : Int) := by omega
      obtain ⟨Y, rfl⟩ : ∃ Y, X = Y + 1 := ⟨X - 1, by omega⟩
      have hbl : bel (memb xs) (Y + 1) = true := by
        show memb xs Y = true
        have := (inc_gap hi hl (k := j) (by omega)).2.2
        rwa [show (xs.getD j 0).toNat = Y by omega] at this
      have hfl := frm_lt (memb xs) (Y + 1) hbl
      rw [opn_at hbl] at ho
      have hnew := opn_more g3 hbl
      obtain ⟨f, hf⟩ : ∃ f : Int, f = frm (memb xs) (Y + 1) := ⟨_, rfl⟩
      obtain ⟨a, ha⟩ : ∃ a, a = rnC (memb xs) (Y + 1) := ⟨_, rfl⟩
      obtain ⟨m, hm⟩ : ∃ m : Int, m = ((Y + 1 : Nat) : Int) - f - 1 := ⟨_, rfl⟩
      rw [← hf, ← ha, ← hm] at ho
      rw [← hf, ← ha, show ((Y + 1 : Nat) : Int) - f = m + 1 by omega, ← hTs] at hnew
      have hal : a.length ≤ Y + 1 := ha ▸ rnC_len _ _
      have hfb : 0 ≤ f ∧ f < Y + 1 := by omega
      obtain ⟨gb, cap, cur, rfl, hgb, hgc, hgn, hgm, hgs, hgt⟩ := ho.row (by simp)
      have hra := last_at hgt
      have hln : ((a ++ [(f, m)]).length : Int) = (a.length : Int) + 1 := by simp
      have hlN : (a ++ [(f, m)]).length = a.length + 1 := by simp
      repeat' (first|(refine oLA ?_;first|refine LA_pass rfl ?_|(refine oD 19 ?_; refine LA_subF rfl rfl rfl (by dsimp only [fits]; omega) ?_; rw [hji])|(refine oD 12 ?_; refine LA_load rfl (fun _ => rfl) rfl ?_; rw [hX])|(refine oD 27 ?_; refine LA_lenR rfl _ rfl rfl (HasR.ownV ho) ?_; rw [hln])|(refine oD 28 ?_; refine LA_subF rfl rfl rfl (by dsimp only [fits]; omega) ?_; rw [Int.add_sub_cancel])|(refine oD 29 ?_; refine LA_indexS (s := 2) rfl rfl (fun _ => rfl) rfl rfl (by omega) (by omega) ?_; rw [Int.toNat_natCast])|(refine oD 33 ?_; refine LA_indexS (s := 2) rfl rfl (fun _ => rfl) rfl rfl (by omega) (by omega) ?_; rw [Int.toNat_natCast])|(refine oF 1 ?_; refine LA_fieldAddr (a := ⟨gb, 0 + a.length * 2, none⟩) (a' := ⟨gb, a.length * 2 + 1, none⟩) rfl rfl (fun w => by rw [Nat.zero_add]; rfl) ?_)|(refine oD 31 ?_; refine LA_loadB rfl (fun _ => rfl) rfl hgc hra ?_)|(refine LA_stop (hK _ _ (LX_store1 rfl rfl rfl hgc (fun _ => rfl) (by omega) rfl rfl (fun w4 e4 => ?_))); clear hK K; dsimp only [vals]; refine LX_la (by kernel_rfl) (fun K hK => ?_))|refine wOp ?_|(refine wCm ?_ ?_<;>intro hc)|(refine wNl hK ?_;clear hK K))|refine wG ?_|(refine wCR ?_;intro K hK)|fail)
      refine PX_rndV (j + 1 + 1, _) (fun w5 e5 => ⟨((he.trans e4).setRow hgb _).trans e5, hkl, ?_⟩) (by dsimp only; omega) (by repeat' (first | exact Sub.nil | refine Sub.val rfl (by first | with_reducible rfl | (congr 1; omega)) ?_ | refine Sub.same rfl ?_))
      dsimp only
      rw [hnew]
      exact OwnR.ext (OwnR.bump hgb (e4.block hgc) hgn hgm hgs hgt (m + 1)) e5
    · have hbl : bel (memb xs) X = false := by
        cases X with
        | zero => rfl
        | succ Y =>
          show memb xs Y = false
          cases k with
          | zero => exact g2 Y (Nat.zero_le _) (by omega)
          | succ j => exact g2 Y (by have : ¬ Tk xs (j + 1) = Y + 1 := fun e => hA ⟨by omega, e⟩; omega) (by omega)
      have hnew := opn_new g3 hbl
      rw [← hTs] at hnew
      have hol : (opn (memb xs) X).length ≤ X := by rw [many_opn]; exact cnt_le _ _
      by_cases hk0 : 0 < k
      · obtain ⟨j, rfl⟩ : ∃ j, k = j + 1 := ⟨k - 1, by omega⟩
        have hjb : 0 ≤ xs.getD j 0 ∧ xs.getD j 0 < 65536 := by rw [getD_eq (by omega)]; exact hl _ (List.getElem_mem _)
        have hjX : ¬ (X : Int) = xs.getD j 0 + 1 := fun e => hA ⟨by omega, by simp only [Tk]; omega⟩
        have hjl : xs.getD j 0 + 1 ≤ X := by have := g1; simp only [Tk] at this; omega
        have hji : (((j + 1 : Nat) : Int) - 1) = (j : Int) := by omega
        repeat' (first|(refine oLA ?_;first|refine LA_pass rfl ?_|(refine oD 19 ?_; refine LA_subF rfl rfl rfl (by dsimp only [fits]; omega) ?_; rw [hji])|(refine oD 12 ?_; refine LA_load rfl (fun _ => rfl) rfl ?_; rw [hX])|refine LA_build1 (c := runV X 0) rfl rfl (fun w => run_build w _ _ _ (by kernel_rfl)) ?_|refine LA_oneS rfl run_el rfl rfl (by decide) ?_|(refine LA_stop (hK _ _ (LX_appendR rfl (by decide) run_el rfl ho rfl (by omega) (by omega) he (fun v' w' he' ho' => ?_))); clear hK K; dsimp only [vals]; refine LX_la (by kernel_rfl) (fun K hK => ?_))|refine wOp ?_|(refine wCm ?_ ?_<;>intro hc)|(refine wNl hK ?_;clear hK K))|refine wG ?_|(refine wCR ?_;intro K hK)|fail)
        exact PX_rndV (j + 1 + 1, v') (fun w5 e5 => ⟨he'.trans e5, hkl, by dsimp only; rw [hnew]; exact ho'.ext e5⟩) (by dsimp only; omega) (by repeat' (first | exact Sub.nil | refine Sub.val rfl (by first | with_reducible rfl | (congr 1; omega)) ?_ | refine Sub.same rfl ?_))
      · obtain rfl : k = 0 := by omega
        repeat' (first|(refine oLA ?_;first|refine LA_pass rfl ?_|(refine oD 12 ?_; refine LA_load rfl (fun _ => rfl) rfl ?_; rw [hX])|refine LA_build1 (c := runV X 0) rfl rfl (fun w => run_build w _ _ _ (by kernel_rfl)) ?_|refine LA_oneS rfl run_el rfl rfl (by decide) ?_|(refine LA_stop (hK _ _ (LX_appendR rfl (by decide) run_el rfl ho rfl (by omega) (by omega) he (fun v' w' he' ho' => ?_))); clear hK K; dsimp only [vals]; refine LX_la (by kernel_rfl) (fun K hK => ?_))|refine wOp ?_|(refine wCm ?_ ?_<;>intro hc)|(refine wNl hK ?_;clear hK K))|refine wG ?_|(refine wCR ?_;intro K hK)|fail)
        exact PX_rndV (0 + 1, v') (fun w5 e5 => ⟨he'.trans e5, hkl, by dsimp only; rw [hnew]; exact ho'.ext e5⟩) (by dsimp only; omega) (by repeat' (first | exact Sub.nil | refine Sub.val rfl (by first | with_reducible rfl | (congr 1; omega)) ?_ | refine Sub.same rfl ?_))
  · obtain rfl : k = xs.length := by omega
    have hend : opn (memb xs) (Tk xs xs.length) = runsL (memb xs) := by
      have hT : Tk xs xs.length ≤ 65536 := by
        cases hxl : xs.length with
        | zero => exact Nat.zero_le _
        | succ j =>
          have : 0 ≤ xs.getD j 0 ∧ xs.getD j 0 < 65536 := by rw [getD_eq (by omega)]; exact hl _ (List.getElem_mem _)
          simp only [Tk]; omega
      unfold runsL
      refine (opn_flat 65536 hT fun z h1 h2 => ?_).symm
      unfold memb
      refine decide_eq_false fun hm => ?_
      obtain ⟨j, hj, hej⟩ := List.getElem_of_mem hm
      cases hxl : xs.length with
      | zero => omega
      | succ n =>
        rw [hxl] at h1 hj
        simp only [Tk] at h1
        have e1 : xs.getD j 0 = z := by rw [getD_eq (by omega)]; exact hej
        rcases Nat.lt_or_ge j n with h4 | h4
        · have := List.pairwise_iff_getElem.1 hi j n (by omega) (by omega) h4
          rw [← getD_eq (by omega), ← getD_eq (by omega)] at this; omega
        · obtain rfl : j = n := by omega
          omega
    rw [hend] at ho
    repeat' (first|(refine oLA ?_;first|refine LA_pass rfl ?_|refine wOp ?_|(refine wCm ?_ ?_<;>intro hc)|(refine wNl hK ?_;clear hK K))|refine wG ?_|(refine wCR ?_;intro K hK)|fail)
    exact PX_retP rfl rfl he (fun u w5 e5 hu' => by obtain rfl : u = _ := hu'; exact ho.ext e5)
theorem rngL_nil (f : Int) : rngL f (-1) = [] := by simp [rngL]
theorem grown_block {w w' : World} {b : Nat} {row : Option Nat} {o : Obj} (h : w.grownBy w' row) (hb : w.heap[b]? = some o) (hne : row ≠ some b) : w'.heap[b]? = some o := by
  rw [h.block b (Array.getElem?_eq_some_iff.1 hb).1 (fun e => hne e.symm)]; exact hb
set_option maxHeartbeats 4000000 in
theorem rlistR_c (w : World) (v : Value) (rs : List Rn) (h : SlR w v rs) (hu : U16 rs) (hr : Right rs) (hn : rs.length ≤ 70000) : Fc Tryz.prog 115 #[v] w (Ret w (.pred (ownI w.heap.size 72 .u16 (listR rs)))) := by
  have hlen := h.len
  refine Fc.of (args := [_]) Tryz.func115 rfl rfl Tryz.ntmps115 (Nat.le_of_ble_eq_true rfl) ?_
  repeat' (first|(refine oLA ?_;first|refine LA_pass rfl ?_|(refine oI ?_; refine LA_indexR rfl _ rfl (fun _ => rfl) rfl (by first | exact HasR.val (by assumption) | exact HasR.own | exact HasR.ownV (by assumption)) rfl (by omega) ?_)|(refine oLt 96 ?_; refine LA_loadC rfl (fun _ => rfl) (fun _ => rfl) rfl ?_)|(show LA _ _ _ _ (⟨some 99, .alloc _, _, _, _, _⟩ :: _) _; refine LA_stop (hK _ _ (LX_var rfl rfl (by decide) (fun _ => rfl) (fun _ => rfl) (fun _ => rfl) rfl (by intro u hu; simp [Value.cells] at hu; rcases hu with rfl | rfl <;> rfl) (fun bx wx ex hbx hbc => ?_))); clear hK K; refine LX_la (by kernel_rfl) (fun K hK => ?_))|(refine oF 0 ?_; refine LA_fieldAddr (a := ⟨bx, 0, none⟩) (a' := ⟨bx, 0, none⟩) rfl rfl (fun _ => rfl) ?_)|(refine oF 1 ?_; refine LA_fieldAddr (a := ⟨bx, 0, none⟩) (a' := ⟨bx, 1, none⟩) rfl rfl (fun _ => rfl) ?_)|(refine oLt 96 ?_; refine LA_loadBN rfl (fun _ => rfl) (fun _ => rfl) rfl hbc ?_)|(refine oLt 72 ?_; refine LA_loadB rfl (fun _ => rfl) rfl hbc rfl ?_)|(refine oLen ?_; refine LA_lenR rfl _ rfl rfl (by first | exact HasR.val (by assumption) | exact HasR.own | exact HasR.ownV (by assumption)) ?_)|refine wOp ?_|(refine wCm ?_ ?_<;>intro hc)|(refine wNl hK ?_;clear hK K))|refine wG ?_|(refine wCR ?_;intro K hK)|fail)
  refine CX_loopV (ι := Nat × Value) (fun i => [(3, .val i.2), (7, .val v), (8, .val (.int .i64 rs.length)), (9, .val (.int .i64 i.1))]) (fun i w' => Ext w w' ∧ i.1 ≤ rs.length ∧ OwnI w.heap.size 72 .u16 w' i.2 (listR (rs.take i.1))) (fun i => rs.length - i.1)
    (fun w2 e2 => ⟨(0, .slice none 0 0), ⟨e2, Nat.zero_le _, OwnI.nil⟩, (by repeat' (first | exact Sub.nil | refine Sub.val rfl (by first | with_reducible rfl | (congr 1; omega)) ?_ | refine Sub.same rfl ?_))⟩) ?_
  rintro ⟨k, so⟩ w1 ⟨he, hk, ho⟩
  dsimp only at hk ho ⊢
  have h1 := h.ext he
  by_cases hkl : k < rs.length
  · obtain ⟨u1, u2, u3, u4⟩ := hu.at k
    obtain ⟨-, hr2⟩ := hr k hkl
    have hlk : ((listR (rs.take k)).length : Int) = lenR (rs.take k) := listR_len _ (fun x hx => (hu x (List.mem_of_mem_take hx)).2.2.1)
    have hb := sum_bound (fun x => x.2 + 1) 65536 (fun x h1 h2 => ⟨by omega, by omega⟩) hu k hk
    have hb : 0 ≤ lenR (rs.take k) ∧ lenR (rs.take k) ≤ 65536 * k := hb
    obtain ⟨LK, hLK⟩ : ∃ LK, LK = (listR (rs.take k)).length := ⟨_, rfl⟩
    have hLKb : LK ≤ 65536 * 70000 := by omega
    clear hlk hb
    obtain ⟨F, hF⟩ := Int.eq_ofNat_of_zero_le u1
    obtain ⟨M, hM⟩ := Int.eq_ofNat_of_zero_le u3
    rw [hF] at u2 hr2; rw [hM] at u4 hr2
    have hmin : min ((F : Int) + M + 1) 65536 = (F : Int) + M + 1 := by omega
    repeat' (first|(refine oLA ?_;first|refine LA_pass rfl ?_|(refine oD 12 ?_; refine LA_loadC rfl (fun _ => rfl) (fun _ => rfl) rfl ?_; rw [hF, hM])|(refine oI ?_; refine LA_indexR rfl _ rfl (fun _ => rfl) rfl (by first | exact HasR.val (by assumption) | exact HasR.own | exact HasR.ownV (by assumption)) rfl (by omega) ?_)|(refine oLt 96 ?_; refine LA_loadC rfl (fun _ => rfl) (fun _ => rfl) rfl ?_)|(show LA _ _ _ _ (⟨some 5, .alloc _, _, _, _, _⟩ :: _) _; refine LA_stop (hK _ _ (LX_var rfl rfl (by decide) (fun _ => rfl) (fun _ => rfl) (fun _ => rfl) rfl (by intro u hu; simp [Value.cells] at hu; rcases hu with rfl | rfl <;> rfl) (fun bx wx ex hbx hbc => ?_))); clear hK K; refine LX_la (by kernel_rfl) (fun K hK => ?_))|(refine oF 0 ?_; refine LA_fieldAddr (a := ⟨bx, 0, none⟩) (a' := ⟨bx, 0, none⟩) rfl rfl (fun _ => rfl) ?_)|(refine oF 1 ?_; refine LA_fieldAddr (a := ⟨bx, 0, none⟩) (a' := ⟨bx, 1, none⟩) rfl rfl (fun _ => rfl) ?_)|(refine oLt 96 ?_; refine LA_loadBN rfl (fun _ => rfl) (fun _ => rfl) rfl hbc ?_)|(refine oLt 72 ?_; refine LA_loadB rfl (fun _ => rfl) rfl hbc rfl ?_)|(refine oLen ?_; refine LA_lenR rfl _ rfl rfl (by first | exact HasR.val (by assumption) | exact HasR.own | exact HasR.ownV (by assumption)) ?_)|refine wOp ?_|(refine wCm ?_ ?_<;>intro hc)|(refine wNl hK ?_;clear hK K))|refine wG ?_|(refine wCR ?_;intro K hK)|fail)
    have ho5 := ho.ext ex
    have x5 := he.trans ex
    refine CX_loopV (ι := Nat × Value) (fun i => [(3, .val i.2), (5, .val (.pointer (some ⟨bx, 0, none⟩))), (6, .val (.int .i64 ((F : Int) + i.1))), (7, .val v), (8, .val (.int .i64 rs.length)), (9, .val (.int .i64 k))])
      (fun i w' => Ext w w' ∧ i.1 ≤ M + 1 ∧ OwnI w.heap.size 72 .u16 w' i.2 (listR (rs.take k) ++ rngL F ((i.1 : Int) - 1)) ∧ w'.heap[bx]? = some (.cells (runV F M).cells 96 (0, 0))) (fun i => M + 1 - i.1)
      (fun w2 e2 => ⟨(0, so), ⟨x5.trans e2, Nat.zero_le _, by dsimp only; rw [show (((0 : Nat) : Int) - 1) = -1 from rfl, rngL_nil, List.append_nil]; exact ho5.ext e2, e2.block hbc⟩, by dsimp only; rw [show (F : Int) + ((0 : Nat) : Int) = F by omega]; exact (by repeat' (first | exact Sub.nil | refine Sub.val rfl (by first | with_reducible rfl | (congr 1; omega)) ?_ | refine Sub.same rfl ?_))⟩) ?_
    rintro ⟨j, sj⟩ w6 ⟨he6, hj6, ho6, hbc6⟩
    dsimp only at hj6 ho6 hbc6 ⊢
    have hrl : (listR (rs.take k) ++ rngL F ((j : Int) - 1)).length = LK + j := by rw [List.length_append, rngL_len, ← hLK]; omega
    have hne : sj.ownBlock ≠ some bx := fun e => by
      rcases ho6.2 with ⟨e0, -⟩ | ⟨g, cap, cur, e0, -, hg, -⟩
      · rw [e0] at e; cases e
      · rw [e0] at e
        have : g = bx := by simpa [Value.ownBlock] using e
        subst this
        rw [hbc6] at hg
        simp only [Option.some.injEq, Obj.cells.injEq] at hg
        exact absurd hg.2.1 (by decide)
    by_cases hjl : j < M + 1
    · have hsucc := rngL_succ F j
      repeat' (first|(refine oLA ?_;first|refine LA_pass rfl ?_|(refine LA_min2 rfl rfl rfl ?_; rw [hmin])|(refine oLt 96 ?_; refine LA_loadBN rfl (fun _ => rfl) (fun _ => rfl) rfl hbc6 ?_)|refine LA_one rfl u16_el rfl rfl ?_|(refine LA_stop (hK _ _ (LX_append rfl (by decide) u16_el rfl ho6 rfl HasC.pred (by intro u hu9; simp at hu9; subst hu9; rfl) (by rw [hrl]; unfold maxLen; omega) (by rw [hrl]; omega) he6.size (fun v' w7 w8 e7 ho8 hg8 => ?_))); clear hK K; dsimp only [vals]; refine LX_la (by kernel_rfl) (fun K hK => ?_))|refine wOp ?_|(refine wCm ?_ ?_<;>intro hc)|(refine oCv ?_;first|(refine oC 125 ?_; refine LA_call1 (f := 125) rfl rfl rfl  (.val (.int .i64 ((F : Int) + M + 1))) (by intro u1 w e hu1; (try obtain rfl : u1 = _ := hu1); exact end_c _ F M ⟨by omega, by omega⟩ ⟨by omega, by omega⟩) ?_))|(refine wNl hK ?_;clear hK K))|refine wG ?_|(refine wCR ?_;intro K hK)|fail)
      refine PX_rndV (j + 1, v') (fun w9 e9 => ⟨((he6.trans e7).grown hg8 (fun q hq => (Own.lt ho6 q hq).1)).trans e9, by dsimp only; omega, ?_, e9.block (grown_block hg8 (e7.block hbc6) hne)⟩) (by dsimp only; omega) (by repeat' (first | exact Sub.nil | refine Sub.val rfl (by first | with_reducible rfl | (congr 1; omega)) ?_ | refine Sub.same rfl ?_))
      dsimp only
      rw [show (((j + 1 : Nat) : Int) - 1) = (j : Int) by omega, hsucc, ← List.append_assoc]
      refine OwnI.ext ?_ e9
      unfold OwnI
      rw [List.map_append, List.length_append]; exact ho8
    · obtain rfl : j = M + 1 := by omega
      repeat' (first|(refine oLA ?_;first|refine LA_pass rfl ?_|(refine LA_min2 rfl rfl rfl ?_; rw [hmin])|(refine oLt 96 ?_; refine LA_loadBN rfl (fun _ => rfl) (fun _ => rfl) rfl hbc6 ?_)|refine wOp ?_|(refine wCm ?_ ?_<;>intro hc)|(refine oCv ?_;first|(refine oC 125 ?_; refine LA_call1 (f := 125) rfl rfl rfl  (.val (.int .i64 ((F : Int) + M + 1))) (by intro u1 w e hu1; (try obtain rfl : u1 = _ := hu1); exact end_c _ F M ⟨by omega, by omega⟩ ⟨by omega, by omega⟩) ?_))|(refine wNl hK ?_;clear hK K))|refine wG ?_|(refine wCR ?_;intro K hK)|fail)
      refine PX_rndV (k + 1, sj) (fun w9 e9 => ⟨he6.trans e9, hkl, ?_⟩) (by dsimp only; omega) (by repeat' (first | exact Sub.nil | refine Sub.val rfl (by first | with_reducible rfl | (congr 1; omega)) ?_ | refine Sub.same rfl ?_))
      dsimp only
      rw [take_run hkl, listR_app, hF, hM]
      have hlr : listR [((F : Int), (M : Int))] = rngL F M := by simp [listR]
      rw [hlr]
      rw [show (((M + 1 : Nat) : Int) - 1) = (M : Int) by omega] at ho6
      exact ho6.ext e9
  · obtain rfl : k = rs.length := by omega
    rw [List.take_length] at ho
    repeat' (first|(refine oLA ?_;first|refine LA_pass rfl ?_|refine wOp ?_|(refine wCm ?_ ?_<;>intro hc)|(refine wNl hK ?_;clear hK K))|refine wG ?_|(refine wCR ?_;intro K hK)|fail)
    exact PX_retP rfl rfl he (fun u w5 e5 hu' => by obtain rfl : u = _ := hu'; exact ho.ext e5)
theorem ret_tup2R {f : FuncId} {args : Array Value} {w : World} {a b a' b' : Value} (ha : a = a') (hb : b = b') (h : Fc Tryz.prog f args w (Ret w (.tup2 (.val a) (.val b)))) : Fc Tryz.prog f args w (Ret w (.tup2 (.val a') (.val b'))) := by
  subst ha; subst hb; exact h
theorem has1_c (w : World) (f m x : Int) (hf : 0 ≤ f ∧ f < 65536) (hx : 0 ≤ x ∧ x < 65536) : Fc Tryz.prog 183 #[runV f m, .int .u16 x] w (Ret w (.val (.int .i64 (f - x)))) := by
  refine Fc.of (args := [_, _]) Tryz.func183 rfl rfl Tryz.ntmps183 (Nat.le_of_ble_eq_true rfl) ?_
  repeat' (first|(refine oLA ?_;first|refine LA_pass rfl ?_|refine LA_box rfl rfl ?_|(refine oD 5 ?_; refine LA_stop (hK _ _ (LX_pick 2 rfl (fun v1 w1 e1 h1 => ?_))); clear hK K; obtain ⟨bx, hbx, rfl, hbc⟩ := h1; refine LX_la (by kernel_rfl) (fun K hK => ?_))|(refine oI ?_; refine LA_indexR rfl _ rfl (fun _ => rfl) rfl (by first | exact HasR.val (by assumption) | exact HasR.own | exact HasR.ownV (by assumption)) rfl (by omega) ?_)|(refine oLt 96 ?_; refine LA_loadC rfl (fun _ => rfl) (fun _ => rfl) rfl ?_)|(show LA _ _ _ _ (⟨some 99, .alloc _, _, _, _, _⟩ :: _) _; refine LA_stop (hK _ _ (LX_var rfl rfl (by decide) (fun _ => rfl) (fun _ => rfl) (fun _ => rfl) rfl (by intro u hu; simp [Value.cells] at hu; rcases hu with rfl | rfl <;> rfl) (fun bx wx ex hbx hbc => ?_))); clear hK K; refine LX_la (by kernel_rfl) (fun K hK => ?_))|(refine oF 0 ?_; refine LA_fieldAddr (a := ⟨bx, 0, none⟩) (a' := ⟨bx, 0, none⟩) rfl rfl (fun _ => rfl) ?_)|(refine oF 1 ?_; refine LA_fieldAddr (a := ⟨bx, 0, none⟩) (a' := ⟨bx, 1, none⟩) rfl rfl (fun _ => rfl) ?_)|(refine oLt 96 ?_; refine LA_loadBN rfl (fun _ => rfl) (fun _ => rfl) rfl hbc ?_)|(refine oLt 72 ?_; refine LA_loadB rfl (fun _ => rfl) rfl hbc rfl ?_)|(refine oLen ?_; refine LA_lenR rfl _ rfl rfl (by first | exact HasR.val (by assumption) | exact HasR.own | exact HasR.ownV (by assumption)) ?_)|refine wOp ?_|(refine wCm ?_ ?_<;>intro hc)|(refine wNl hK ?_;clear hK K))|refine wG ?_|(refine wCR ?_;intro K hK)|fail)
  exact PX_retE rfl rfl e1 rfl
set_option maxHeartbeats 4000000 in
theorem bsf_c (w : World) (v : Value) (rs : List Rn) (x : Int) (h : SlR w v rs) (hu : U16 rs) (hx : 0 ≤ x ∧ x < 65536) (hb : rs.length ≤ 4611686018427387903) :
    Fc Tryz.prog 182 #[v, .int .u16 x, .func (.func 183) #[] #[]] w (Ret w (.tup2 (.val (.int .i64 (bsS (rs.map Prod.fst) x))) (.val (.bool (foundS (rs.map Prod.fst) x))))) := by
  refine Fc.of (args := [_, _, _]) Tryz.func182 rfl rfl Tryz.ntmps182 (Nat.le_of_ble_eq_true rfl) ?_
  obtain ⟨xs, hxs⟩ : ∃ xs, xs = rs.map Prod.fst := ⟨_, rfl⟩
  have hxl : xs.length = rs.length := by rw [hxs, List.length_map]
  have hget : ∀ k, k < rs.length → xs.getD k 0 = fst rs k := fun k hk => by rw [hxs]; exact fst_get hk
  rw [← hxs]
  clear hxs
  repeat' (first|(refine oLA ?_;first|refine LA_pass rfl ?_|(refine oI ?_; refine LA_indexR rfl _ rfl (fun _ => rfl) rfl (by first | exact HasR.val (by assumption) | exact HasR.own | exact HasR.ownV (by assumption)) rfl (by omega) ?_)|(refine oLt 96 ?_; refine LA_loadC rfl (fun _ => rfl) (fun _ => rfl) rfl ?_)|(show LA _ _ _ _ (⟨some 99, .alloc _, _, _, _, _⟩ :: _) _; refine LA_stop (hK _ _ (LX_var rfl rfl (by decide) (fun _ => rfl) (fun _ => rfl) (fun _ => rfl) rfl (by intro u hu; simp [Value.cells] at hu; rcases hu with rfl | rfl <;> rfl) (fun bx wx ex hbx hbc => ?_))); clear hK K; refine LX_la (by kernel_rfl) (fun K hK => ?_))|(refine oF 0 ?_; refine LA_fieldAddr (a := ⟨bx, 0, none⟩) (a' := ⟨bx, 0, none⟩) rfl rfl (fun _ => rfl) ?_)|(refine oF 1 ?_; refine LA_fieldAddr (a := ⟨bx, 0, none⟩) (a' := ⟨bx, 1, none⟩) rfl rfl (fun _ => rfl) ?_)|(refine oLt 96 ?_; refine LA_loadBN rfl (fun _ => rfl) (fun _ => rfl) rfl hbc ?_)|(refine oLt 72 ?_; refine LA_loadB rfl (fun _ => rfl) rfl hbc rfl ?_)|(refine oLen ?_; refine LA_lenR rfl _ rfl rfl (by first | exact HasR.val (by assumption) | exact HasR.own | exact HasR.ownV (by assumption)) ?_)|refine wOp ?_|(refine wCm ?_ ?_<;>intro hc)|(refine wNl hK ?_;clear hK K))|refine wG ?_|(refine wCR ?_;intro K hK)|fail)
  refine CX_loop (ι := Nat × Nat) (fun k => [(0, .val v), (1, .val (.int .u16 x)), (2, .val (.func (.func 183) #[] #[])), (8, .val (.int .i64 rs.length)), (9, .val (.int .i64 k.1)), (10, .val (.int .i64 k.2))]) (fun k => k.1 ≤ k.2 ∧ k.2 ≤ rs.length ∧ bsGo xs x k.1 k.2 = bsS xs x) (fun k => k.2 - k.1) (0, rs.length)
    ⟨by simp, by simp, by rw [← hxl]; rfl⟩ (by repeat' (first | exact Sub.nil | refine Sub.val rfl (by first | with_reducible rfl | (congr 1; omega)) ?_ | refine Sub.same rfl ?_)) ?_
  rintro ⟨i, j⟩ ⟨h1, h2, h3⟩
  dsimp only at h1 h2 h3 ⊢
  by_cases hij : i < j
  · obtain ⟨m, hm⟩ : ∃ m, m = (i + j) / 2 := ⟨_, rfl⟩
    have hmi : ((i : Int) + j) / 2 = (m : Int) := by omega
    have hml : m < rs.length := by omega
    have hgm := hget m hml
    obtain ⟨u1, u2, u3, u4⟩ := hu.at m
    by_cases hlt : fst rs m < x
    · skip
      repeat' (first|(refine oLA ?_;first|refine LA_pass rfl ?_|(refine oD 22 ?_; refine LA_shr rfl rfl rfl (by omega) (by dsimp only [IntKind.bits]; omega) ?_; dsimp only [Int.reduceToNat, Int.reducePow]; rw [hmi])|(refine oD 30 ?_; refine LA_call2 (f := 183) (r1 := .val _) (r2 := .val _) rfl rfl rfl rfl (.val (.int .i64 (fst rs m - x))) (by intro a1 a2 w e ha1 ha2; obtain rfl : a1 = _ := ha1; obtain rfl : a2 = _ := ha2; exact has1_c _ _ _ _ ⟨u1, u2⟩ hx) ?_)|(refine oI ?_; refine LA_indexR rfl _ rfl (fun _ => rfl) rfl (by first | exact HasR.val (by assumption) | exact HasR.own | exact HasR.ownV (by assumption)) rfl (by omega) ?_)|(refine oLt 96 ?_; refine LA_loadC rfl (fun _ => rfl) (fun _ => rfl) rfl ?_)|(show LA _ _ _ _ (⟨some 99, .alloc _, _, _, _, _⟩ :: _) _; refine LA_stop (hK _ _ (LX_var rfl rfl (by decide) (fun _ => rfl) (fun _ => rfl) (fun _ => rfl) rfl (by intro u hu; simp [Value.cells] at hu; rcases hu with rfl | rfl <;> rfl) (fun bx wx ex hbx hbc => ?_))); clear hK K; refine LX_la (by kernel_rfl) (fun K hK => ?_))|(refine oF 0 ?_; refine LA_fieldAddr (a := ⟨bx, 0, none⟩) (a' := ⟨bx, 0, none⟩) rfl rfl (fun _ => rfl) ?_)|(refine oF 1 ?_; refine LA_fieldAddr (a := ⟨bx, 0, none⟩) (a' := ⟨bx, 1, none⟩) rfl rfl (fun _ => rfl) ?_)|(refine oLt 96 ?_; refine LA_loadBN rfl (fun _ => rfl) (fun _ => rfl) rfl hbc ?_)|(refine oLt 72 ?_; refine LA_loadB rfl (fun _ => rfl) rfl hbc rfl ?_)|(refine oLen ?_; refine LA_lenR rfl _ rfl rfl (by first | exact HasR.val (by assumption) | exact HasR.own | exact HasR.ownV (by assumption)) ?_)|refine wOp ?_|(refine wCm ?_ ?_<;>intro hc)|(refine wNl hK ?_;clear hK K))|refine wG ?_|(refine wCR ?_;intro K hK)|fail)
      refine PX_rnd (m + 1, j) ⟨by dsimp only; omega, h2, ?_⟩ (by dsimp only; omega) (by repeat' (first | exact Sub.nil | refine Sub.val rfl (by first | with_reducible rfl | (congr 1; omega)) ?_ | refine Sub.same rfl ?_))
      rw [← h3]; conv => rhs; rw [bsGo, if_pos hij, ← hm, if_pos (by rw [hgm]; exact hlt)]
    · skip
      repeat' (first|(refine oLA ?_;first|refine LA_pass rfl ?_|(refine oD 22 ?_; refine LA_shr rfl rfl rfl (by omega) (by dsimp only [IntKind.bits]; omega) ?_; dsimp only [Int.reduceToNat, Int.reducePow]; rw [hmi])|(refine oD 30 ?_; refine LA_call2 (f := 183) (r1 := .val _) (r2 := .val _) rfl rfl rfl rfl (.val (.int .i64 (fst rs m - x))) (by intro a1 a2 w e ha1 ha2; obtain rfl : a1 = _ := ha1; obtain rfl : a2 = _ := ha2; exact has1_c _ _ _ _ ⟨u1, u2⟩ hx) ?_)|(refine oI ?_; refine LA_indexR rfl _ rfl (fun _ => rfl) rfl (by first | exact HasR.val (by assumption) | exact HasR.own | exact HasR.ownV (by assumption)) rfl (by omega) ?_)|(refine oLt 96 ?_; refine LA_loadC rfl (fun _ => rfl) (fun _ => rfl) rfl ?_)|(show LA _ _ _ _ (⟨some 99, .alloc _, _, _, _, _⟩ :: _) _; refine LA_stop (hK _ _ (LX_var rfl rfl (by decide) (fun _ => rfl) (fun _ => rfl) (fun _ => rfl) rfl (by intro u hu; simp [Value.cells] at hu; rcases hu with rfl | rfl <;> rfl) (fun bx wx ex hbx hbc => ?_))); clear hK K; refine LX_la (by kernel_rfl) (fun K hK => ?_))|(refine oF 0 ?_; refine LA_fieldAddr (a := ⟨bx, 0, none⟩) (a' := ⟨bx, 0, none⟩) rfl rfl (fun _ => rfl) ?_)|(refine oF 1 ?_; refine LA_fieldAddr (a := ⟨bx, 0, none⟩) (a' := ⟨bx, 1, none⟩) rfl rfl (fun _ => rfl) ?_)|(refine oLt 96 ?_; refine LA_loadBN rfl (fun _ => rfl) (fun _ => rfl) rfl hbc ?_)|(refine oLt 72 ?_; refine LA_loadB rfl (fun _ => rfl) rfl hbc rfl ?_)|(refine oLen ?_; refine LA_lenR rfl _ rfl rfl (by first | exact HasR.val (by assumption) | exact HasR.own | exact HasR.ownV (by assumption)) ?_)|refine wOp ?_|(refine wCm ?_ ?_<;>intro hc)|(refine wNl hK ?_;clear hK K))|refine wG ?_|(refine wCR ?_;intro K hK)|fail)
      refine PX_rnd (i, m) ⟨by dsimp only; omega, by dsimp only; omega, ?_⟩ (by dsimp only; omega) (by repeat' (first | exact Sub.nil | refine Sub.val rfl (by first | with_reducible rfl | (congr 1; omega)) ?_ | refine Sub.same rfl ?_))
      rw [← h3]; conv => rhs; rw [bsGo, if_pos hij, ← hm, if_neg (by rw [hgm]; exact hlt)]
  · have e1 : i = bsS xs x := by rw [← h3, bsGo, if_neg (by omega)]
    by_cases hil : i < rs.length
    · have hgi := hget i hil
      obtain ⟨u1, u2, u3, u4⟩ := hu.at i
      by_cases heq : fst rs i = x
      · have hf : foundS xs x = true := by unfold foundS; rw [← e1, decide_eq_true ⟨by omega, by rw [hgi]; exact heq⟩]
        rw [hf]
        repeat' (first|(refine oLA ?_;first|refine LA_pass rfl ?_|(refine oD 46 ?_; refine LA_call2 (f := 183) (r1 := .val _) (r2 := .val _) rfl rfl rfl rfl (.val (.int .i64 (fst rs i - x))) (by intro a1 a2 w e ha1 ha2; obtain rfl : a1 = _ := ha1; obtain rfl : a2 = _ := ha2; exact has1_c _ _ _ _ ⟨u1, u2⟩ hx) ?_)|(refine oI ?_; refine LA_indexR rfl _ rfl (fun _ => rfl) rfl (by first | exact HasR.val (by assumption) | exact HasR.own | exact HasR.ownV (by assumption)) rfl (by omega) ?_)|(refine oLt 96 ?_; refine LA_loadC rfl (fun _ => rfl) (fun _ => rfl) rfl ?_)|(show LA _ _ _ _ (⟨some 99, .alloc _, _, _, _, _⟩ :: _) _; refine LA_stop (hK _ _ (LX_var rfl rfl (by decide) (fun _ => rfl) (fun _ => rfl) (fun _ => rfl) rfl (by intro u hu; simp [Value.cells] at hu; rcases hu with rfl | rfl <;> rfl) (fun bx wx ex hbx hbc => ?_))); clear hK K; refine LX_la (by kernel_rfl) (fun K hK => ?_))|(refine oF 0 ?_; refine LA_fieldAddr (a := ⟨bx, 0, none⟩) (a' := ⟨bx, 0, none⟩) rfl rfl (fun _ => rfl) ?_)|(refine oF 1 ?_; refine LA_fieldAddr (a := ⟨bx, 0, none⟩) (a' := ⟨bx, 1, none⟩) rfl rfl (fun _ => rfl) ?_)|(refine oLt 96 ?_; refine LA_loadBN rfl (fun _ => rfl) (fun _ => rfl) rfl hbc ?_)|(refine oLt 72 ?_; refine LA_loadB rfl (fun _ => rfl) rfl hbc rfl ?_)|(refine oLen ?_; refine LA_lenR rfl _ rfl rfl (by first | exact HasR.val (by assumption) | exact HasR.own | exact HasR.ownV (by assumption)) ?_)|refine wOp ?_|(refine wCm ?_ ?_<;>intro hc)|(refine wNl hK ?_;clear hK K))|refine wG ?_|(refine wCR ?_;intro K hK)|(refine oPX ?_;first|exact PX_retE2 rfl rfl rfl (Ext.refl _) (by rw [e1]) rfl)|fail)
      · have hf : foundS xs x = false := by unfold foundS; rw [← e1]; exact decide_eq_false (fun hh => heq (by rw [← hgi]; exact hh.2))
        rw [hf]
        repeat' (first|(refine oLA ?_;first|refine LA_pass rfl ?_|(refine oD 46 ?_; refine LA_call2 (f := 183) (r1 := .val _) (r2 := .val _) rfl rfl rfl rfl (.val (.int .i64 (fst rs i - x))) (by intro a1 a2 w e ha1 ha2; obtain rfl : a1 = _ := ha1; obtain rfl : a2 = _ := ha2; exact has1_c _ _ _ _ ⟨u1, u2⟩ hx) ?_)|(refine oI ?_; refine LA_indexR rfl _ rfl (fun _ => rfl) rfl (by first | exact HasR.val (by assumption) | exact HasR.own | exact HasR.ownV (by assumption)) rfl (by omega) ?_)|(refine oLt 96 ?_; refine LA_loadC rfl (fun _ => rfl) (fun _ => rfl) rfl ?_)|(show LA _ _ _ _ (⟨some 99, .alloc _, _, _, _, _⟩ :: _) _; refine LA_stop (hK _ _ (LX_var rfl rfl (by decide) (fun _ => rfl) (fun _ => rfl) (fun _ => rfl) rfl (by intro u hu; simp [Value.cells] at hu; rcases hu with rfl | rfl <;> rfl) (fun bx wx ex hbx hbc => ?_))); clear hK K; refine LX_la (by kernel_rfl) (fun K hK => ?_))|(refine oF 0 ?_; refine LA_fieldAddr (a := ⟨bx, 0, none⟩) (a' := ⟨bx, 0, none⟩) rfl rfl (fun _ => rfl) ?_)|(refine oF 1 ?_; refine LA_fieldAddr (a := ⟨bx, 0, none⟩) (a' := ⟨bx, 1, none⟩) rfl rfl (fun _ => rfl) ?_)|(refine oLt 96 ?_; refine LA_loadBN rfl (fun _ => rfl) (fun _ => rfl) rfl hbc ?_)|(refine oLt 72 ?_; refine LA_loadB rfl (fun _ => rfl) rfl hbc rfl ?_)|(refine oLen ?_; refine LA_lenR rfl _ rfl rfl (by first | exact HasR.val (by assumption) | exact HasR.own | exact HasR.ownV (by assumption)) ?_)|refine wOp ?_|(refine wCm ?_ ?_<;>intro hc)|(refine wNl hK ?_;clear hK K))|refine wG ?_|(refine wCR ?_;intro K hK)|(refine oPX ?_;first|exact PX_retE2 rfl rfl rfl (Ext.refl _) (by rw [e1]) rfl)|fail)
    · have hf : foundS xs x = false := by unfold foundS; rw [← e1]; exact decide_eq_false (fun hh => hil (by omega))
      rw [hf]
      repeat' (first|(refine oLA ?_;first|refine LA_pass rfl ?_|(refine oI ?_; refine LA_indexR rfl _ rfl (fun _ => rfl) rfl (by first | exact HasR.val (by assumption) | exact HasR.own | exact HasR.ownV (by assumption)) rfl (by omega) ?_)|(refine oLt 96 ?_; refine LA_loadC rfl (fun _ => rfl) (fun _ => rfl) rfl ?_)|(show LA _ _ _ _ (⟨some 99, .alloc _, _, _, _, _⟩ :: _) _; refine LA_stop (hK _ _ (LX_var rfl rfl (by decide) (fun _ => rfl) (fun _ => rfl) (fun _ => rfl) rfl (by intro u hu; simp [Value.cells] at hu; rcases hu with rfl | rfl <;> rfl) (fun bx wx ex hbx hbc => ?_))); clear hK K; refine LX_la (by kernel_rfl) (fun K hK => ?_))|(refine oF 0 ?_; refine LA_fieldAddr (a := ⟨bx, 0, none⟩) (a' := ⟨bx, 0, none⟩) rfl rfl (fun _ => rfl) ?_)|(refine oF 1 ?_; refine LA_fieldAddr (a := ⟨bx, 0, none⟩) (a' := ⟨bx, 1, none⟩) rfl rfl (fun _ => rfl) ?_)|(refine oLt 96 ?_; refine LA_loadBN rfl (fun _ => rfl) (fun _ => rfl) rfl hbc ?_)|(refine oLt 72 ?_; refine LA_loadB rfl (fun _ => rfl) rfl hbc rfl ?_)|(refine oLen ?_; refine LA_lenR rfl _ rfl rfl (by first | exact HasR.val (by assumption) | exact HasR.own | exact HasR.ownV (by assumption)) ?_)|refine wOp ?_|(refine wCm ?_ ?_<;>intro hc)|(refine wNl hK ?_;clear hK K))|refine wG ?_|(refine wCR ?_;intro K hK)|(refine oPX ?_;first|exact PX_retE2 rfl rfl rfl (Ext.refl _) (by rw [e1]) rfl)|fail)
set_option maxHeartbeats 4000000 in
theorem rhasR_c (w : World) (v : Value) (rs : List Rn) (x : Nat) (h : SlR w v rs) (hu : U16 rs) (hr : Right rs) (hx : x < 65536) (hb : rs.length ≤ 70000) : Fc Tryz.prog 147 #[v, .int .u16 x] w (Ret w (.val (.bool (inR rs x)))) := by
  rw [← has_eq hr hu x]
  obtain ⟨i, hi⟩ : ∃ i, i = bsS (rs.map Prod.fst) (x : Int) := ⟨_, rfl⟩
  obtain ⟨f, hf⟩ : ∃ f, f = foundS (rs.map Prod.fst) (x : Int) := ⟨_, rfl⟩
  have hil : i ≤ rs.length := by have := bsS_le (rs.map Prod.fst) (x : Int); rw [List.length_map] at this; omega
  have hH : hasR rs x = (f || (decide (0 < i) && decide ((x : Int) < fst rs (i - 1) + mor rs (i - 1) + 1))) := by unfold hasR; rw [← hi, ← hf]
  rw [hH]
  clear hH
  obtain ⟨u1, u2, u3, u4⟩ := hu.at (i - 1)
  refine Fc.of (args := [_, _]) Tryz.func147 rfl rfl Tryz.ntmps147 (Nat.le_of_ble_eq_true rfl) ?_
  cases hfv : f
  · by_cases hi0 : 0 < i
    · obtain ⟨j, rfl⟩ : ∃ j, i = j + 1 := ⟨i - 1, by omega⟩
      rw [Nat.add_sub_cancel] at u1 u2 u3 u4 ⊢
      have hji : (((j + 1 : Nat) : Int) - 1) = (j : Int) := by omega
      by_cases hin : (x : Int) < fst rs j + mor rs j + 1
      all_goals
        repeat' (first|(refine oLA ?_;first|refine LA_pass rfl ?_|(refine oD 22 ?_; refine LA_subF rfl rfl rfl (by dsimp only [fits]; omega) ?_; rw [hji])|(refine oI ?_; refine LA_indexR rfl _ rfl (fun _ => rfl) rfl (by first | exact HasR.val (by assumption) | exact HasR.own | exact HasR.ownV (by assumption)) rfl (by omega) ?_)|(refine oLt 96 ?_; refine LA_loadC rfl (fun _ => rfl) (fun _ => rfl) rfl ?_)|(show LA _ _ _ _ (⟨some 99, .alloc _, _, _, _, _⟩ :: _) _; refine LA_stop (hK _ _ (LX_var rfl rfl (by decide) (fun _ => rfl) (fun _ => rfl) (fun _ => rfl) rfl (by intro u hu; simp [Value.cells] at hu; rcases hu with rfl | rfl <;> rfl) (fun bx wx ex hbx hbc => ?_))); clear hK K; refine LX_la (by kernel_rfl) (fun K hK => ?_))|(refine oF 0 ?_; refine LA_fieldAddr (a := ⟨bx, 0, none⟩) (a' := ⟨bx, 0, none⟩) rfl rfl (fun _ => rfl) ?_)|(refine oF 1 ?_; refine LA_fieldAddr (a := ⟨bx, 0, none⟩) (a' := ⟨bx, 1, none⟩) rfl rfl (fun _ => rfl) ?_)|(refine oLt 96 ?_; refine LA_loadBN rfl (fun _ => rfl) (fun _ => rfl) rfl hbc ?_)|(refine oLt 72 ?_; refine LA_loadB rfl (fun _ => rfl) rfl hbc rfl ?_)|(refine oLen ?_; refine LA_lenR rfl _ rfl rfl (by first | exact HasR.val (by assumption) | exact HasR.own | exact HasR.ownV (by assumption)) ?_)|refine wOp ?_|(refine wCm ?_ ?_<;>intro hc)|(refine oCv ?_;first|(refine oC 182 ?_; refine LA_call3 (f := 182) rfl rfl rfl rfl rfl  (.tup2 (.val (.int .i64 ((j + 1 : Nat) : Int))) (.val (.bool false))) (by intro u1 u2 u3 w e hu1 hu2 hu3; (try obtain rfl : u1 = _ := hu1); (try obtain rfl : u2 = _ := hu2); (try obtain rfl : u3 = _ := hu3); exact ret_tup2R (by rw [hi]) (by rw [← hf, hfv]) (bsf_c _ _ rs x (h.ext e) hu ⟨by omega, by omega⟩ (by omega))) ?_)|(refine oC 125 ?_; refine LA_call1 (f := 125) rfl rfl rfl  (.val (.int .i64 (fst rs j + mor rs j + 1))) (by intro u1 w e hu1; (try obtain rfl : u1 = _ := hu1); exact end_c _ (fst rs j) (mor rs j) ⟨u1, u2⟩ ⟨u3, u4⟩) ?_))|(refine wNl hK ?_;clear hK K))|refine wG ?_|(refine wCR ?_;intro K hK)|(refine oPX ?_;first|exact PX_retE rfl rfl (Ext.refl _) (by simp [hin]))|fail)
    · obtain rfl : i = 0 := by omega
      repeat' (first|(refine oLA ?_;first|refine LA_pass rfl ?_|refine wOp ?_|(refine wCm ?_ ?_<;>intro hc)|(refine oCv ?_;first|(refine oC 182 ?_; refine LA_call3 (f := 182) rfl rfl rfl rfl rfl  (.tup2 (.val (.int .i64 ((0 : Nat) : Int))) (.val (.bool false))) (by intro u1 u2 u3 w e hu1 hu2 hu3; (try obtain rfl : u1 = _ := hu1); (try obtain rfl : u2 = _ := hu2); (try obtain rfl : u3 = _ := hu3); exact ret_tup2R (by rw [hi]) (by rw [← hf, hfv]) (bsf_c _ _ rs x (h.ext e) hu ⟨by omega, by omega⟩ (by omega))) ?_))|(refine wNl hK ?_;clear hK K))|refine wG ?_|(refine wCR ?_;intro K hK)|(refine oPX ?_;first|exact PX_retE rfl rfl (Ext.refl _) (by simp))|fail)
  · skip
    repeat' (first|(refine oLA ?_;first|refine LA_pass rfl ?_|refine wOp ?_|(refine wCm ?_ ?_<;>intro hc)|(refine oCv ?_;first|(refine oC 182 ?_; refine LA_call3 (f := 182) rfl rfl rfl rfl rfl  (.tup2 (.val (.int .i64 (i : Int))) (.val (.bool true))) (by intro u1 u2 u3 w e hu1 hu2 hu3; (try obtain rfl : u1 = _ := hu1); (try obtain rfl : u2 = _ := hu2); (try obtain rfl : u3 = _ := hu3); exact ret_tup2R (by rw [hi]) (by rw [← hf, hfv]) (bsf_c _ _ rs x (h.ext e) hu ⟨by omega, by omega⟩ (by omega))) ?_))|(refine wNl hK ?_;clear hK K))|refine wG ?_|(refine wCR ?_;intro K hK)|(refine oPX ?_;first|exact PX_retE rfl rfl (Ext.refl _) (by simp))|fail)
end Go.Proofs.YtfcioiobhpcngaaGreatDoor
end
section
set_option linter.unusedSimpArgs false
set_option linter.unusedVariables false
namespace Go.Proofs.YtfcioiobhpcngaaGreatDoor
open Go.LA Go.ArrP Go.RowKit
variable {A : Nat → Prop}
def nilS : Value := .slice none 0 0
def OwnA (A : Nat → Prop) (e : Nat) (k : IntKind) (w : World) (v : Value) (xs : List Int) : Prop := OwnI 0 e k w v xs ∧ ∀ b, v.ownBlock = some b → A b
theorem OwnA.ext {e : Nat} {k : IntKind} {w w' : World} {v : Value} {xs : List Int} (h : OwnA A e k w v xs) (x : Ext w w') : OwnA A e k w' v xs := ⟨h.1.ext x, h.2⟩
theorem OwnA.slI {e : Nat} {k : IntKind} {w : World} {v : Value} {xs : List Int} (h : OwnA A e k w v xs) : SlI k w v xs := h.1.slI
def Fsh (A : Nat → Prop) (w : World) : Prop := ∀ k, w.heap.size ≤ k → A k
theorem Fsh.ext {w w' : World} (h : Fsh A w) (e : Ext w w') : Fsh A w' := fun k hk => h k (Nat.le_trans e.size hk)
def TT : Nat → Prop := fun _ => True
theorem tt {w : World} : Fsh TT w := fun _ _ => trivial
def Cn (A : Nat → Prop) (w : World) (v : Value) (p : Nat → Bool) (kk : Int) : Prop :=
  p 65536 = false ∧
  ((kk = 1 ∧ ∃ kd va, (kd = 0 ∨ kd = 1) ∧ v = .agg #[.int .u8 kd, va, .slice none 0 0, .slice none 0 0] ∧ OwnA A 72 .u16 w va (listS p 65536)) ∨
   (kk = 2 ∧ ∃ vw, v = .agg #[.int .u8 2, .slice none 0 0, vw, .slice none 0 0] ∧ OwnI 0 22 .u64 w vw (wordsOf p)) ∨
   (kk = 3 ∧ ∃ vr, v = .agg #[.int .u8 3, .slice none 0 0, .slice none 0 0, vr] ∧ OwnR 0 96 w vr (runsL p)))
theorem Cn.ext {w w' : World} {v : Value} {p : Nat → Bool} {kk : Int} (h : Cn A w v p kk) (e : Ext w w') : Cn A w' v p kk := by
  obtain ⟨hp, h | h | h⟩ := h
  · obtain ⟨h1, kd, va, h2, h3, h4⟩ := h; exact ⟨hp, .inl ⟨h1, kd, va, h2, h3, h4.ext e⟩⟩
  · obtain ⟨h1, vw, h3, h4⟩ := h; exact ⟨hp, .inr (.inl ⟨h1, vw, h3, h4.ext e⟩)⟩
  · obtain ⟨h1, vr, h3, h4⟩ := h; exact ⟨hp, .inr (.inr ⟨h1, vr, h3, h4.ext e⟩)⟩
def cnP (A : Nat → Prop) (p : Nat → Bool) (kk : Int) : AV := ⟨fun v w => Cn A w v p kk, fun _ _ _ e h => h.ext e⟩
theorem Cn.setRow {w : World} {v : Value} {p : Nat → Bool} {kk : Int} (h : Cn A w v p kk) {b : Nat} {cur : Array Value} {e : TypeId} {j : Nat × Nat} (hb : w.heap[b]? = some (.cells cur e j)) (he : 72 ≠ e ∧ 22 ≠ e ∧ 96 ≠ e) (cs : Array Value) : Cn A (w.setRow b cs) v p kk := by
  obtain ⟨hp, h | h | h⟩ := h
  · obtain ⟨h1, kd, va, h2, h3, h4⟩ := h; exact ⟨hp, .inl ⟨h1, kd, va, h2, h3, Own.setRow h4.1 _ (Own.apart h4.1 hb he.1), h4.2⟩⟩
  · obtain ⟨h1, vw, h3, h4⟩ := h; exact ⟨hp, .inr (.inl ⟨h1, vw, h3, Own.setRow h4 _ (Own.apart h4 hb he.2.1)⟩)⟩
  · obtain ⟨h1, vr, h3, h4⟩ := h; exact ⟨hp, .inr (.inr ⟨h1, vr, h3, Own.setRow h4 _ (Own.apart h4 hb he.2.2)⟩)⟩
theorem Cn.arr {w : World} {va : Value} {p : Nat → Bool} {base : Nat} (hp : p 65536 = false) {xs : List Int} (hx : xs = listS p 65536) (h : OwnI base 72 .u16 w va xs) (hA : ∀ k, base ≤ k → A k) : Cn A w (.agg #[.int .u8 1, va, .slice none 0 0, .slice none 0 0]) p 1 :=
  ⟨hp, .inl ⟨rfl, 1, va, .inr rfl, rfl, hx ▸ Own.base h (Nat.zero_le _), fun k hk => hA k (Own.lt h k hk).1⟩⟩
theorem Cn.wrd {w : World} {vw : Value} {p : Nat → Bool} {base : Nat} (hp : p 65536 = false) {xs : List Int} (hx : xs = wordsOf p) (h : OwnI base 22 .u64 w vw xs) (hA : ∀ k, base ≤ k → A k) : Cn A w (.agg #[.int .u8 2, .slice none 0 0, vw, .slice none 0 0]) p 2 :=
  ⟨hp, .inr (.inl ⟨rfl, vw, rfl, hx ▸ Own.base h (Nat.zero_le _)⟩)⟩
theorem Cn.rns {w : World} {vr : Value} {p : Nat → Bool} {base : Nat} (hp : p 65536 = false) {xs : List Rn} (hx : xs = runsL p) (h : OwnR base 96 w vr xs) (hA : ∀ k, base ≤ k → A k) : Cn A w (.agg #[.int .u8 3, .slice none 0 0, .slice none 0 0, vr]) p 3 :=
  ⟨hp, .inr (.inr ⟨rfl, vr, rfl, hx ▸ Own.base h (Nat.zero_le _)⟩)⟩
theorem Cn.zero {w : World} : Cn A w (.agg #[.int .u8 0, .slice none 0 0, .slice none 0 0, .slice none 0 0]) (fun _ => false) 1 :=
  ⟨rfl, .inl ⟨rfl, 0, _, .inl rfl, rfl, by rw [listS_nil (fun _ => false) (a := 0) 65536 (by decide) (fun _ _ _ => rfl)]; exact ⟨OwnI.nil, fun _ h => by cases h⟩⟩⟩
theorem Cn.parts {w : World} {v : Value} {p : Nat → Bool} {kk : Int} (h : Cn A w v p kk) : ∃ kd va vw vr, v = .agg #[.int .u8 kd, va, vw, vr] ∧ max kd 1 = kk ∧ 0 ≤ kd ∧ kd ≤ 3 ∧ kk = max kd 1 ∧ 1 ≤ kk ∧ kk ≤ 3 ∧ (∀ u ∈ (Value.agg #[.int .u8 kd, va, vw, vr]).cells.toList, u.oneCell' = true) := by
  obtain ⟨hp, h | h | h⟩ := h
  · obtain ⟨h1, kd, va, h2, h3, h4⟩ := h
    refine ⟨kd, va, _, _, h3, by omega, by omega, by omega, by omega, by omega, by omega, fun u hu => ?_⟩
    simp only [Value.cells, List.mem_cons, List.not_mem_nil, or_false] at hu
    rcases hu with rfl | rfl | rfl | rfl
    · rfl
    · exact OwnI.one h4.1
    · rfl
    · rfl
  · obtain ⟨h1, vw, h3, h4⟩ := h
    refine ⟨2, _, vw, _, h3, by omega, by omega, by omega, by omega, by omega, by omega, fun u hu => ?_⟩
    simp only [Value.cells, List.mem_cons, List.not_mem_nil, or_false] at hu
    rcases hu with rfl | rfl | rfl | rfl
    · rfl
    · rfl
    · exact OwnI.one h4
    · rfl
  · obtain ⟨h1, vr, h3, h4⟩ := h
    refine ⟨3, _, _, vr, h3, by omega, by omega, by omega, by omega, by omega, by omega, fun u hu => ?_⟩
    simp only [Value.cells, List.mem_cons, List.not_mem_nil, or_false] at hu
    rcases hu with rfl | rfl | rfl | rfl
    · rfl
    · rfl
    · rfl
    · obtain ⟨a, c, hv⟩ := (OwnR.slR h4).isSlice
      rw [hv]; rfl
def leastP (c : Nat) : Int := if c ≤ 4096 then 2 * (c : Int) else 8192
def kindP (p : Nat → Bool) : Int := if 2 + 4 * (cnt (startsS p) 65536 : Int) < leastP (cnt p 65536) then 3 else if cnt p 65536 ≤ 4096 then 1 else 2
theorem starts_congr {p q : Nat → Bool} (h : ∀ i, i < 65536 → p i = q i) : cnt (startsS p) 65536 = cnt (startsS q) 65536 := cnt_congr 65536 fun i hi => by
  unfold startsS; rw [h i hi, h (i - 1) (by omega)]
theorem kindP_congr {p q : Nat → Bool} (h : ∀ i, i < 65536 → p i = q i) : kindP p = kindP q := by
  unfold kindP; rw [starts_congr h, cnt_congr 65536 h]
theorem Cn.congr {w : World} {v : Value} {p q : Nat → Bool} {kk : Int} (h : Cn A w v p kk) (hq : q 65536 = false) (e : ∀ i, i < 65536 → p i = q i) : Cn A w v q kk := by
  obtain ⟨hp, h⟩ := h
  rw [listS_congr 65536 e, wordsOf_congr e, runsL_congr e] at h
  exact ⟨hq, h⟩
theorem ret_cn {w : World} {p q : Nat → Bool} {kk : Int} (hq : q 65536 = false) (e : ∀ i, i < 65536 → p i = q i) (en : Ending) (w' : World) (h : Ret w (.pred (cnP A p kk)) en w') : Ret w (.pred (cnP A q kk)) en w' := by
  obtain ⟨v, h1, h2, h3⟩ := h
  exact ⟨v, h1, h2, Cn.congr h3 hq e⟩
theorem ret_can {w : World} {p q : Nat → Bool} (hq : q 65536 = false) (e : ∀ i, i < 65536 → p i = q i) (en : Ending) (w' : World) (h : Ret w (.pred (cnP A p (kindP p))) en w') : Ret w (.pred (cnP A q (kindP q))) en w' := by
  rw [← kindP_congr e]; exact ret_cn hq e en w' h
end Go.Proofs.YtfcioiobhpcngaaGreatDoor
end
