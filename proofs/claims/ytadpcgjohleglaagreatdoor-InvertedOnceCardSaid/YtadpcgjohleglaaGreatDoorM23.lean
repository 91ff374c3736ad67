import Derived.Laws.StructEq
import Derived.Test.YtadpcgjohleglaaGreatDoorM13
import Derived.Test.YtadpcgjohleglaaGreatDoorM16
import Derived.Test.YtadpcgjohleglaaGreatDoorM18
import Derived.Test.YtadpcgjohleglaaGreatDoorM19
import Derived.Test.YtadpcgjohleglaaGreatDoorM20
import Derived.Test.YtadpcgjohleglaaGreatDoorM21
section
set_option linter.unusedSimpArgs false
set_option linter.unusedVariables false
set_option maxRecDepth 3000
namespace Go.Proofs.YtadpcgjohleglaaGreatDoor
open Go.LA Go.ArrP Go.RowKit
abbrev tPs : Nat := 33
abbrev tRw : Nat := 68
abbrev tU3 : Nat := 51
theorem b6A : El Tryz.prog 52 tPs (.pointer none) 1 8 := ⟨rfl, rfl, rfl, by decide⟩
theorem el_rw : El Tryz.prog 67 tRw (.slice none 0 0) 1 24 := ⟨rfl, rfl, rfl, by decide⟩
theorem b5A : El Tryz.prog 68 tU3 (.int .u32 0) 1 4 := ⟨rfl, rfl, rfl, by decide⟩
def OffT (e : Nat) : Prop := e ≠ tS ∧ e ≠ tK ∧ e ≠ tC ∧ 36 ≠ e ∧ 114 ≠ e
theorem RSet.off {R : Nat → Prop} {w w' : World} {v : Value} {p : Nat → Bool} (h : RSet TT TT w v p) (hf : Fr R w w') (hR : ∀ k, R k → ∃ cur e, w.heap[k]? = some (.cells cur e (0, 0)) ∧ OffT e) : RSet TT TT w' v p := by
  obtain ⟨b, kv, lv, rfl, hS, hB⟩ := h
  refine ⟨b, kv, lv, rfl, hS.fr hf (fun k hk => ?_) (fun k ho hk => ?_), hB⟩
  · obtain ⟨cur, e, h1, h2⟩ := hR k hk
    exact ⟨cur, e, _, h1, h2.2.2.2.1, h2.2.2.2.2, fun _ h => h2.2.1 h.symm⟩
  · obtain ⟨cur, e, h1, h2⟩ := hR k hk
    obtain ⟨Q, q1, q2, q3⟩ := hS.hl
    rcases ho with rfl | ho | ho
    · have h3 := hS.hb; rw [h1] at h3; cases h3; exact h2.1 rfl
    · obtain ⟨cur', h3⟩ := own_type hS.hk ho
      rw [h1] at h3; cases h3; exact h2.2.1 rfl
    · obtain ⟨cur', h3⟩ := own_type q2 ho
      rw [h1] at h3; cases h3; exact h2.2.2.1 rfl
theorem b2A {B A : Nat → Prop} {p : Nat → Bool} (u : Value) (w : World) (h : (rsP B A p).p u w) : u.cells = #[u] ∧ u.oneCell' = true := by
  obtain ⟨b, kv, lv, rfl, -⟩ := h
  exact ⟨rfl, rfl⟩
structure Sets (w : World) (base : Nat) (sv : Value) (ptrs : List Value) (n : Nat) (ps : Nat → Nat → Bool) : Prop where
  own : LA.Own base tPs 1 w sv n ptrs
  at_ : ∀ i, i < n → RSet TT TT w (ptrs.getD i undef) (ps i)
theorem Sets.ext {w w' : World} {base : Nat} {sv : Value} {ptrs : List Value} {n : Nat} {ps : Nat → Nat → Bool} (h : Sets w base sv ptrs n ps) (e : Ext w w') : Sets w' base sv ptrs n ps := ⟨h.own.ext e, fun i hi => (h.at_ i hi).ext e⟩
def IX (t : Nat) (n : Nat) (ps : Nat → Nat → Bool) (w : World) (v : Value) : Prop := ∃ b sv ptrs, v = .pointer (some ⟨b, 0, none⟩) ∧ w.heap[b]? = some (.cells #[sv] t (0, 0)) ∧ Sets w 0 sv ptrs n ps
theorem IX.ext {t n : Nat} {ps : Nat → Nat → Bool} {w w' : World} {v : Value} (h : IX t n ps w v) (e : Ext w w') : IX t n ps w' v := by
  obtain ⟨b, sv, ptrs, h1, h2, h3⟩ := h
  exact ⟨b, sv, ptrs, h1, e.block h2, h3.ext e⟩
def ixP (t n : Nat) (ps : Nat → Nat → Bool) : AV := ⟨fun v w => IX t n ps w v, fun _ _ _ e h => h.ext e⟩
structure RowsV (w : World) (base : Nat) (v : Value) (vs : List Value) (n : Nat) (xs : Nat → List Int) : Prop where
  own : LA.Own base tRw 1 w v n vs
  at_ : ∀ i, i < n → OwnI base tU3 .u32 w (vs.getD i undef) (xs i)
  apart : ∀ i j, i < n → j < n → i ≠ j → ∀ b, (vs.getD i undef).ownBlock = some b → (vs.getD j undef).ownBlock ≠ some b
theorem RowsV.ext {w w' : World} {base : Nat} {v : Value} {vs : List Value} {n : Nat} {xs : Nat → List Int} (h : RowsV w base v vs n xs) (e : Ext w w') : RowsV w' base v vs n xs := ⟨h.own.ext e, fun i hi => (h.at_ i hi).ext e, h.apart⟩
theorem RowsV.new {w : World} {base : Nat} {v : Value} {n : Nat} (h : LA.Own base tRw 1 w v n (List.replicate n nilS)) : RowsV w base v (List.replicate n nilS) n (fun _ => []) := by
  have h1 : ∀ i, i < n → (List.replicate n nilS).getD i undef = nilS := fun i hi => by simp [List.getD, List.getElem?_replicate, hi]
  exact ⟨h, fun i hi => by rw [h1 i hi]; exact OwnI.nil, fun i j hi hj hne b hb => by rw [h1 i hi] at hb; cases hb⟩
theorem RowsV.fr {w w' : World} {base : Nat} {v : Value} {vs : List Value} {n : Nat} {xs : Nat → List Int} (h : RowsV w base v vs n xs) {R : Nat → Prop} (hf : Fr R w w') (hR : ∀ k, R k → ∃ cur e, w.heap[k]? = some (.cells cur e (0, 0)) ∧ tRw ≠ e ∧ tU3 ≠ e) : RowsV w' base v vs n xs :=
  ⟨hf.own h.own (fun k hk hr => by obtain ⟨cur, e, h1, h2⟩ := hR k hr; exact Own.apart h.own h1 h2.1 hk), fun i hi => hf.own (h.at_ i hi) (fun k hk hr => by obtain ⟨cur, e, h1, h2⟩ := hR k hr; exact Own.apart (h.at_ i hi) h1 h2.2 hk), h.apart⟩
theorem RowsV.put {w w1 w2 w3 : World} {base b cap n i : Nat} {v' : Value} {vs : List Value} {cur : Array Value} {xs ys : Nat → List Int} (h : RowsV w base (.slice (some ⟨b, 0, none⟩) n cap) vs n xs) (hb : base ≤ b) (hc : w.heap[b]? = some (.cells cur tRw (0, 0))) (hnc : n ≤ cap) (hm : cap ≤ maxLen) (hsz : cur.size = cap) (ht : cur.toList.take n = vs) (hi : i < n) (hbase : base ≤ w.heap.size)
    (e1 : Ext w w1) (hf : Fr (fun k => (vs.getD i undef).ownBlock = some k) w1 w2) (hl : LocR w1 (vs.getD i undef) v') (ho : LA.Own 0 tU3 1 w2 v' (ys i).length ((ys i).map (Value.int .u32))) (e2 : Ext w2 w3) (hy : ∀ j, j ≠ i → ys j = xs j) :
    RowsV (w3.setRow b (cur.setIfInBounds i v')) base (.slice (some ⟨b, 0, none⟩) n cap) (vs.set i v') n ys := by
  have hln := h.own.lenV
  have hb2 : w2.heap[b]? = some (.cells cur tRw (0, 0)) := hf.at (e1.block hc) (fun hk => Own.apart (h.at_ i hi) hc (by decide) hk)
  have hb3 := e2.block hb2
  have hg : ∀ j, (vs.set i v').getD j undef = if j = i then v' else vs.getD j undef := fun j => getD_set (by omega)
  have hge : ∀ k, v'.ownBlock = some k → base ≤ k := hl.ge (fun k hk => (Own.lt (h.at_ i hi) k hk).1) (Nat.le_trans hbase e1.size)
  have hne : ∀ {bb ee ss nn : Nat} {vv : Value} {cc : List Value}, LA.Own bb ee ss w3 vv nn cc → ee ≠ tRw → vv.ownBlock ≠ some b := fun ho hne => Own.apart ho hb3 hne
  refine ⟨Own.setV hb hb3 hnc hm hsz ht i hi v', fun j hj => ?_, fun j j' hj hj' hne' k hk hk' => ?_⟩
  · rw [hg]
    by_cases e : j = i
    · subst e; rw [if_pos rfl]
      have h4 : OwnI base tU3 .u32 w3 v' (ys j) := Own.rebase (ho.ext e2) hge
      exact Own.setRow h4 _ (hne h4 (by decide))
    · rw [if_neg e, hy j e]
      have h4 : OwnI base tU3 .u32 w3 (vs.getD j undef) (xs j) := Own.ext (hf.own (Own.ext (h.at_ j hj) e1) (fun k hk hr => h.apart j i hj hi e k hk hr)) e2
      exact Own.setRow h4 _ (hne h4 (by decide))
  · rw [hg] at hk hk'
    have key : ∀ j, j < n → j ≠ i → ∀ k, (vs.getD j undef).ownBlock = some k → v'.ownBlock ≠ some k := fun j hj e k hk hk' => by
      rcases hl with hl | hl
      · rw [hl] at hk'; exact h.apart j i hj hi e k hk hk'
      · have h5 := hl k hk'
        have h6 := (Own.lt (h.at_ j hj) k hk).2
        have := e1.size
        omega
    by_cases e : j = i
    · subst e; rw [if_pos rfl] at hk; rw [if_neg (fun h => hne' h.symm)] at hk'
      exact key j' hj' (fun h => hne' h.symm) k hk' hk
    · rw [if_neg e] at hk
      by_cases e' : j' = i
      · subst e'; rw [if_pos rfl] at hk'; exact key j hj e k hk hk'
      · rw [if_neg e'] at hk'; exact h.apart j j' hj hj' hne' k hk hk'
end Go.Proofs.YtadpcgjohleglaaGreatDoor
end
section
set_option linter.unusedSimpArgs false
set_option linter.unusedVariables false
set_option maxRecDepth 3000
namespace Go.Proofs.YtadpcgjohleglaaGreatDoor
open Go.LA Go.ArrP Go.RowKit
def anA (ids : List Int) (many : Int) : Bool := decide (0 ≤ many) && decide (many ≤ 16777216) && decide (ids.length ≤ 16777216) && ids.all fun x => decide (0 ≤ x) && decide (x < many)
theorem afA (ids : List Int) (many : Int) : anA ids many = true ↔ 0 ≤ many ∧ many ≤ 16777216 ∧ ids.length ≤ 16777216 ∧ ∀ x ∈ ids, 0 ≤ x ∧ x < many := by
  unfold anA
  simp only [Bool.and_eq_true, decide_eq_true_eq, List.all_eq_true]
  constructor
  · rintro ⟨⟨⟨h1, h2⟩, h3⟩, h4⟩; exact ⟨h1, h2, h3, h4⟩
  · rintro ⟨h1, h2, h3, h4⟩; exact ⟨⟨⟨h1, h2⟩, h3⟩, h4⟩
def ofX (t : Nat) (b : Bool) (n : Nat) (ps : Nat → Nat → Bool) : AD := match b with
  | true => .tup2 (.pred (ixP t n ps)) (.val (.int .i64 0))
  | false => .tup2 (.val (.pointer none)) (.val (.int .i64 2))
abbrev tIv : Nat := 54
set_option maxHeartbeats 4000000 in
theorem b3A {w : World} {v : Value} {ids : List Int} {many : Int} (h : SlI .i64 w v ids) (hT : Tab w) : Fc Tryz.prog 10 #[v, .int .i64 many] w (Ret w (ofX tIv (anA ids many) many.toNat fun i => idP ids i)) := by
  have hl := h.len
  have hmx := afA ids many
  by_cases hsz : ¬ (0 ≤ many ∧ many ≤ 16777216 ∧ ids.length ≤ 16777216)
  · have hmf : anA ids many = false := by
      cases hm : anA ids many
      · rfl
      · have := hmx.1 hm; exact absurd ⟨this.1, this.2.1, this.2.2.1⟩ hsz
    rw [hmf]
    refine Fc.of (args := [_, _]) Tryz.func10 rfl rfl Tryz.ntmps10 (Nat.le_of_ble_eq_true rfl) ?_
    by_cases c1 : many < 0
    · skip
      repeat' (first|(refine oLA ?_;first|refine LA_pass rfl ?_|refine wOp ?_|(refine wCm ?_ ?_<;>intro hc)|(refine wNl hK ?_;clear hK K))|refine wG ?_|(refine wCR ?_;intro K hK)|fail)
      all_goals exact PX_retE2 rfl rfl rfl (Ext.refl _) rfl rfl
    · by_cases c2 : 16777216 < many
      · skip
        repeat' (first|(refine oLA ?_;first|refine LA_pass rfl ?_|refine wOp ?_|(refine wCm ?_ ?_<;>intro hc)|(refine wNl hK ?_;clear hK K))|refine wG ?_|(refine wCR ?_;intro K hK)|fail)
        all_goals exact PX_retE2 rfl rfl rfl (Ext.refl _) rfl rfl
      · have c3 : 16777216 < (ids.length : Int) := by omega
        repeat' (first|(refine oLA ?_;first|refine LA_pass rfl ?_|refine wOp ?_|(refine wCm ?_ ?_<;>intro hc)|(refine wNl hK ?_;clear hK K))|refine wG ?_|(refine wCR ?_;intro K hK)|fail)
        all_goals exact PX_retE2 rfl rfl rfl (Ext.refl _) rfl rfl
  obtain ⟨s0, s1, s2⟩ := Decidable.not_not.1 hsz
  obtain ⟨n, rfl⟩ := Int.eq_ofNat_of_zero_le s0
  refine Fc.of (args := [_, _]) Tryz.func10 rfl rfl Tryz.ntmps10 (Nat.le_of_ble_eq_true rfl) ?_
  repeat' (first|(refine oLA ?_;first|refine LA_pass rfl ?_|(refine oD 23 ?_; refine avA rfl el_rw rfl rfl rfl (by omega) (by omega) ?_)|refine wOp ?_|(refine wCm ?_ ?_<;>intro hc)|(refine wNl hK ?_;clear hK K))|(refine oCX ?_;first|refine CX_seqW (id := 4) (ι := Value × List Value) (fun j => [(0, .val v), (1, .val (.int .i64 n)), (6, .val j.1)]) (fun j w' => Ext w w' ∧ RowsV w' w.heap.size j.1 j.2 n (fun i => a0A ids i ids.length) ∧ anA ids n = true) ?_ ?_)|refine wG ?_|(refine wCR ?_;intro K hK)|fail)
  all_goals skip
  · skip
    refine CX_pick 6 rfl (fun v6 w6 e6 h6 => ?_)
    refine CX_loopV (ι := Nat × List Value) (fun j => [(0, .val v), (1, .val (.int .i64 n)), (6, .val v6), (24, .val v), (25, .val (.int .i64 ids.length)), (26, .val (.int .i64 j.1))])
      (fun j w' => Ext w w' ∧ j.1 ≤ ids.length ∧ RowsV w' w.heap.size v6 j.2 n (fun i => a0A ids i j.1) ∧ ∀ i, i < j.1 → 0 ≤ ids.getD i 0 ∧ ids.getD i 0 < (n : Int))
      (fun j => ids.length - j.1) (fun w2 e2 => ⟨(0, List.replicate n nilS), ⟨e6.trans e2, Nat.zero_le _, (RowsV.new h6).ext e2, fun i hi => absurd hi (Nat.not_lt_zero _)⟩, (by repeat' (first | exact Sub.nil | refine Sub.val rfl (by first | with_reducible rfl | (congr 1; omega)) ?_ | refine Sub.same rfl ?_))⟩) ?_
    rintro ⟨k, vs⟩ w1 ⟨he, hk0, hr, hall⟩
    dsimp only at hk0 hr hall ⊢
    by_cases hk : k < ids.length
    · by_cases hid : 0 ≤ ids.getD k 0 ∧ ids.getD k 0 < (n : Int)
      · obtain ⟨id, hx⟩ := Int.eq_ofNat_of_zero_le hid.1
        have hx' : ids.getD k 0 = ((id : Nat) : Int) := hx
        have hidn : id < n := by have := hid.2; omega
        have hrl := a5A ids id k
        obtain ⟨rb, cap, cur, rfl, hrb, hrc, hnc, hcm, hcs, hct⟩ := hr.own.rowV (by omega)
        have hrn := ajA hx'
        repeat' (first|(refine oLA ?_;first|refine LA_pass rfl ?_|(refine oD 29 ?_; refine LA_indexN rfl _ rfl (fun _ => rfl) rfl (HasI.val (h.ext he)) rfl hk ?_; rw [hx'])|(refine oD 42 ?_; refine a2A rfl _ rfl (fun _ => rfl) rfl (HasC.ownV hr.own) rfl id rfl hidn hr.own.lenV ?_)|(refine oD 46 ?_; refine LA_one rfl b5A rfl rfl ?_)|(refine oD 47 ?_; refine LA_stop (hK _ _ (LX_appendL rfl (by decide) b5A rfl (hr.at_ id hidn) rfl HasC.pred (fun u hu => by rw [List.mem_singleton] at hu; subst hu; rfl) (by unfold maxLen; omega) (by omega) (fun v' w2 w3 e2 ho3 hf3 hl3 => ?_))); clear hK K; have hc3 := hf3.at (e2.block hrc) (fun hk' => Own.apart (hr.at_ id hidn) hrc (by decide) hk'); obtain ⟨ck1, ck2⟩ := own_cells ho3; refine LX_la (by kernel_rfl) (fun K hK => ?_))|(refine oD 48 ?_; refine LA_indexS (s := 1) rfl rfl (fun _ => rfl) rfl rfl (by omega) (by omega) ?_; rw [Int.toNat_natCast, Nat.zero_add, Nat.mul_one])|(refine LA_stop (hK _ _ (LX_store1 rfl rfl rfl hc3 (fun _ => rfl) (by omega) ck1 ck2 (fun w4 e4 => ?_))); clear hK K; dsimp only [vals]; refine LX_la (by kernel_rfl) (fun K hK => ?_))|refine wOp ?_|(refine wCm ?_ ?_<;>intro hc)|(refine wNl hK ?_;clear hK K))|refine wG ?_|(refine wCR ?_;intro K hK)|fail)
        all_goals skip
        have x3 : Ext w w3 := Fr.ext (he.trans e2) hf3 (fun q hq => (Own.lt (hr.at_ id hidn) q hq).1)
        have hr4 := hr.put (w3 := w4) (ys := fun i => a0A ids i (k + 1)) hrb hrc hnc hcm hcs hct hidn he.size e2 hf3 hl3 (by rw [hrn, List.map_append, List.length_append]; exact ho3) e4 (fun j hj => abA (by rw [hx']; omega))
        have x4 := (x3.trans e4).setRow hrb (cur.setIfInBounds id v')
        refine PX_rndV (k + 1, vs.set id v') (fun w5 e5 => ⟨x4.trans e5, hk, hr4.ext e5, fun i hi => ?_⟩) (by dsimp only; omega) (by repeat' (first | exact Sub.nil | refine Sub.val rfl (by first | with_reducible rfl | (congr 1; omega)) ?_ | refine Sub.same rfl ?_))
        by_cases e : i = k
        · rw [e]; exact hid
        · exact hall i (by omega)
      · have hmf : anA ids n = false := by
          cases hm : anA ids n
          · rfl
          · refine absurd ((hmx.1 hm).2.2.2 _ ?_) hid
            rw [List.getD_eq_getElem?_getD, List.getElem?_eq_getElem hk]; exact List.getElem_mem hk
        rw [hmf]
        rcases Int.lt_or_le (ids.getD k 0) 0 with c4 | c4
        all_goals
          repeat' (first|(refine oLA ?_;first|refine LA_pass rfl ?_|(refine oD 29 ?_; refine LA_indexN rfl _ rfl (fun _ => rfl) rfl (HasI.val (h.ext he)) rfl hk ?_)|refine wOp ?_|(refine wCm ?_ ?_<;>intro hc)|(refine wNl hK ?_;clear hK K))|refine wG ?_|(refine wCR ?_;intro K hK)|fail)
          all_goals skip
          all_goals exact PX_retE2 rfl rfl rfl he rfl rfl
    · obtain rfl : k = ids.length := by omega
      repeat' (first|(refine oLA ?_;first|refine LA_pass rfl ?_|refine wOp ?_|(refine wCm ?_ ?_<;>intro hc)|(refine wNl hK ?_;clear hK K))|refine wG ?_|(refine wCR ?_;intro K hK)|fail)
      all_goals skip
      exact PX_rndV (v6, vs) (fun w5 e5 => ⟨he.trans e5, hr.ext e5, hmx.2 ⟨s0, s1, s2, fun x hx => by
        obtain ⟨i, hi, rfl⟩ := List.getElem_of_mem hx
        have := hall i hi
        rw [List.getD_eq_getElem?_getD, List.getElem?_eq_getElem hi] at this; exact this⟩⟩) (by omega) (by repeat' (first | exact Sub.nil | refine Sub.val rfl (by first | with_reducible rfl | (congr 1; omega)) ?_ | refine Sub.same rfl ?_))
  rintro ⟨v6, vs⟩ w0 ⟨he0, hr0, hm⟩
  dsimp only at hr0
  rw [hm, Int.toNat_natCast]
  repeat' (first|(refine oLA ?_;first|refine LA_pass rfl ?_|refine LA_build0 (c := .agg #[nilS]) rfl (fun _ => by kernel_rfl) ?_|refine LA_box rfl rfl ?_|refine wOp ?_|(refine wCm ?_ ?_<;>intro hc)|(refine wNl hK ?_;clear hK K))|refine wG ?_|(refine wCR ?_;intro K hK)|fail)
  all_goals skip
  refine CX_pick 9 rfl (fun v9 w9 e9 h9 => ?_)
  obtain ⟨b, hbb, rfl, hb9⟩ := h9
  have hbw : w.heap.size ≤ b := Nat.le_trans he0.size hbb
  have x9 := he0.trans e9
  refine CX_loopV (ι := Nat × Value × List Value) (fun j => [(1, .val (.int .i64 n)), (6, .val v6), (9, .val (.pointer (some ⟨b, 0, none⟩))), (52, .val (.int .i64 n)), (53, .val (.int .i64 j.1))])
    (fun j w' => Ext w w' ∧ j.1 ≤ n ∧ RowsV w' w.heap.size v6 vs n (fun i => a0A ids i ids.length) ∧ w'.heap[b]? = some (.cells #[j.2.1] tIv (0, 0)) ∧ Sets w' w.heap.size j.2.1 j.2.2 j.1 (fun i => idP ids i))
    (fun j => n - j.1) (fun w2 e2 => ⟨(0, nilS, []), ⟨x9.trans e2, Nat.zero_le _, (hr0.ext e9).ext e2, e2.block hb9, ⟨Own.nil, fun i hi => absurd hi (Nat.not_lt_zero _)⟩⟩, (by repeat' (first | exact Sub.nil | refine Sub.val rfl (by first | with_reducible rfl | (congr 1; omega)) ?_ | refine Sub.same rfl ?_))⟩) ?_
  rintro ⟨k, sv, ptrs⟩ w1 ⟨he, hk0, hr, hb1, hs⟩
  dsimp only at hk0 hr hb1 hs ⊢
  by_cases hk : k < n
  · have hof : ∀ w' u, Ext w1 w' → u = vs.getD k undef → Fc Tryz.prog 36 #[u] w' (Ret w' (.pred (rsP TT TT (idP ids k)))) := fun w' u e hu => by
      rw [hu, ← amA]
      refine of_s ((hr.at_ k hk).ext e).slI (fun x hx => ?_) (by have := a5A ids k ids.length; omega) (hT.ext (he.trans e)) tt tt
      obtain ⟨y, h1, h2, h3⟩ := (a4A ids k x ids.length).1 hx
      omega
    repeat' (first|(refine oLA ?_;first|refine wBk ?_|refine LA_nilCheck rfl rfl ?_|refine LA_fieldAddr (a' := ⟨b, 0, none⟩) rfl rfl (fun _ => rfl) ?_|(refine oD 60 ?_; refine LA_loadB (c := sv) rfl (fun _ => rfl) rfl hb1 rfl ?_)|(refine oD 63 ?_; refine a2A rfl _ rfl (fun _ => rfl) rfl (HasC.ownV hr.own) rfl k rfl hk hr.own.lenV ?_)|(refine oD 66 ?_; refine b1A (Nat.le_refl _) rfl b6A rfl b2A ?_)|refine wOp ?_|(refine wCm ?_ ?_<;>intro hc)|(refine oCv ?_;first|(refine oC 36 ?_; refine LA_call1 (f := 36) rfl rfl rfl  (.pred (rsP TT TT (idP ids k))) (by intro u1 w e hu1; (try obtain rfl : u1 = _ := hu1); exact hof _ _ e rfl) ?_))|(refine wNl hK ?_;clear hK K))|(refine oCX ?_;first|refine CX_phases (id := 15) [11, 14] (by kernel_rfl) (by kernel_rfl) (by kernel_rfl) (Phase_cons ?_))|refine wG ?_|(refine wCR ?_;intro K hK)|refine wPh ?_|fail)
    all_goals skip
    refine MX_pick 66 rfl (by decide) rfl (fun v66 w3 e3 h66 => ?_)
    obtain ⟨u, hu, hu1, hu2, huo⟩ := h66
    refine MX_appendL rfl b6A rfl (hs.own.ext e3) rfl (HasC.ownV huo) (fun c hc => by rw [List.mem_singleton] at hc; subst hc; exact hu2) (by unfold maxLen; omega) (by omega) (fun sv' w4 w5 e4 hos hf hl => ⟨_, fun t u _ hu => vals_keep t u hu, Phase_cons ?_⟩)
    have x4 := e3.trans e4
    have hR : ∀ q, sv.ownBlock = some q → ∃ cur, w4.heap[q]? = some (.cells cur tPs (0, 0)) := fun q hq => own_type (hs.own.ext x4) hq
    have hb5 := hf.at (x4.block hb1) (fun hq => Own.apart hs.own hb1 (by decide) hq)
    obtain ⟨ck1, ck2⟩ := own_cells hos
    have hr5 : RowsV w5 w.heap.size v6 vs n (fun i => a0A ids i ids.length) := (hr.ext x4).fr hf (fun q hq => by obtain ⟨cur, hc⟩ := hR q hq; exact ⟨cur, _, hc, by decide, by decide⟩)
    have hRs : ∀ {p : Nat → Bool} {vv : Value}, RSet TT TT w4 vv p → RSet TT TT w5 vv p := fun hh => hh.off hf (fun q hq => by obtain ⟨cur, hc⟩ := hR q hq; exact ⟨cur, _, hc, by decide, by decide, by decide, by decide, by decide⟩)
    have hs5 : ∀ i, i < k + 1 → RSet TT TT w5 ((ptrs ++ [u]).getD i undef) (idP ids i) := fun i hi => by
      rw [apA hs.own.lenV]
      by_cases e : i < k
      · rw [if_pos e]; exact hRs ((hs.at_ i e).ext x4)
      · obtain rfl : i = k := by omega
        rw [if_neg e, if_pos rfl]; exact hRs (RSet.ext hu e4)
    have hsv5 : LA.Own w.heap.size tPs 1 w5 sv' (k + 1) (ptrs ++ [u]) := Own.rebase hos (hl.ge (fun q hq => (Own.lt hs.own q hq).1) (Nat.le_trans he.size x4.size))
    have x5 : Ext w w5 := Fr.ext (he.trans x4) hf (fun q hq => (Own.lt hs.own q hq).1)
    repeat' (first|(refine oLA ?_;first|refine wBk ?_|refine LA_nilCheck rfl rfl ?_|refine LA_fieldAddr (a' := ⟨b, 0, none⟩) rfl rfl (fun _ => rfl) ?_|refine wOp ?_|(refine wCm ?_ ?_<;>intro hc)|(refine wNl hK ?_;clear hK K))|refine wG ?_|(refine wCR ?_;intro K hK)|refine wPh ?_|fail)
    all_goals skip
    refine MX_store (news := [sv']) rfl rfl rfl hb5 ck1 (fun _ => rfl) (Nat.le_of_ble_eq_true rfl) (fun c hc => by rw [List.mem_singleton] at hc; subst hc; exact ck2) (fun w6 e6 => ⟨_, fun t u hu => vals_keep t u hu, Phase_nil ?_⟩)
    rw [show (#[sv].toList.take 0 ++ [sv'] ++ #[sv].toList.drop (0 + [sv'].length)).toArray = #[sv'] from rfl]
    have hb6 := e6.block hb5
    have hfr : Fr (fun q => q = b) w6 (w6.setRow b #[sv']) := Fr.setRow (R := fun q => q = b) (Fr.of (Ext.refl _)) rfl _
    have hRb : ∀ q, q = b → ∃ cur e, w6.heap[q]? = some (.cells cur e (0, 0)) ∧ e = tIv := fun q hq => by subst hq; exact ⟨_, _, hb6, rfl⟩
    have hb7 : (w6.setRow b #[sv']).heap[b]? = some (.cells #[sv'] tIv (0, 0)) := setRow_heap w6 b _ _ _ _ hb6
    have hr7 := (hr5.ext e6).fr hfr (fun q hq => by obtain ⟨cur, e, h1, rfl⟩ := hRb q hq; exact ⟨cur, _, h1, by decide, by decide⟩)
    have hs7 : Sets (w6.setRow b #[sv']) w.heap.size sv' (ptrs ++ [u]) (k + 1) (fun i => idP ids i) :=
      ⟨Own.setRow (hsv5.ext e6) _ (Own.apart (hsv5.ext e6) hb6 (by decide)), fun i hi => ((hs5 i hi).ext e6).off hfr (fun q hq => by obtain ⟨cur, e, h1, rfl⟩ := hRb q hq; exact ⟨cur, _, h1, by decide, by decide, by decide, by decide, by decide⟩)⟩
    have x7 := (x5.trans e6).setRow hbw #[sv']
    obtain ⟨w7, hw7⟩ : ∃ w7, w7 = w6.setRow b #[sv'] := ⟨_, rfl⟩
    rw [← hw7] at hb7 hr7 hs7 x7 ⊢
    repeat' (first|(refine oLA ?_;first|refine wBk ?_|refine wOp ?_|(refine wCm ?_ ?_<;>intro hc)|(refine wNl hK ?_;clear hK K))|refine wG ?_|(refine wCR ?_;intro K hK)|refine wPh ?_|fail)
    all_goals skip
    exact PX_rndV (k + 1, sv', ptrs ++ [u]) (fun w8 e8 => ⟨x7.trans e8, hk, hr7.ext e8, e8.block hb7, hs7.ext e8⟩) (by dsimp only; omega) (by repeat' (first | exact Sub.nil | refine Sub.val rfl (by first | with_reducible rfl | (congr 1; omega)) ?_ | refine Sub.same rfl ?_))
  · obtain rfl : k = n := by omega
    repeat' (first|(refine oLA ?_;first|refine LA_pass rfl ?_|refine wOp ?_|(refine wCm ?_ ?_<;>intro hc)|(refine wNl hK ?_;clear hK K))|refine wG ?_|(refine wCR ?_;intro K hK)|fail)
    all_goals skip
    refine PX_ret2 rfl (fun x y w5 e5 hx hy => ⟨_, rfl, he.trans e5, x, y, rfl, ?_, hy⟩)
    obtain rfl : x = _ := hx
    have h8 := hs.ext e5
    exact ⟨b, sv, ptrs, rfl, e5.block hb1, ⟨Own.base h8.own (Nat.zero_le _), h8.at_⟩⟩
end Go.Proofs.YtadpcgjohleglaaGreatDoor
end
section
set_option linter.unusedSimpArgs false
set_option linter.unusedVariables false
set_option maxRecDepth 3000
namespace Go.Proofs.YtadpcgjohleglaaGreatDoor
open Go.LA Go.ArrP Go.RowKit
def NIX (t n : Nat) (ps : Nat → Nat → Bool) (w : World) (v : Value) : Prop := (v = .pointer none ∧ n = 0) ∨ IX t n ps w v
theorem NIX.ext {t n : Nat} {ps : Nat → Nat → Bool} {w w' : World} {v : Value} (h : NIX t n ps w v) (e : Ext w w') : NIX t n ps w' v := h.imp id (fun h => h.ext e)
theorem NIX.zero {t b : Nat} {ps : Nat → Nat → Bool} {w : World} (h : w.heap[b]? = some (.cells #[nilS] t (0, 0))) : NIX t 0 ps w (.pointer (some ⟨b, 0, none⟩)) := .inr ⟨b, nilS, [], rfl, h, ⟨Own.nil, fun i hi => absurd hi (Nat.not_lt_zero _)⟩⟩
theorem a9A {w : World} {v : Value} {n : Nat} {ps : Nat → Nat → Bool} (h : NIX tIv n ps w v) : Fc Tryz.prog 26 #[v] w (Ret w (.val (.int .i64 n))) := by
  rcases h with ⟨rfl, rfl⟩ | ⟨b, sv, ptrs, rfl, hb, hs⟩
  · refine Fc.of (args := [_]) Tryz.func26 rfl rfl Tryz.ntmps26 (Nat.le_of_ble_eq_true rfl) ?_
    repeat' (first|(refine oLA ?_;first|refine LA_pass rfl ?_|(refine oD 4 ?_; refine LA_binV (c := .bool true) rfl rfl rfl (fun _ => rfl) ?_)|refine wOp ?_|(refine wCm ?_ ?_<;>intro hc)|(refine wNl hK ?_;clear hK K))|refine wG ?_|(refine wCR ?_;intro K hK)|fail)
    exact PX_retE rfl rfl (Ext.refl _) rfl
  · refine Fc.of (args := [_]) Tryz.func26 rfl rfl Tryz.ntmps26 (Nat.le_of_ble_eq_true rfl) ?_
    repeat' (first|(refine oLA ?_;first|refine LA_pass rfl ?_|(refine oD 4 ?_; refine LA_binV (c := .bool false) rfl rfl rfl (fun _ => rfl) ?_)|refine LA_nilCheck rfl rfl ?_|refine LA_fieldAddr (a' := ⟨b, 0, none⟩) rfl rfl (fun _ => rfl) ?_|(refine oD 8 ?_; refine LA_loadB (c := sv) rfl (fun _ => rfl) rfl hb rfl ?_)|(refine oLen ?_; refine LA_len rfl _ rfl rfl (HasC.ownV hs.own) ?_)|refine wOp ?_|(refine wCm ?_ ?_<;>intro hc)|(refine wNl hK ?_;clear hK K))|refine wG ?_|(refine wCR ?_;intro K hK)|fail)
    exact PX_retE rfl rfl (Ext.refl _) rfl
theorem b4A {w : World} {v : Value} {ps : Nat → Nat → Bool} (h : NIX tIv 0 ps w v) : Fc Tryz.prog 27 #[v] w (Ret w (.val nilS)) := by
  refine Fc.of (args := [_]) Tryz.func27 rfl rfl Tryz.ntmps27 (Nat.le_of_ble_eq_true rfl) ?_
  repeat' (first|(refine oLA ?_;first|refine LA_pass rfl ?_|refine wOp ?_|(refine wCm ?_ ?_<;>intro hc)|(refine oCv ?_;first|(refine oC 26 ?_; refine LA_call1 (f := 26) rfl rfl rfl  (.val (.int .i64 (0 : Nat))) (by intro u1 w e hu1; (try obtain rfl : u1 = _ := hu1); exact a9A (h.ext e)) ?_))|(refine wNl hK ?_;clear hK K))|refine wG ?_|(refine wCR ?_;intro K hK)|fail)
  refine CX_loop (ι := Unit) (fun _ => [(3, .val nilS), (6, .val (.int .i64 (0 : Nat))), (7, .val (.int .i64 0))]) (fun _ => True) (fun _ => 0) () trivial (by repeat' (first | exact Sub.nil | refine Sub.val rfl (by first | with_reducible rfl | (congr 1; omega)) ?_ | refine Sub.same rfl ?_)) ?_
  intro _ _
  repeat' (first|(refine oLA ?_;first|refine LA_pass rfl ?_|refine wOp ?_|(refine wCm ?_ ?_<;>intro hc)|(refine wNl hK ?_;clear hK K))|refine wG ?_|(refine wCR ?_;intro K hK)|fail)
  all_goals skip
  exact PX_retE rfl rfl (Ext.refl _) rfl
theorem a3A {w : World} {v : Value} {n : Nat} {ps : Nat → Nat → Bool} (h : NIX tIv n ps w v) (hn : n ≤ 16777216) {B : Nat → Prop} (hB : Fsh B w) (id : Int) : Fc Tryz.prog 15 #[v, .int .i64 id] w (Ret w (.pred (rsP B TT (rowP n ps id)))) := by
  have hB' : ∀ w', Ext w w' → Fsh B w' := fun w' e => hB.ext e
  by_cases hid : 0 ≤ id ∧ id < (n : Int)
  · have hr : rowP n ps id = ps id.toNat := by unfold rowP; rw [if_pos hid]
    rw [hr]
    obtain ⟨j, rfl⟩ := Int.eq_ofNat_of_zero_le hid.1
    rw [Int.toNat_natCast]
    have hj : j < n := by have := hid.2; omega
    have hh := h
    rcases hh with ⟨rfl, rfl⟩ | ⟨b, sv, ptrs, rfl, hb, hs⟩
    · omega
    have hp := hs.at_ j hj
    have hcp : ∀ w', Ext w w' → _ := fun w' e => copy_s (.inr (hp.ext e)) (B' := B) (A' := TT) (hB' w' e) (fun _ _ _ => trivial)
    refine Fc.of (args := [_, _]) Tryz.func15 rfl rfl Tryz.ntmps15 (Nat.le_of_ble_eq_true rfl) ?_
    repeat' (first|(refine oLA ?_;first|refine LA_pass rfl ?_|refine LA_nilCheck rfl rfl ?_|refine LA_fieldAddr (a' := ⟨b, 0, none⟩) rfl rfl (fun _ => rfl) ?_|(refine oD 17 ?_; refine LA_loadB (c := sv) rfl (fun _ => rfl) rfl hb rfl ?_)|(refine oD 19 ?_; refine a2A rfl _ rfl (fun _ => rfl) rfl (HasC.ownV hs.own) rfl j rfl hj hs.own.lenV ?_)|refine wOp ?_|(refine wCm ?_ ?_<;>intro hc)|(refine oCv ?_;first|(refine oC 26 ?_; refine LA_call1 (f := 26) rfl rfl rfl  (.val (.int .i64 n)) (by intro u1 w e hu1; (try obtain rfl : u1 = _ := hu1); exact a9A (h.ext e)) ?_)|(refine oC 44 ?_; refine LA_call1 (f := 44) rfl rfl rfl  (.pred (rsP B TT (ps j))) (by intro u1 w e hu1; (try obtain rfl : u1 = _ := hu1); exact hcp _ e) ?_))|(refine wNl hK ?_;clear hK K))|refine wG ?_|(refine wCR ?_;intro K hK)|fail)
    all_goals skip
    all_goals exact PX_retP rfl rfl (Ext.refl _) (fun _ _ _ hv => hv)
  · have hr : rowP n ps id = fun _ => false := by unfold rowP; rw [if_neg hid]
    rw [hr]
    refine Fc.of (args := [_, _]) Tryz.func15 rfl rfl Tryz.ntmps15 (Nat.le_of_ble_eq_true rfl) ?_
    by_cases c1 : id < 0
    · skip
      repeat' (first|(refine oLA ?_;first|refine LA_pass rfl ?_|refine wOp ?_|(refine wCm ?_ ?_<;>intro hc)|(refine oCv ?_;first|(refine oC 12 ?_; refine LA_call0 (f := 12) rfl rfl  (.pred (rsP B TT (fun _ => false))) (by intro w e; exact new_c _ (hB' _ e)) ?_))|(refine wNl hK ?_;clear hK K))|refine wG ?_|(refine wCR ?_;intro K hK)|fail)
      all_goals skip
      all_goals exact PX_retP rfl rfl (Ext.refl _) (fun _ _ _ hv => hv)
    · skip
      repeat' (first|(refine oLA ?_;first|refine LA_pass rfl ?_|refine wOp ?_|(refine wCm ?_ ?_<;>intro hc)|(refine oCv ?_;first|(refine oC 26 ?_; refine LA_call1 (f := 26) rfl rfl rfl  (.val (.int .i64 n)) (by intro u1 w e hu1; (try obtain rfl : u1 = _ := hu1); exact a9A (h.ext e)) ?_)|(refine oC 12 ?_; refine LA_call0 (f := 12) rfl rfl  (.pred (rsP B TT (fun _ => false))) (by intro w e; exact new_c _ (hB' _ e)) ?_))|(refine wNl hK ?_;clear hK K))|refine wG ?_|(refine wCR ?_;intro K hK)|fail)
      all_goals skip
      all_goals exact PX_retP rfl rfl (Ext.refl _) (fun _ _ _ hv => hv)
theorem aqA {w : World} {v u : Value} {n : Nat} {ps : Nat → Nat → Bool} {ys : List Int} (h : NIX tIv n ps w v) (hn : n ≤ 16777216) (hy : SlI .i64 w u ys) (hT : Tab w) : Fc Tryz.prog 21 #[v, u] w (Ret w (.pred (rsP TT TT (amP n ps ys ys.length)))) := by
  have hyl := hy.len
  refine Fc.of (args := [_, _]) Tryz.func21 rfl rfl Tryz.ntmps21 (Nat.le_of_ble_eq_true rfl) ?_
  repeat' (first|(refine oLA ?_;first|refine LA_pass rfl ?_|refine wOp ?_|(refine wCm ?_ ?_<;>intro hc)|(refine oCv ?_;first|(refine oC 12 ?_; refine LA_call0 (f := 12) rfl rfl  (.pred (rsP TT TT (fun _ => false))) (by intro w e; exact new_c _ tt) ?_))|(refine wNl hK ?_;clear hK K))|refine wG ?_|(refine wCR ?_;intro K hK)|fail)
  all_goals skip
  refine CX_pick 5 rfl (fun v5 w5 e5 h5 => ?_)
  refine CX_loopV (ι := Nat × Value) (fun j => [(0, .val v), (1, .val u), (5, .val j.2), (9, .val u), (10, .val (.int .i64 ys.length)), (11, .val (.int .i64 j.1))])
    (fun j w' => Ext w w' ∧ j.1 ≤ ys.length ∧ RSet TT TT w' j.2 (amP n ps ys j.1)) (fun j => ys.length - j.1)
    (fun w2 e2 => ⟨(0, v5), ⟨e5.trans e2, Nat.zero_le _, RSet.ext h5 e2⟩, (by repeat' (first | exact Sub.nil | refine Sub.val rfl (by first | with_reducible rfl | (congr 1; omega)) ?_ | refine Sub.same rfl ?_))⟩) ?_
  rintro ⟨k, s⟩ w1 ⟨he, hk0, hs⟩
  dsimp only at hk0 hs ⊢
  by_cases hk : k < ys.length
  · by_cases hid : 0 ≤ ys.getD k 0 ∧ ys.getD k 0 < (n : Int)
    · have ham : amP n ps ys (k + 1) = two (fun x y => x || y) (amP n ps ys k) (ps (ys.getD k 0).toNat) := by simp only [amP]; rw [if_pos hid]
      obtain ⟨j, hj⟩ := Int.eq_ofNat_of_zero_le hid.1
      have hj' : ys.getD k 0 = ((j : Nat) : Int) := hj
      have hjn : j < n := by have := hid.2; omega
      rw [hj', Int.toNat_natCast] at ham
      rcases h with ⟨rfl, rfl⟩ | hx
      · omega
      have hN : ∀ w', Ext w w' → NIX tIv n ps w' v := fun w' e => .inr (hx.ext e)
      obtain ⟨b, sv, ptrs, rfl, hb, hss⟩ := hx
      have hb1 := he.block hb
      have hs1 := hss.ext he
      have hor : ∀ w', Ext w1 w' → Fc Tryz.prog 28 #[s, ptrs.getD j undef] w' (Ret w' (.pred (rsP TT TT (amP n ps ys (k + 1))))) := fun w' e => by
        rw [ham]
        exact or_s (A := TT) (B := TT) (B1 := TT) (B2 := TT) (.inr (hs.ext e)) (.inr ((hs1.at_ j hjn).ext e)) (hT.ext (he.trans e)) tt tt
      repeat' (first|(refine oLA ?_;first|refine LA_pass rfl ?_|(refine oD 13 ?_; refine LA_indexN rfl _ rfl (fun _ => rfl) rfl (HasI.val (hy.ext he)) rfl hk ?_; rw [hj'])|refine LA_nilCheck rfl rfl ?_|refine LA_fieldAddr (a' := ⟨b, 0, none⟩) rfl rfl (fun _ => rfl) ?_|(refine oD 27 ?_; refine LA_loadB (c := sv) rfl (fun _ => rfl) rfl hb1 rfl ?_)|(refine oD 29 ?_; refine a2A rfl _ rfl (fun _ => rfl) rfl (HasC.ownV hs1.own) rfl j rfl hjn hs1.own.lenV ?_)|refine wOp ?_|(refine wCm ?_ ?_<;>intro hc)|(refine oCv ?_;first|(refine oC 26 ?_; refine LA_call1 (f := 26) rfl rfl rfl  (.val (.int .i64 n)) (by intro u1 w e hu1; (try obtain rfl : u1 = _ := hu1); exact a9A (hN _ (he.trans e))) ?_)|(refine oC 28 ?_; refine LA_call2 (f := 28) rfl rfl rfl rfl  (.pred (rsP TT TT (amP n ps ys (k + 1)))) (by intro u1 u2 w e hu1 hu2; (try obtain rfl : u1 = _ := hu1); (try obtain rfl : u2 = _ := hu2); exact hor _ e) ?_))|(refine wNl hK ?_;clear hK K))|refine wG ?_|(refine wCR ?_;intro K hK)|fail)
      all_goals skip
      refine PX_pick 5 rfl (fun v9 w9 e9 h9 => ?_)
      exact PX_rndV (k + 1, v9) (fun w8 e8 => ⟨(he.trans e9).trans e8, hk, RSet.ext h9 e8⟩) (by dsimp only; omega) (by repeat' (first | exact Sub.nil | refine Sub.val rfl (by first | with_reducible rfl | (congr 1; omega)) ?_ | refine Sub.same rfl ?_))
    · have ham : amP n ps ys (k + 1) = amP n ps ys k := by simp only [amP]; rw [if_neg hid]
      by_cases c1 : 0 ≤ ys.getD k 0
      · skip
        repeat' (first|(refine oLA ?_;first|refine LA_pass rfl ?_|(refine oD 13 ?_; refine LA_indexN rfl _ rfl (fun _ => rfl) rfl (HasI.val (hy.ext he)) rfl hk ?_)|refine wOp ?_|(refine wCm ?_ ?_<;>intro hc)|(refine oCv ?_;first|(refine oC 26 ?_; refine LA_call1 (f := 26) rfl rfl rfl  (.val (.int .i64 n)) (by intro u1 w e hu1; (try obtain rfl : u1 = _ := hu1); exact a9A (h.ext (he.trans e))) ?_))|(refine wNl hK ?_;clear hK K))|refine wG ?_|(refine wCR ?_;intro K hK)|fail)
        all_goals skip
        exact PX_rndV (k + 1, s) (fun w8 e8 => ⟨he.trans e8, hk, by rw [ham]; exact hs.ext e8⟩) (by dsimp only; omega) (by repeat' (first | exact Sub.nil | refine Sub.val rfl (by first | with_reducible rfl | (congr 1; omega)) ?_ | refine Sub.same rfl ?_))
      · skip
        repeat' (first|(refine oLA ?_;first|refine LA_pass rfl ?_|(refine oD 13 ?_; refine LA_indexN rfl _ rfl (fun _ => rfl) rfl (HasI.val (hy.ext he)) rfl hk ?_)|refine wOp ?_|(refine wCm ?_ ?_<;>intro hc)|(refine wNl hK ?_;clear hK K))|refine wG ?_|(refine wCR ?_;intro K hK)|fail)
        all_goals skip
        exact PX_rndV (k + 1, s) (fun w8 e8 => ⟨he.trans e8, hk, by rw [ham]; exact hs.ext e8⟩) (by dsimp only; omega) (by repeat' (first | exact Sub.nil | refine Sub.val rfl (by first | with_reducible rfl | (congr 1; omega)) ?_ | refine Sub.same rfl ?_))
  · obtain rfl : k = ys.length := by omega
    repeat' (first|(refine oLA ?_;first|refine LA_pass rfl ?_|refine wOp ?_|(refine wCm ?_ ?_<;>intro hc)|(refine wNl hK ?_;clear hK K))|refine wG ?_|(refine wCR ?_;intro K hK)|fail)
    all_goals skip
    exact PX_retP rfl rfl he (fun x w5 e5 hx => by obtain rfl : x = _ := hx; exact hs.ext e5)
end Go.Proofs.YtadpcgjohleglaaGreatDoor
end
section
set_option linter.unusedSimpArgs false
set_option linter.unusedVariables false
set_option maxRecDepth 3000
namespace Go.Proofs.YtadpcgjohleglaaGreatDoor
open Go.LA Go.ArrP Go.RowKit
abbrev tI6 : Nat := 3
theorem atA : El Tryz.prog 22 tI6 (.int .i64 0) 1 8 := ⟨rfl, rfl, rfl, by decide⟩
theorem IX.off {R : Nat → Prop} {t n : Nat} {ps : Nat → Nat → Bool} {w w' : World} {v : Value} (h : IX t n ps w v) (hf : Fr R w w') (hR : ∀ k, R k → ∃ cur, w.heap[k]? = some (.cells cur tI6 (0, 0))) (ht : t ≠ tI6) : IX t n ps w' v := by
  obtain ⟨b, sv, ptrs, h1, h2, h3⟩ := h
  refine ⟨b, sv, ptrs, h1, hf.at h2 (fun hk => ?_), hf.own h3.own (fun k hk hr => ?_), fun i hi => (h3.at_ i hi).off hf (fun k hk => ?_)⟩
  · obtain ⟨cur, hc⟩ := hR b hk
    rw [h2] at hc; cases hc; exact ht rfl
  · obtain ⟨cur, hc⟩ := hR k hr
    exact Own.apart h3.own hc (by decide) hk
  · obtain ⟨cur, hc⟩ := hR k hk
    exact ⟨cur, _, hc, by decide, by decide, by decide, by decide, by decide⟩
theorem axA {w : World} {v : Value} {ids : List Int} {many : Int} (h : SlI .i64 w v ids) (hT : Tab w) (hm : anA ids many = true) : Fc Tryz.prog 10 #[v, .int .i64 many] w (Ret w (.tup2 (.pred (ixP tIv many.toNat fun i => idP ids i)) (.val (.int .i64 0)))) := by
  have := b3A (many := many) h hT; rw [hm] at this; exact this
theorem ayA {w : World} {v : Value} {ids : List Int} {many : Int} (h : SlI .i64 w v ids) (hT : Tab w) (hm : anA ids many = false) : Fc Tryz.prog 10 #[v, .int .i64 many] w (Ret w (.tup2 (.val (.pointer none)) (.val (.int .i64 2)))) := by
  have := b3A (many := many) h hT; rw [hm] at this; exact this
theorem adA {p : Nat → Bool} {m c : Nat} (h : ∀ x, m ≤ x → p x = false) (hm : m ≤ 300) (hc : cnt p m = c) : cnt p TOP = c := by
  rw [cnt_flat (p := p) (a := m) TOP (by rw [TOP_eq]; omega) (fun x hx _ => h x hx)]; exact hc
theorem acA {p : Nat → Bool} {x : Nat} (h : ¬ p x = true) : p x = false := by simpa using h
theorem a7A {ids : List Int} {id : Int} {x : Nat} (h : ids.length ≤ x) : idP ids id x = false := acA fun h' => by have := (idP_iff.1 h').1; omega
theorem aiA (w : World) (hT : Tab w) : Fc Tryz.prog 22 #[] w (Ret w (.val (.bool true))) := by
  have c0 : cnt (rowP 3 (fun i => idP [1, 0, 1] i) 0) TOP = 1 := by rw [show (0 : Int) = ((0 : Nat) : Int) from rfl, a6A (by decide)]; exact adA (m := 3) (fun x hx => a7A hx) (by decide) (by decide)
  have c1 : cnt (rowP 3 (fun i => idP [1, 0, 1] i) 1) TOP = 2 := by rw [show (1 : Int) = ((1 : Nat) : Int) from rfl, a6A (by decide)]; exact adA (m := 3) (fun x hx => a7A hx) (by decide) (by decide)
  have c2 : cnt (rowP 3 (fun i => idP [1, 0, 1] i) 2) TOP = 0 := by rw [show (2 : Int) = ((2 : Nat) : Int) from rfl, a6A (by decide)]; exact adA (m := 3) (fun x hx => a7A hx) (by decide) (by decide)
  have c3 : rowP 3 (fun i => idP [1, 0, 1] i) 1 2 = true := by rw [show (1 : Int) = ((1 : Nat) : Int) from rfl, a6A (by decide)]; decide
  have hl0 : ∀ w' u, RSet TT TT w' u (rowP 3 (fun i => idP [1, 0, 1] i) 0) → _ := fun w' u hu => len_s (B := TT) (A := TT) (.inr hu)
  have hl1 : ∀ w' u, RSet TT TT w' u (rowP 3 (fun i => idP [1, 0, 1] i) 1) → _ := fun w' u hu => len_s (B := TT) (A := TT) (.inr hu)
  have hl2 : ∀ w' u, RSet TT TT w' u (rowP 3 (fun i => idP [1, 0, 1] i) 2) → _ := fun w' u hu => len_s (B := TT) (A := TT) (.inr hu)
  have hh : ∀ w' u, RSet TT TT w' u (rowP 3 (fun i => idP [1, 0, 1] i) 1) → _ := fun w' u hu => has_s (B := TT) (A := TT) (x := 2) (.inr hu) (by decide)
  rw [c0] at hl0; rw [c1] at hl1; rw [c2] at hl2; rw [c3] at hh
  refine Fc.of (args := []) Tryz.func22 rfl rfl Tryz.ntmps22 (Nat.le_of_ble_eq_true rfl) ?_
  repeat' (first|(refine oLA ?_;first|refine LA_pass rfl ?_|(refine oD 6 ?_; refine LA_three rfl atA rfl rfl rfl rfl rfl rfl ?_)|(refine oD 11 ?_; refine LA_oneO rfl atA rfl rfl ?_)|refine wOp ?_|(refine wCm ?_ ?_<;>intro hc)|(refine oCv ?_;first|(refine oD 7 ?_; refine oC 10 ?_; refine LA_call2 (f := 10) rfl rfl rfl rfl  (.tup2 (.pred (ixP tIv 3 fun i => idP [1, 0, 1] i)) (.val (.int .i64 0))) (by intro u1 u2 w e hu1 hu2; (try obtain rfl : u1 = _ := hu1); (try obtain rfl : u2 = _ := hu2); exact axA (ids := [1, 0, 1]) (many := 3) (Own.slC hu1) (hT.ext e) (by decide)) ?_)|(refine oD 12 ?_; refine oC 10 ?_; refine LA_call2 (f := 10) rfl rfl rfl rfl  (.tup2 (.val (.pointer none)) (.val (.int .i64 2))) (by intro u1 u2 w e hu1 hu2; (try obtain rfl : u1 = _ := hu1); (try obtain rfl : u2 = _ := hu2); exact ayA (ids := [3]) (many := 3) (Own.slC hu1) (hT.ext e) (by decide)) ?_)|(refine oC 26 ?_; refine LA_call1 (f := 26) rfl rfl rfl  (.val (.int .i64 (3 : Nat))) (by intro u1 w e hu1; (try obtain rfl : u1 = _ := hu1); exact a9A (.inr hu1)) ?_)|(refine oD 28 ?_; refine oC 15 ?_; refine LA_call2 (f := 15) rfl rfl rfl rfl  (.pred (rsP TT TT (rowP 3 (fun i => idP [1, 0, 1] i) 0))) (by intro u1 u2 w e hu1 hu2; (try obtain rfl : u1 = _ := hu1); (try obtain rfl : u2 = _ := hu2); exact a3A (.inr hu1) (by decide) tt 0) ?_)|(refine oD 34 ?_; refine oC 15 ?_; refine LA_call2 (f := 15) rfl rfl rfl rfl  (.pred (rsP TT TT (rowP 3 (fun i => idP [1, 0, 1] i) 1))) (by intro u1 u2 w e hu1 hu2; (try obtain rfl : u1 = _ := hu1); (try obtain rfl : u2 = _ := hu2); exact a3A (.inr hu1) (by decide) tt 1) ?_)|(refine oD 40 ?_; refine oC 15 ?_; refine LA_call2 (f := 15) rfl rfl rfl rfl  (.pred (rsP TT TT (rowP 3 (fun i => idP [1, 0, 1] i) 2))) (by intro u1 u2 w e hu1 hu2; (try obtain rfl : u1 = _ := hu1); (try obtain rfl : u2 = _ := hu2); exact a3A (.inr hu1) (by decide) tt 2) ?_)|(refine oD 46 ?_; refine oC 15 ?_; refine LA_call2 (f := 15) rfl rfl rfl rfl  (.pred (rsP TT TT (rowP 3 (fun i => idP [1, 0, 1] i) 1))) (by intro u1 u2 w e hu1 hu2; (try obtain rfl : u1 = _ := hu1); (try obtain rfl : u2 = _ := hu2); exact a3A (.inr hu1) (by decide) tt 1) ?_)|(refine oD 29 ?_; refine oC 23 ?_; refine LA_call1 (f := 23) rfl rfl rfl  (.val (.int .i64 (1 : Nat))) (by intro u1 w e hu1; (try obtain rfl : u1 = _ := hu1); exact hl0 _ _ hu1) ?_)|(refine oD 35 ?_; refine oC 23 ?_; refine LA_call1 (f := 23) rfl rfl rfl  (.val (.int .i64 (2 : Nat))) (by intro u1 w e hu1; (try obtain rfl : u1 = _ := hu1); exact hl1 _ _ hu1) ?_)|(refine oD 41 ?_; refine oC 23 ?_; refine LA_call1 (f := 23) rfl rfl rfl  (.val (.int .i64 (0 : Nat))) (by intro u1 w e hu1; (try obtain rfl : u1 = _ := hu1); exact hl2 _ _ hu1) ?_)|(refine oC 33 ?_; refine LA_call2 (f := 33) rfl rfl rfl rfl  (.val (.bool true)) (by intro u1 u2 w e hu1 hu2; (try obtain rfl : u1 = _ := hu1); (try obtain rfl : u2 = _ := hu2); exact hh _ _ hu1) ?_))|(refine wNl hK ?_;clear hK K))|refine wG ?_|(refine wCR ?_;intro K hK)|fail)
  all_goals skip
  all_goals exact PX_retE rfl rfl (Ext.refl _) rfl
end Go.Proofs.YtadpcgjohleglaaGreatDoor
end
