import Derived.Laws.StructEq
import Derived.Test.YtadpcgjohleglaaGreatDoorM12
import Derived.Test.YtadpcgjohleglaaGreatDoorM13
section
set_option linter.unusedSimpArgs false
set_option linter.unusedVariables false
set_option maxRecDepth 3000
namespace Go.Proofs.YtadpcgjohleglaaGreatDoor
open Go.LA Go.ArrP Go.RowKit
variable {A : Nat → Prop}
theorem arrrank_c {w : World} {va vw vr : Value} {kd : Int} {p : Nat → Bool} {x : Nat} (h : SlI .u16 w va (listS p 65536)) (hx : x ≤ 65536) : Fc Tryz.prog 87 #[.agg #[.int .u8 kd, va, vw, vr], .int .i64 x] w (Ret w (.val (.int .i64 (cnt p x)))) := by
  have hb := bsS_listS p x hx
  have hl := listS_len p 65536
  have hn : (listS p 65536).length ≤ 4611686018427387903 := by rw [listS_len]; have := cnt_le p 65536; omega
  obtain ⟨n, hnn⟩ : ∃ n, n = (listS p 65536).length := ⟨_, rfl⟩
  by_cases h0 : x = 0
  · subst h0
    refine Fc.of (args := [_, _]) Tryz.func87 rfl rfl Tryz.ntmps87 (Nat.le_of_ble_eq_true rfl) ?_
    repeat' (first|(refine oLA ?_;first|refine LA_pass rfl ?_|refine wRcv ?_|refine wOp ?_|(refine wCm ?_ ?_<;>intro hc)|(refine wNl hK ?_;clear hK K))|refine wG ?_|(refine wCR ?_;intro K hK)|fail)
    all_goals skip
    all_goals exact PX_retE rfl rfl (Ext.refl _) rfl
  by_cases h1 : x = 65536
  · subst h1
    refine Fc.of (args := [_, _]) Tryz.func87 rfl rfl Tryz.ntmps87 (Nat.le_of_ble_eq_true rfl) ?_
    repeat' (first|(refine oLA ?_;first|refine LA_pass rfl ?_|refine wRcv ?_|(refine oLen ?_; refine LA_len rfl _ rfl rfl (by exact (HasI.val h).c) ?_)|refine wOp ?_|(refine wCm ?_ ?_<;>intro hc)|(refine wNl hK ?_;clear hK K))|refine wG ?_|(refine wCR ?_;intro K hK)|fail)
    all_goals skip
    all_goals exact PX_retE rfl rfl (Ext.refl _) (by rw [hl])
  · have q0 : True := trivial
    refine Fc.of (args := [_, _]) Tryz.func87 rfl rfl Tryz.ntmps87 (Nat.le_of_ble_eq_true rfl) ?_
    repeat' (first|(refine oLA ?_;first|refine LA_pass rfl ?_|refine wRcv ?_|refine wOp ?_|(refine wCm ?_ ?_<;>intro hc)|(refine oCv ?_;first|(refine oC 133 ?_; refine LA_call2 (f := 133) rfl rfl rfl rfl  (.tup2 (.val (.int .i64 (bsS (listS p 65536) x))) (.val (.bool (foundS (listS p 65536) x)))) (by intro u1 u2 w e hu1 hu2; (try obtain rfl : u1 = _ := hu1); (try obtain rfl : u2 = _ := hu2); exact find_c _ _ (listS p 65536) x (h.ext e) hn) ?_))|(refine wNl hK ?_;clear hK K))|refine wG ?_|(refine wCR ?_;intro K hK)|fail)
    all_goals skip
    all_goals exact PX_retE rfl rfl (Ext.refl _) (by rw [hb])
theorem wrdrank_c {w : World} {va vw vr : Value} {kd : Int} {p : Nat → Bool} {x : Nat} (h : SlI .u64 w vw (wordsOf p)) (hx : x ≤ 65536) : Fc Tryz.prog 88 #[.agg #[.int .u8 kd, va, vw, vr], .int .i64 x] w (Ret w (.val (.int .i64 (cnt p x)))) := by
  refine Fc.of (args := [_, _]) Tryz.func88 rfl rfl Tryz.ntmps88 (Nat.le_of_ble_eq_true rfl) ?_
  repeat' (first|(refine oLA ?_;first|refine LA_pass rfl ?_|refine wRcv ?_|refine wOp ?_|(refine wCm ?_ ?_<;>intro hc)|(refine oCv ?_;first|(refine oC 134 ?_; refine LA_call2 (f := 134) rfl rfl rfl rfl  (.val (.int .i64 (cnt p x))) (by intro u1 u2 w e hu1 hu2; (try obtain rfl : u1 = _ := hu1); (try obtain rfl : u2 = _ := hu2); exact ret_eq (by rw [show (min (max (x : Int) 0) 65536).toNat = x by omega]) (wrankP _ _ p (h.ext e) x (by omega))) ?_))|(refine wNl hK ?_;clear hK K))|refine wG ?_|(refine wCR ?_;intro K hK)|fail)
  all_goals skip
  all_goals exact PX_retE rfl rfl (Ext.refl _) rfl
theorem runrank_c {w : World} {va vw vr : Value} {kd : Int} {p : Nat → Bool} {x : Nat} (h : SlR w vr (runsL p)) (hx : x ≤ 65536) : Fc Tryz.prog 89 #[.agg #[.int .u8 kd, va, vw, vr], .int .i64 x] w (Ret w (.val (.int .i64 (cnt p x)))) := by
  have hr : rankR (runsL p) x = cnt p x := by rw [show rankR (runsL p) x = _ from rank_opn p x 65536, show (min (max (x : Int) 0) (65536 : Nat)).toNat = x by omega]
  have hn : (runsL p).length ≤ 70000 := by have := runsL_len p; omega
  refine Fc.of (args := [_, _]) Tryz.func89 rfl rfl Tryz.ntmps89 (Nat.le_of_ble_eq_true rfl) ?_
  repeat' (first|(refine oLA ?_;first|refine LA_pass rfl ?_|refine wRcv ?_|refine wOp ?_|(refine wCm ?_ ?_<;>intro hc)|(refine oCv ?_;first|(refine oC 135 ?_; refine LA_call2 (f := 135) rfl rfl rfl rfl  (.val (.int .i64 (cnt p x))) (by intro u1 u2 w e hu1 hu2; (try obtain rfl : u1 = _ := hu1); (try obtain rfl : u2 = _ := hu2); exact ret_eq (by rw [hr]) (rrankR_c _ _ (runsL p) x (h.ext e) (runs_u16 p) hn (by omega))) ?_))|(refine wNl hK ?_;clear hK K))|refine wG ?_|(refine wCR ?_;intro K hK)|fail)
  all_goals skip
  all_goals exact PX_retE rfl rfl (Ext.refl _) rfl
theorem rank_c {w : World} {v : Value} {p : Nat → Bool} {kk : Int} {x : Nat} (h : Cn A w v p kk) (hx : x ≤ 65536) : Fc Tryz.prog 51 #[v, .int .i64 x] w (Ret w (.val (.int .i64 (cnt p x)))) := by
  have hk : ∀ w', Ext w w' → _ := fun w' e => kind_c (h.ext e)
  obtain ⟨hp, ⟨rfl, kd, va, hkd, rfl, ho⟩ | ⟨rfl, vw, rfl, ho⟩ | ⟨rfl, vr, rfl, ho⟩⟩ := h
  · skip
    refine Fc.of (args := [_, _]) Tryz.func51 rfl rfl Tryz.ntmps51 (Nat.le_of_ble_eq_true rfl) ?_
    repeat' (first|(refine oLA ?_;first|refine LA_pass rfl ?_|refine wRcv ?_|refine LA_build3 (c := .agg #[.nilFunc, .func (.func 87) #[] #[], .func (.func 88) #[] #[], .func (.func 89) #[] #[]]) rfl rfl rfl rfl (fun _ => by kernel_rfl) ?_|(refine LA_indexA 1 (c := .func (.func 87) #[] #[]) rfl rfl (fun _ => rfl) rfl rfl rfl (by decide) (fun _ => by kernel_rfl) ?_)|refine wOp ?_|(refine wCm ?_ ?_<;>intro hc)|(refine oCv ?_;first|(refine oC 76 ?_; refine LA_call1 (f := 76) rfl rfl rfl _ (by intro u1 w' e hu1; obtain rfl : u1 = _ := hu1; exact hk w' e) ?_)|(refine LA_call2 (f := 87) rfl rfl rfl rfl (.val (.int .i64 (cnt p x))) (by intro u1 u2 w' e hu1 hu2; obtain rfl : u1 = _ := hu1; obtain rfl : u2 = _ := hu2;exact arrrank_c (ho.ext e).slI hx) ?_))|(refine wNl hK ?_;clear hK K))|refine wG ?_|(refine wCR ?_;intro K hK)|fail)
    all_goals skip
    all_goals exact PX_retE rfl rfl (Ext.refl _) rfl
  · skip
    refine Fc.of (args := [_, _]) Tryz.func51 rfl rfl Tryz.ntmps51 (Nat.le_of_ble_eq_true rfl) ?_
    repeat' (first|(refine oLA ?_;first|refine LA_pass rfl ?_|refine wRcv ?_|refine LA_build3 (c := .agg #[.nilFunc, .func (.func 87) #[] #[], .func (.func 88) #[] #[], .func (.func 89) #[] #[]]) rfl rfl rfl rfl (fun _ => by kernel_rfl) ?_|(refine LA_indexA 2 (c := .func (.func 88) #[] #[]) rfl rfl (fun _ => rfl) rfl rfl rfl (by decide) (fun _ => by kernel_rfl) ?_)|refine wOp ?_|(refine wCm ?_ ?_<;>intro hc)|(refine oCv ?_;first|(refine oC 76 ?_; refine LA_call1 (f := 76) rfl rfl rfl _ (by intro u1 w' e hu1; obtain rfl : u1 = _ := hu1; exact hk w' e) ?_)|(refine LA_call2 (f := 88) rfl rfl rfl rfl (.val (.int .i64 (cnt p x))) (by intro u1 u2 w' e hu1 hu2; obtain rfl : u1 = _ := hu1; obtain rfl : u2 = _ := hu2;exact wrdrank_c (ho.ext e).slI hx) ?_))|(refine wNl hK ?_;clear hK K))|refine wG ?_|(refine wCR ?_;intro K hK)|fail)
    all_goals skip
    all_goals exact PX_retE rfl rfl (Ext.refl _) rfl
  · skip
    refine Fc.of (args := [_, _]) Tryz.func51 rfl rfl Tryz.ntmps51 (Nat.le_of_ble_eq_true rfl) ?_
    repeat' (first|(refine oLA ?_;first|refine LA_pass rfl ?_|refine wRcv ?_|refine LA_build3 (c := .agg #[.nilFunc, .func (.func 87) #[] #[], .func (.func 88) #[] #[], .func (.func 89) #[] #[]]) rfl rfl rfl rfl (fun _ => by kernel_rfl) ?_|(refine LA_indexA 3 (c := .func (.func 89) #[] #[]) rfl rfl (fun _ => rfl) rfl rfl rfl (by decide) (fun _ => by kernel_rfl) ?_)|refine wOp ?_|(refine wCm ?_ ?_<;>intro hc)|(refine oCv ?_;first|(refine oC 76 ?_; refine LA_call1 (f := 76) rfl rfl rfl _ (by intro u1 w' e hu1; obtain rfl : u1 = _ := hu1; exact hk w' e) ?_)|(refine LA_call2 (f := 89) rfl rfl rfl rfl (.val (.int .i64 (cnt p x))) (by intro u1 u2 w' e hu1 hu2; obtain rfl : u1 = _ := hu1; obtain rfl : u2 = _ := hu2;exact runrank_c (ho.ext e).slR hx) ?_))|(refine wNl hK ?_;clear hK K))|refine wG ?_|(refine wCR ?_;intro K hK)|fail)
    all_goals skip
    all_goals exact PX_retE rfl rfl (Ext.refl _) rfl
end Go.Proofs.YtadpcgjohleglaaGreatDoor
end
section
set_option linter.unusedSimpArgs false
set_option linter.unusedVariables false
set_option maxRecDepth 3000
namespace Go.Proofs.YtadpcgjohleglaaGreatDoor
open Go.LA Go.ArrP Go.RowKit
theorem el_cct : El Tryz.prog 72 80 (.agg #[.int .u8 0, .slice none 0 0, .slice none 0 0, .slice none 0 0]) 4 80 := ⟨rfl, rfl, rfl, by decide⟩
theorem clone_cct (w : World) (v : Value) (n : Nat) (cs : List Value) (h : SlC w v n 4 cs) (h1 : ∀ u ∈ cs, u.oneCell' = true) (hb : n * 80 ≤ 140737488355328) : Fc Tryz.prog 72 #[v] w (Ret w (.pred (ownC w.heap.size 80 4 n cs))) := by
  obtain ⟨h0, a, cap, rfl, hc, hm, hn, hcs⟩ := id h
  have hlen := h.len
  cases a with
  | none =>
    obtain rfl := hn rfl
    obtain rfl : n = 0 := by omega
    obtain rfl : cs = [] := List.eq_nil_of_length_eq_zero (by omega)
    refine Fc.of (args := [_]) Tryz.func72 rfl rfl Tryz.ntmps72 (Nat.le_of_ble_eq_true rfl) ?_
    repeat' (first|(refine oLA ?_;first|refine LA_pass rfl ?_|refine LA_binV (c := .bool true) rfl rfl rfl (fun _ => rfl) ?_|refine wOp ?_|(refine wCm ?_ ?_<;>intro hc)|(refine wNl hK ?_;clear hK K))|refine wG ?_|(refine wCR ?_;intro K hK)|(refine oPX ?_;first|exact PX_retP rfl rfl (Ext.refl _) (fun u w2 e2 hu => by obtain rfl : u = _ := hu; exact Own.nil))|fail)
  | some a =>
    refine Fc.of (args := [_]) Tryz.func72 rfl rfl Tryz.ntmps72 (Nat.le_of_ble_eq_true rfl) ?_
    repeat' (first|(refine oLA ?_;first|refine LA_pass rfl ?_|refine LA_binV (c := .bool false) rfl rfl rfl (fun _ => rfl) ?_|refine LA_lit0 80 (s := 4) rfl (fun _ => by kernel_rfl) ?_|(refine LA_stop (hK _ _ (LX_pick 5 rfl (fun v5 w5 e5 h5 => ?_))); clear hK K; have h6 := h.ext e5; have ho : Own w.heap.size _ _ w5 v5 0 [] := h5; refine LX_la (by kernel_rfl) (fun K hK => ?_))|(refine LA_stop (hK _ _ (LX_append rfl (by decide) el_cct rfl ho rfl (HasC.val h6) h1 (by rw [Nat.zero_add]; unfold maxLen; omega) (by rw [Nat.zero_add]; exact hb) e5.size (fun v' w2 w3 he2 ho3 hg3 => ?_))); clear hK K; dsimp only [vals]; refine LX_la (by kernel_rfl) (fun K hK => ?_))|refine wOp ?_|(refine wCm ?_ ?_<;>intro hc)|(refine wNl hK ?_;clear hK K))|refine wG ?_|(refine wCR ?_;intro K hK)|fail)
    exact PX_retP rfl rfl ((e5.trans he2).grown hg3 (fun q hq => (Own.lt ho q hq).1)) (fun u w4 e4 hu => by
      obtain rfl : u = _ := hu
      have h9 : Own w.heap.size 80 4 w3 u n cs := by simpa using ho3
      exact h9.ext e4)
abbrev tS : Nat := 74
abbrev tK : Nat := 76
abbrev Qd := Int × Value × Value × Value
def qv (q : Qd) : Value := .agg #[.int .u8 q.1, q.2.1, q.2.2.1, q.2.2.2]
def qcs (q : Qd) : List Value := [.int .u8 q.1, q.2.1, q.2.2.1, q.2.2.2]
def q0 : Qd := (0, nilS, nilS, nilS)
def cellsQ : List Qd → List Value
  | [] => []
  | q :: r => .int .u8 q.1 :: q.2.1 :: q.2.2.1 :: q.2.2.2 :: cellsQ r
theorem cellsQ_app : ∀ a b, cellsQ (a ++ b) = cellsQ a ++ cellsQ b
  | [], b => rfl
  | x :: a, b => by simp only [List.cons_append, cellsQ, cellsQ_app a b]
theorem cellsQ_at : ∀ (a : List Qd) (j : Nat), j < a.length → ((cellsQ a).drop (j * 4)).take 4 = qcs (a.getD j q0)
  | [], j, h => by simp at h
  | x :: a, 0, _ => rfl
  | x :: a, j + 1, h => by
    have ih := cellsQ_at a j (by simpa using h)
    rw [show (j + 1) * 4 = j * 4 + 4 by omega]
    exact ih
theorem cellsQ_mem : ∀ (a : List Qd), ∀ u ∈ cellsQ a, ∃ j, j < a.length ∧ u ∈ qcs (a.getD j q0)
  | [], u, h => by cases h
  | x :: a, u, h => by
    have h' : u ∈ qcs x ++ cellsQ a := h
    rcases List.mem_append.1 h' with h1 | h1
    · exact ⟨0, by simp, h1⟩
    · obtain ⟨j, h2, h3⟩ := cellsQ_mem a u h1
      exact ⟨j + 1, by simpa using h2, h3⟩
theorem Cn.qd {A : Nat → Prop} {w : World} {v : Value} {p : Nat → Bool} {kk : Int} (h : Cn A w v p kk) : ∃ q : Qd, v = qv q ∧ (∀ u ∈ qcs q, u.oneCell' = true) := by
  obtain ⟨kd, va, vw, vr, rfl, -, -, -, -, -, -, h1⟩ := h.parts
  exact ⟨(kd, va, vw, vr), rfl, h1⟩
theorem Cn.mono {A A' : Nat → Prop} {w : World} {v : Value} {p : Nat → Bool} {kk : Int} (h : Cn A w v p kk) (hA : ∀ k, k < w.heap.size → A k → A' k) : Cn A' w v p kk := by
  obtain ⟨hp, ⟨h1, kd, va, h2, h3, h4⟩ | h | h⟩ := h
  · exact ⟨hp, .inl ⟨h1, kd, va, h2, h3, h4.1, fun b hb => hA b (Own.lt h4.1 b hb).2 (h4.2 b hb)⟩⟩
  · exact ⟨hp, .inr (.inl h)⟩
  · exact ⟨hp, .inr (.inr h)⟩
def Plain (A R : Nat → Prop) (w : World) : Prop := ∀ k, R k → ∃ cur e j, w.heap[k]? = some (.cells cur e j) ∧ 36 ≠ e ∧ 114 ≠ e ∧ (A k → 76 ≠ e)
theorem Cn.fr {A R : Nat → Prop} {w w' : World} {v : Value} {p : Nat → Bool} {kk : Int} (h : Cn A w v p kk) (hf : Fr R w w') (hR : Plain A R w) : Cn A w' v p kk := by
  obtain ⟨hp, ⟨h1, kd, va, h2, h3, h4⟩ | ⟨h1, vw, h3, h4⟩ | ⟨h1, vr, h3, h4⟩⟩ := h
  · refine ⟨hp, .inl ⟨h1, kd, va, h2, h3, hf.own h4.1 (fun k hk hr => ?_), h4.2⟩⟩
    obtain ⟨cur, e, j, hb, ne1, ne2, ne3⟩ := hR k hr
    exact Own.apart h4.1 hb (ne3 (h4.2 k hk)) hk
  · refine ⟨hp, .inr (.inl ⟨h1, vw, h3, hf.own h4 (fun k hk hr => ?_)⟩)⟩
    obtain ⟨cur, e, j, hb, ne1, ne2, ne3⟩ := hR k hr
    exact Own.apart h4 hb ne1 hk
  · refine ⟨hp, .inr (.inr ⟨h1, vr, h3, hf.own h4 (fun k hk hr => ?_)⟩)⟩
    obtain ⟨cur, e, j, hb, ne1, ne2, ne3⟩ := hR k hr
    exact Own.apart h4 hb ne2 hk
structure RS (A : Nat → Prop) (w : World) (b : Nat) (kv lv : Value) (p : Nat → Bool) : Prop where
  hb : w.heap[b]? = some (.cells #[kv, lv] tS (0, 0))
  hk : OwnI 0 tK .u16 w kv (keysL p)
  top : ∀ x, TOP ≤ x → p x = false
  hl : ∃ Q : List Qd, Q.length = nk p ∧ Own 0 tC 4 w lv (nk p) (cellsQ Q) ∧ ∀ i, i < nk p → Cn (fun k => A k ∧ kv.ownBlock ≠ some k) w (qv (Q.getD i q0)) (blk p (kp p i)) (kindP (blk p (kp p i)))
def onw (b : Nat) (kv lv : Value) (k : Nat) : Prop := k = b ∨ kv.ownBlock = some k ∨ lv.ownBlock = some k
theorem RS.ext {A : Nat → Prop} {w w' : World} {b : Nat} {kv lv : Value} {p : Nat → Bool} (h : RS A w b kv lv p) (e : Ext w w') : RS A w' b kv lv p := by
  obtain ⟨Q, h1, h2, h3⟩ := h.hl
  exact ⟨e.block h.hb, h.hk.ext e, h.top, Q, h1, h2.ext e, fun i hi => (h3 i hi).ext e⟩
theorem own_type {base e s n : Nat} {w : World} {v : Value} {cs : List Value} (h : Own base e s w v n cs) {k : Nat} (hk : v.ownBlock = some k) : ∃ cur, w.heap[k]? = some (.cells cur e (0, 0)) := by
  rcases h.2 with ⟨h1, h0⟩ | ⟨gb, cap, cur, rfl, hgb, hg, -⟩
  · rw [h1] at hk; cases hk
  · cases hk; exact ⟨cur, hg⟩
theorem RS.lt {A : Nat → Prop} {w : World} {b : Nat} {kv lv : Value} {p : Nat → Bool} (h : RS A w b kv lv p) {k : Nat} (hk : onw b kv lv k) : k < w.heap.size := by
  obtain ⟨Q, h1, h2, h3⟩ := h.hl
  rcases hk with rfl | hk | hk
  · exact blk_lt h.hb
  · exact (Own.lt h.hk k hk).2
  · exact (Own.lt h2 k hk).2
theorem RS.plainA {A A' : Nat → Prop} {w : World} {b : Nat} {kv lv : Value} {p : Nat → Bool} (h : RS A w b kv lv p) (hA : ∀ k, kv.ownBlock = some k → ¬ A' k) : Plain A' (onw b kv lv) w := by
  obtain ⟨Q, h1, h2, h3⟩ := h.hl
  rintro k (rfl | hk | hk)
  · exact ⟨_, _, _, h.hb, by decide, by decide, fun _ => by decide⟩
  · obtain ⟨cur, hc⟩ := own_type h.hk hk
    exact ⟨_, _, _, hc, by decide, by decide, fun ha => absurd ha (hA k hk)⟩
  · obtain ⟨cur, hc⟩ := own_type h2 hk
    exact ⟨_, _, _, hc, by decide, by decide, fun _ => by decide⟩
theorem Plain.mono {A A' R : Nat → Prop} {w : World} (h : Plain A R w) (hA : ∀ k, A' k → A k) : Plain A' R w := fun k hk => by
  obtain ⟨cur, e, j, h1, h2, h3, h4⟩ := h k hk
  exact ⟨cur, e, j, h1, h2, h3, fun ha => h4 (hA k ha)⟩
theorem RS.mono {A A' : Nat → Prop} {w : World} {b : Nat} {kv lv : Value} {p : Nat → Bool} (h : RS A w b kv lv p) (hA : ∀ k, k < w.heap.size → A k → kv.ownBlock ≠ some k → A' k) : RS A' w b kv lv p := by
  obtain ⟨Q, h1, h2, h3⟩ := h.hl
  exact ⟨h.hb, h.hk, h.top, Q, h1, h2, fun i hi => (h3 i hi).mono fun k hk ha => ⟨hA k hk ha.1 ha.2, ha.2⟩⟩
theorem RS.fr {A R : Nat → Prop} {w w' : World} {b : Nat} {kv lv : Value} {p : Nat → Bool} (h : RS A w b kv lv p) (hf : Fr R w w') (hR : Plain A R w) (hB : ∀ k, onw b kv lv k → ¬ R k) : RS A w' b kv lv p := by
  obtain ⟨Q, h1, h2, h3⟩ := h.hl
  exact ⟨hf.at h.hb (hB b (.inl rfl)), hf.own h.hk (fun k hk => hB k (.inr (.inl hk))), h.top, Q, h1, hf.own h2 (fun k hk => hB k (.inr (.inr hk))), fun i hi => (h3 i hi).fr hf (hR.mono fun k hk => hk.1)⟩
def RSet (B A : Nat → Prop) (w : World) (v : Value) (p : Nat → Bool) : Prop := ∃ b kv lv, v = .pointer (some ⟨b, 0, none⟩) ∧ RS A w b kv lv p ∧ ∀ k, onw b kv lv k → B k
theorem RSet.ext {B A : Nat → Prop} {w w' : World} {v : Value} {p : Nat → Bool} (h : RSet B A w v p) (e : Ext w w') : RSet B A w' v p := by
  obtain ⟨b, kv, lv, h1, h2, h3⟩ := h
  exact ⟨b, kv, lv, h1, h2.ext e, h3⟩
def rsP (B A : Nat → Prop) (p : Nat → Bool) : AV := ⟨fun v w => RSet B A w v p, fun _ _ _ e h => h.ext e⟩
theorem RSet.mono {B A B' A' : Nat → Prop} {w : World} {v : Value} {p : Nat → Bool} (h : RSet B A w v p) (hB : ∀ k, k < w.heap.size → B k → B' k) (hA : ∀ k, k < w.heap.size → A k → A' k) : RSet B' A' w v p := by
  obtain ⟨b, kv, lv, h1, h2, h3⟩ := h
  exact ⟨b, kv, lv, h1, h2.mono fun k hk ha _ => hA k hk ha, fun k hk => hB k (h2.lt hk) (h3 k hk)⟩
theorem RSet.tt {B A : Nat → Prop} {w : World} {v : Value} {p : Nat → Bool} (h : RSet B A w v p) : RSet TT TT w v p := h.mono (fun _ _ _ => trivial) (fun _ _ _ => trivial)
theorem RSet.fr {B A R : Nat → Prop} {w w' : World} {v : Value} {p : Nat → Bool} (h : RSet B A w v p) (hf : Fr R w w') (hR : Plain A R w) (hB : ∀ k, B k → ¬ R k) : RSet B A w' v p := by
  obtain ⟨b, kv, lv, h1, h2, h3⟩ := h
  exact ⟨b, kv, lv, h1, h2.fr hf hR (fun k hk => hB k (h3 k hk)), h3⟩
def NSet (B A : Nat → Prop) (w : World) (v : Value) (p : Nat → Bool) : Prop := (v = .pointer none ∧ p = fun _ => false) ∨ RSet B A w v p
theorem NSet.ext {B A : Nat → Prop} {w w' : World} {v : Value} {p : Nat → Bool} (h : NSet B A w v p) (e : Ext w w') : NSet B A w' v p := h.imp id (fun h => h.ext e)
theorem RSet.n {B A : Nat → Prop} {w : World} {v : Value} {p : Nat → Bool} (h : RSet B A w v p) : NSet B A w v p := .inr h
theorem ne_none (k : Nat) : ne (fun _ => false) k = false := by
  cases h : ne (fun _ => false) k
  · rfl
  · obtain ⟨i, _, h2⟩ := ne_iff.1 h; cases h2
theorem nk_none : nk (fun _ => false) = 0 := cnt_zero _ (fun i _ => ne_none i)
theorem keys_none : keysL (fun _ => false) = [] := List.eq_nil_of_length_eq_zero (by rw [keysL_len, nk_none])
theorem RS.turned {A : Nat → Prop} {w w' : World} {b : Nat} {kv lv kv' lv' : Value} {p p' : Nat → Bool} {Q' : List Qd} (hS : RS A w b kv lv p) (hf : Fr (onw b kv lv) w w') (hb : w'.heap[b]? = some (.cells #[kv', lv'] tS (0, 0))) (hk : OwnI 0 tK .u16 w' kv' (keysL p'))
    (hn : Q'.length = nk p') (hl : Own 0 tC 4 w' lv' (nk p') (cellsQ Q')) (htop : ∀ x, TOP ≤ x → p' x = false) (hloc : LocR w kv kv')
    (hC : ∀ i, i < nk p' → Cn (fun k => A k ∧ kv.ownBlock ≠ some k) w (qv (Q'.getD i q0)) (blk p' (kp p' i)) (kindP (blk p' (kp p' i)))) : RS A w' b kv' lv' p' := by
  refine ⟨hb, hk, htop, Q', hn, hl, fun i hi => ?_⟩
  refine Cn.fr ((hC i hi).mono (A' := fun k => A k ∧ kv'.ownBlock ≠ some k ∧ kv.ownBlock ≠ some k) fun k hlt ha => ⟨ha.1, fun h => ?_, ha.2⟩) hf (hS.plainA fun k h1 h2 => h2.2.2 h1) |>.mono fun k _ h => ⟨h.1, h.2.1⟩
  rcases hloc with h' | h'
  · exact ha.2 (h' ▸ h)
  · have := h' k h; omega
theorem RS.new {A : Nat → Prop} {w : World} {b : Nat} (hb : w.heap[b]? = some (.cells #[nilS, nilS] tS (0, 0))) : RS A w b nilS nilS (fun _ => false) :=
  ⟨hb, by rw [keys_none]; exact OwnI.nil, fun _ _ => rfl, [], by rw [nk_none]; rfl, by rw [nk_none]; exact Own.nil, fun i hi => by rw [nk_none] at hi; omega⟩
end Go.Proofs.YtadpcgjohleglaaGreatDoor
end
section
set_option linter.unusedSimpArgs false
set_option linter.unusedVariables false
set_option maxRecDepth 3000
namespace Go.Proofs.YtadpcgjohleglaaGreatDoor
open Go.LA Go.ArrP Go.RowKit
section
variable {P : Program} {l : List Oper} {N : Nn} {wb : World} {K : List Oper → Env → Prop} {rest : List Oper} {E : Env}
variable {d : Tmp} {ty t t' : TypeId} {pos : String} {after : Array Edge} {g : Option (Nat × Bool)} {x y z : Operand} {k k' : IntKind}
theorem oNc (h : LA P l wb K (⟨some d, .nilCheck x, ty, pos, after, g⟩ :: rest) E) : LA P l wb K (⟨some d, .nilCheck x, ty, pos, after, g⟩ :: rest) E := h
theorem oEq {op : BinOp} (h : LA P l wb K (⟨some d, .binOp op 33 x y t', ty, pos, after, g⟩ :: rest) E) : LA P l wb K (⟨some d, .binOp op 33 x y t', ty, pos, after, g⟩ :: rest) E := h
end
variable {A B : Nat → Prop}
theorem new_c (w : World) (hB : Fsh B w) : Fc Tryz.prog 12 #[] w (Ret w (.pred (rsP B A (fun _ => false)))) := by
  refine Fc.of (args := []) Tryz.func12 rfl rfl Tryz.ntmps12 (Nat.le_of_ble_eq_true rfl) ?_
  repeat' (first|(refine oLA ?_;first|refine LA_pass rfl ?_|refine LA_build0 (c := .agg #[nilS, nilS]) rfl (fun _ => by kernel_rfl) ?_|refine LA_box rfl rfl ?_|refine wOp ?_|(refine wCm ?_ ?_<;>intro hc)|(refine wNl hK ?_;clear hK K))|refine wG ?_|(refine wCR ?_;intro K hK)|fail)
  all_goals skip
  refine PX_retP rfl rfl (Ext.refl _) (fun v w' e hv => ?_)
  obtain ⟨b, hb, rfl, hh⟩ := hv
  exact ⟨b, nilS, nilS, rfl, RS.new hh, fun k hk => by
    rcases hk with rfl | hk | hk
    · exact hB _ hb
    · cases hk
    · cases hk⟩
theorem find_s {w : World} {v : Value} {p : Nat → Bool} (h : NSet B A w v p) {k : Nat} (hk : k < 65536) : Fc Tryz.prog 59 #[v, .int .u16 k] w (Ret w (.tup2 (.val (.int .i64 (cnt (ne p) k))) (.val (.bool (ne p k))))) := by
  rcases h with ⟨rfl, rfl⟩ | ⟨b, kv, lv, rfl, hS, -⟩
  · rw [ne_none, cnt_zero k (fun i _ => ne_none i)]
    refine Fc.of (args := [_, _]) Tryz.func59 rfl rfl Tryz.ntmps59 (Nat.le_of_ble_eq_true rfl) ?_
    repeat' (first|(refine oLA ?_;first|refine LA_pass rfl ?_|(refine oEq ?_; refine LA_binV (c := .bool true) rfl rfl rfl (fun _ => rfl) ?_)|refine wOp ?_|(refine wCm ?_ ?_<;>intro hc)|(refine wNl hK ?_;clear hK K))|refine wG ?_|(refine wCR ?_;intro K hK)|fail)
    all_goals skip
    all_goals exact PX_retE2 rfl rfl rfl (Ext.refl _) rfl rfl
  · have hn : (keysL p).length ≤ 4611686018427387903 := by rw [keysL_len]; have := nk_le p; omega
    have hb : bsS (keysL p) (k : Int) = cnt (ne p) k := bsS_listS (ne p) k (by omega)
    have hf : foundS (keysL p) (k : Int) = ne p k := by
      rw [found_iff _ (keysL_inc p)]; exact memb_listS (ne p) hk
    refine Fc.of (args := [_, _]) Tryz.func59 rfl rfl Tryz.ntmps59 (Nat.le_of_ble_eq_true rfl) ?_
    repeat' (first|(refine oLA ?_;first|refine LA_pass rfl ?_|(refine oEq ?_; refine LA_binV (c := .bool false) rfl rfl rfl (fun _ => rfl) ?_)|(refine oNc ?_; refine LA_nilCheck rfl rfl ?_)|(refine oF 0 ?_; refine LA_fieldAddr (a' := ⟨b, 0, none⟩) rfl rfl (fun _ => rfl) ?_)|(refine oF 1 ?_; refine LA_fieldAddr (a' := ⟨b, 1, none⟩) rfl rfl (fun _ => rfl) ?_)|(refine oLt 71 ?_; refine LA_loadB (c := kv) rfl (fun _ => rfl) rfl hS.hb rfl ?_)|(refine oLt 72 ?_; refine LA_loadB (c := lv) rfl (fun _ => rfl) rfl hS.hb rfl ?_)|refine wOp ?_|(refine wCm ?_ ?_<;>intro hc)|(refine oCv ?_;first|(refine oC 105 ?_; refine LA_call2 (f := 105) rfl rfl rfl rfl  (.tup2 (.val (.int .i64 (bsS (keysL p) k))) (.val (.bool (foundS (keysL p) k)))) (by intro u1 u2 w e hu1 hu2; (try obtain rfl : u1 = _ := hu1); (try obtain rfl : u2 = _ := hu2); exact bs_c _ _ _ _ (hS.hk.ext e).slI hn) ?_))|(refine wNl hK ?_;clear hK K))|refine wG ?_|(refine wCR ?_;intro K hK)|fail)
    all_goals skip
    all_goals exact PX_retE2 rfl rfl rfl (Ext.refl _) (by rw [hb]) (by rw [hf])
theorem kind_none : kindP (fun _ => false) = 1 := by
  unfold kindP
  rw [cnt_zero (p := fun _ => false) 65536 (fun i _ => rfl), cnt_zero (p := startsS fun _ => false) 65536 (fun i _ => rfl)]; decide
theorem get_s {w : World} {v : Value} {p : Nat → Bool} (h : NSet B A w v p) {k : Nat} (hk : k < 65536) : Fc Tryz.prog 39 #[v, .int .u16 k] w (Ret w (.pred (cnP A (blk p k) (kindP (blk p k))))) := by
  have hf : ∀ w', Ext w w' → _ := fun w' e => find_s (h.ext e) hk
  cases hn : ne p k
  · rw [hn] at hf
    have h1 : kindP (blk p k) = 1 := by rw [blk_none hn]; exact kind_none
    rw [h1, blk_none hn]
    refine Fc.of (args := [_, _]) Tryz.func39 rfl rfl Tryz.ntmps39 (Nat.le_of_ble_eq_true rfl) ?_
    repeat' (first|(refine oLA ?_;first|refine LA_pass rfl ?_|(refine oAl ?_; refine LA_alloc rfl (fun _ => rfl) ?_)|refine LA_build0 (c := .agg #[.int .u8 0, nilS, nilS, nilS]) rfl (fun _ => by kernel_rfl) ?_|(refine LA_stop (hK _ _ (LX_put (φ := cnP A (fun _ => false) 1) (w0 := w) rfl rfl rfl lays_cn (fun v' w' e hv => by obtain rfl : v' = _ := hv; exact Cn.zero) rfl (fun _ => rfl) (Ext.refl _) (fun w' e' => ?_))); clear hK K)|refine wOp ?_|(refine wCm ?_ ?_<;>intro hc)|(refine oCv ?_;first|(refine oC 59 ?_; refine LA_call2 (f := 59) rfl rfl rfl rfl  (.tup2 (.val (.int .i64 (cnt (ne p) k))) (.val (.bool false))) (by intro u1 u2 w e hu1 hu2; (try obtain rfl : u1 = _ := hu1); (try obtain rfl : u2 = _ := hu2); exact hf _ e) ?_))|(refine wNl hK ?_;clear hK K))|refine wG ?_|(refine wCR ?_;intro K hK)|fail)
    all_goals skip
    all_goals exact PX_retC rfl rfl rfl rfl rfl (by assumption)
  · obtain ⟨i1, i2⟩ := kp_of hk hn
    obtain ⟨i, hi⟩ : ∃ i, i = cnt (ne p) k := ⟨_, rfl⟩
    rw [← hi] at i1 i2
    rw [hn] at hf
    rcases h with ⟨rfl, rfl⟩ | ⟨b, kv, lv, rfl, hS, -⟩
    · rw [ne_none] at hn; cases hn
    obtain ⟨Q, q1, q2, q3⟩ := hS.hl
    have hcn := q3 i i1
    rw [i2] at hcn
    replace hcn := hcn.mono (A' := A) (fun k _ h => h.1)
    have hat := cellsQ_at Q i (by omega)
    rw [← hi] at hf
    clear hi q3
    refine Fc.of (args := [_, _]) Tryz.func39 rfl rfl Tryz.ntmps39 (Nat.le_of_ble_eq_true rfl) ?_
    repeat' (first|(refine oLA ?_;first|refine LA_pass rfl ?_|(refine oAl ?_; refine LA_alloc rfl (fun _ => rfl) ?_)|(refine oNc ?_; refine LA_nilCheck rfl rfl ?_)|(refine oF 0 ?_; refine LA_fieldAddr (a' := ⟨b, 0, none⟩) rfl rfl (fun _ => rfl) ?_)|(refine oF 1 ?_; refine LA_fieldAddr (a' := ⟨b, 1, none⟩) rfl rfl (fun _ => rfl) ?_)|(refine oLt 71 ?_; refine LA_loadB (c := kv) rfl (fun _ => rfl) rfl hS.hb rfl ?_)|(refine oLt 72 ?_; refine LA_loadB (c := lv) rfl (fun _ => rfl) rfl hS.hb rfl ?_)|(refine oI ?_; refine LA_indexC (s := 4) rfl _ rfl (fun _ => rfl) rfl (HasC.ownV q2) rfl i rfl i1 ?_; rw [hat])|(refine oLd ?_; refine LA_loadC (cs := qcs _) rfl (fun _ => rfl) (fun _ => rfl) rfl ?_)|(refine LA_stop (hK _ _ (LX_put (φ := cnP A (blk p k) (kindP (blk p k))) (w0 := w) rfl rfl rfl lays_cn (fun v' w' e hv => by obtain rfl : v' = _ := hv; exact hcn.ext e) rfl (fun _ => rfl) (Ext.refl _) (fun w' e' => ?_))); clear hK K)|refine wOp ?_|(refine wCm ?_ ?_<;>intro hc)|(refine oCv ?_;first|(refine oC 59 ?_; refine LA_call2 (f := 59) rfl rfl rfl rfl  (.tup2 (.val (.int .i64 i)) (.val (.bool true))) (by intro u1 u2 w e hu1 hu2; (try obtain rfl : u1 = _ := hu1); (try obtain rfl : u2 = _ := hu2); exact hf _ e) ?_))|(refine wNl hK ?_;clear hK K))|refine wG ?_|(refine wCR ?_;intro K hK)|fail)
    all_goals skip
    all_goals exact PX_retC rfl rfl rfl rfl rfl (by assumption)
end Go.Proofs.YtadpcgjohleglaaGreatDoor
end
section
set_option linter.unusedSimpArgs false
set_option linter.unusedVariables false
set_option maxRecDepth 3000
namespace Go.Proofs.YtadpcgjohleglaaGreatDoor
open Go.LA Go.ArrP Go.RowKit
variable {A B : Nat → Prop}
theorem getD_set {α : Type} {d : α} {l : List α} {i j : Nat} {x : α} (h : i < l.length) : (l.set i x).getD j d = if j = i then x else l.getD j d := by
  rw [List.getD_eq_getElem?_getD, List.getD_eq_getElem?_getD, List.getElem?_set]
  by_cases e : j = i
  · subst e; simp [h]
  · simp [e, Ne.symm e]
theorem upd_top {p : Nat → Bool} {k : Nat} {q : Nat → Bool} (h : ∀ x, TOP ≤ x → p x = false) (hk : k < 65536) : ∀ x, TOP ≤ x → upd p k q x = false := fun x hx => by
  unfold upd; rw [if_neg (by rw [TOP_eq] at hx; omega)]; exact h x hx
theorem qv_inj {a b : Qd} (h : qv a = qv b) : a = b := by
  obtain ⟨a1, a2, a3, a4⟩ := a
  obtain ⟨b1, b2, b3, b4⟩ := b
  unfold qv at h
  simpa using h
def Mut (A : Nat → Prop) (w : World) (b : Nat) (kv lv : Value) (p' : Nat → Bool) (w' : World) : Prop := ∃ kv' lv', RS A w' b kv' lv' p' ∧ Fr (onw b kv lv) w w' ∧ LocR w kv kv' ∧ LocR w lv lv'
theorem RS.set {A : Nat → Prop} {w w' : World} {b : Nat} {kv lv : Value} {p : Nat → Bool} (hS : RS A w b kv lv p) {k : Nat} (hk : k < 65536) (hn : ne p k = true) {q : Nat → Bool} (hq : ∀ i, 65536 ≤ i → q i = false) (hq0 : 0 < cnt q 65536) {Q : List Qd} {qc : Qd} (q1 : Q.length = nk p)
    (q3 : ∀ i, i < nk p → Cn (fun k => A k ∧ kv.ownBlock ≠ some k) w (qv (Q.getD i q0)) (blk p (kp p i)) (kindP (blk p (kp p i)))) (hc : Cn (fun j => A j ∧ kv.ownBlock ≠ some j) w (qv qc) q (kindP q))
    (hf : Fr (onw b kv lv) w w') (hb : w'.heap[b]? = some (.cells #[kv, lv] tS (0, 0))) (hkk : OwnI 0 tK .u16 w' kv (keysL p)) (hl : Own 0 tC 4 w' lv (nk p) (cellsQ (Q.set (cnt (ne p) k) qc))) : Mut A w b kv lv (upd p k q) w' := by
  have hkeys := upd_keys p hq hq0 hn
  have hnk : nk (upd p k q) = nk p := by rw [← keysL_len, ← keysL_len, hkeys]
  obtain ⟨i1, i2⟩ := kp_of hk hn
  refine ⟨kv, lv, hS.turned (Q' := Q.set (cnt (ne p) k) qc) hf hb (by rw [hkeys]; exact hkk) (by rw [List.length_set, q1, hnk]) (by rw [hnk]; exact hl) (upd_top hS.top hk) LocR.refl (fun j hj => ?_), hf, LocR.refl, LocR.refl⟩
  rw [hnk] at hj
  rw [upd_kp' p hq hq0 hn, getD_set (by omega)]
  by_cases e : j = cnt (ne p) k
  · rw [if_pos e, e, i2, upd_blk p k hq]; exact hc
  · have hne : kp p j ≠ k := fun h => e (by rw [← h]; exact (kp_cnt (by omega)).symm)
    rw [if_neg e, upd_blk' p q hne]; exact q3 j hj
theorem slot_ne {A : Nat → Prop} {w : World} {b : Nat} {kv lv : Value} {p : Nat → Bool} (hS : RS A w b kv lv p) : kv.ownBlock ≠ some b ∧ lv.ownBlock ≠ some b ∧ ∀ k, kv.ownBlock = some k → lv.ownBlock ≠ some k := by
  obtain ⟨Q, h1, h2, h3⟩ := hS.hl
  refine ⟨Own.apart hS.hk hS.hb (by decide), Own.apart h2 hS.hb (by decide), fun k hk => ?_⟩
  obtain ⟨cur, hc⟩ := own_type hS.hk hk
  exact Own.apart h2 hc (by decide)
theorem own_cells {base e s n : Nat} {w : World} {v : Value} {cs : List Value} (h : Own base e s w v n cs) : v.cells = [v].toArray ∧ v.oneCell' = true := by
  rcases h.2 with ⟨rfl, _⟩ | ⟨g, cap, cur, rfl, _⟩
  · exact ⟨rfl, rfl⟩
  · exact ⟨rfl, rfl⟩
end Go.Proofs.YtadpcgjohleglaaGreatDoor
end
section
set_option linter.unusedSimpArgs false
set_option linter.unusedVariables false
set_option maxRecDepth 3000
namespace Go.Proofs.YtadpcgjohleglaaGreatDoor
open Go.LA Go.ArrP Go.RowKit
variable {A B : Nat → Prop}
theorem nset_top {w : World} {v : Value} {p : Nat → Bool} (h : NSet B A w v p) : ∀ x, TOP ≤ x → p x = false := by
  rcases h with ⟨rfl, rfl⟩ | ⟨b, kv, lv, rfl, hS, -⟩
  · exact fun _ _ => rfl
  · exact hS.top
structure Pts (A : Nat → Prop) (w : World) (v : Value) (p : Nat → Bool) (lv : Value) (Q : List Qd) : Prop where
  len : Q.length = nk p
  own : Own 0 tC 4 w lv (nk p) (cellsQ Q)
  cn : ∀ i, i < nk p → Cn A w (qv (Q.getD i q0)) (blk p (kp p i)) (kindP (blk p (kp p i)))
  set : 0 < nk p → ∃ b kv, v = .pointer (some ⟨b, 0, none⟩) ∧ w.heap[b]? = some (.cells #[kv, lv] tS (0, 0)) ∧ OwnI 0 tK .u16 w kv (keysL p)
theorem Pts.ext {w w' : World} {v : Value} {p : Nat → Bool} {lv : Value} {Q : List Qd} (h : Pts A w v p lv Q) (e : Ext w w') : Pts A w' v p lv Q :=
  ⟨h.len, h.own.ext e, fun i hi => (h.cn i hi).ext e, fun h0 => by
    obtain ⟨b, kv, h1, h2, h3⟩ := h.set h0
    exact ⟨b, kv, h1, e.block h2, h3.ext e⟩⟩
theorem Pts.at {w : World} {v : Value} {p : Nat → Bool} {lv : Value} {Q : List Qd} (h : Pts A w v p lv Q) {i : Nat} (hi : i < nk p) : ((cellsQ Q).drop (i * 4)).take 4 = qcs (Q.getD i q0) ∧ Cn A w (qv (Q.getD i q0)) (blk p (kp p i)) (kindP (blk p (kp p i))) ∧ ∀ u ∈ qcs (Q.getD i q0), u.oneCell' = true := by
  refine ⟨cellsQ_at Q i (by have := h.len; omega), h.cn i hi, ?_⟩
  obtain ⟨q, h1, h2⟩ := (h.cn i hi).qd
  rw [qv_inj h1]; exact h2
theorem list_s {w : World} {v : Value} {p : Nat → Bool} (h : NSet B A w v p) : ∃ lv Q, Pts A w v p lv Q ∧ ∀ w', Ext w w' → Fc Tryz.prog 47 #[v] w' (Ret w' (.val lv)) := by
  rcases h with ⟨rfl, rfl⟩ | ⟨b, kv, lv, rfl, hS, -⟩
  · refine ⟨nilS, [], ⟨by rw [nk_none]; rfl, by rw [nk_none]; exact Own.nil, fun i hi => by rw [nk_none] at hi; omega, fun hi => by rw [nk_none] at hi; omega⟩, fun w' e => ?_⟩
    refine Fc.of (args := [_]) Tryz.func47 rfl rfl Tryz.ntmps47 (Nat.le_of_ble_eq_true rfl) ?_
    repeat' (first|(refine oLA ?_;first|refine LA_pass rfl ?_|(refine oEq ?_; refine LA_binV (c := .bool true) rfl rfl rfl (fun _ => rfl) ?_)|refine wOp ?_|(refine wCm ?_ ?_<;>intro hc)|(refine wNl hK ?_;clear hK K))|refine wG ?_|(refine wCR ?_;intro K hK)|fail)
    exact PX_retE rfl rfl (Ext.refl _) rfl
  · obtain ⟨Q, q1, q2, q3⟩ := hS.hl
    refine ⟨lv, Q, ⟨q1, q2, fun i hi => (q3 i hi).mono fun k _ h => h.1, fun _ => ⟨b, kv, rfl, hS.hb, hS.hk⟩⟩, fun w' e => ?_⟩
    replace hS := hS.ext e
    refine Fc.of (args := [_]) Tryz.func47 rfl rfl Tryz.ntmps47 (Nat.le_of_ble_eq_true rfl) ?_
    repeat' (first|(refine oLA ?_;first|refine LA_pass rfl ?_|(refine oEq ?_; refine LA_binV (c := .bool false) rfl rfl rfl (fun _ => rfl) ?_)|(refine oNc ?_; refine LA_nilCheck rfl rfl ?_)|(refine oF 0 ?_; refine LA_fieldAddr (a' := ⟨b, 0, none⟩) rfl rfl (fun _ => rfl) ?_)|(refine oF 1 ?_; refine LA_fieldAddr (a' := ⟨b, 1, none⟩) rfl rfl (fun _ => rfl) ?_)|(refine oLt 71 ?_; refine LA_loadB (c := kv) rfl (fun _ => rfl) rfl hS.hb rfl ?_)|(refine oLt 72 ?_; refine LA_loadB (c := lv) rfl (fun _ => rfl) rfl hS.hb rfl ?_)|refine wOp ?_|(refine wCm ?_ ?_<;>intro hc)|(refine wNl hK ?_;clear hK K))|refine wG ?_|(refine wCR ?_;intro K hK)|fail)
    exact PX_retE rfl rfl (Ext.refl _) rfl
theorem keys_s {w : World} {v : Value} {p : Nat → Bool} (h : NSet B A w v p) : Fc Tryz.prog 71 #[v] w (Ret w (.pred (ownI w.heap.size tK .u16 (keysL p)))) := by
  rcases h with ⟨rfl, rfl⟩ | ⟨b, kv, lv, rfl, hS, -⟩
  · rw [keys_none]
    refine Fc.of (args := [_]) Tryz.func71 rfl rfl Tryz.ntmps71 (Nat.le_of_ble_eq_true rfl) ?_
    repeat' (first|(refine oLA ?_;first|refine LA_pass rfl ?_|(refine oEq ?_; refine LA_binV (c := .bool true) rfl rfl rfl (fun _ => rfl) ?_)|refine wOp ?_|(refine wCm ?_ ?_<;>intro hc)|(refine wNl hK ?_;clear hK K))|refine wG ?_|(refine wCR ?_;intro K hK)|fail)
    exact PX_retP rfl rfl (Ext.refl _) (fun v _ _ hv => by obtain rfl : v = _ := hv; exact OwnI.nil)
  · have hn : (keysL p).length ≤ 65536 := by rw [keysL_len]; exact nk_le p
    refine Fc.of (args := [_]) Tryz.func71 rfl rfl Tryz.ntmps71 (Nat.le_of_ble_eq_true rfl) ?_
    repeat' (first|(refine oLA ?_;first|refine LA_pass rfl ?_|(refine oEq ?_; refine LA_binV (c := .bool false) rfl rfl rfl (fun _ => rfl) ?_)|(refine oNc ?_; refine LA_nilCheck rfl rfl ?_)|(refine oF 0 ?_; refine LA_fieldAddr (a' := ⟨b, 0, none⟩) rfl rfl (fun _ => rfl) ?_)|(refine oF 1 ?_; refine LA_fieldAddr (a' := ⟨b, 1, none⟩) rfl rfl (fun _ => rfl) ?_)|(refine oLt 71 ?_; refine LA_loadB (c := kv) rfl (fun _ => rfl) rfl hS.hb rfl ?_)|(refine oLt 72 ?_; refine LA_loadB (c := lv) rfl (fun _ => rfl) rfl hS.hb rfl ?_)|refine wOp ?_|(refine wCm ?_ ?_<;>intro hc)|(refine oCv ?_;first|(refine oC 70 ?_; refine LA_call1 (f := 70) rfl rfl rfl  (.pred (ownI w.heap.size tK .u16 (keysL p))) (by intro u1 w e hu1; (try obtain rfl : u1 = _ := hu1); exact (clone16_c _ _ _ (hS.hk.ext e).slI hn).mono (ret_base e.size)) ?_))|(refine wNl hK ?_;clear hK K))|refine wG ?_|(refine wCR ?_;intro K hK)|fail)
    exact PX_retP rfl rfl (Ext.refl _) (fun _ _ _ hv => hv)
theorem len_s {w : World} {v : Value} {p : Nat → Bool} (h : NSet B A w v p) : Fc Tryz.prog 23 #[v] w (Ret w (.val (.int .i64 (cnt p TOP)))) := by
  obtain ⟨lv, Q, hP, hL⟩ := list_s h
  have hnk := nk_le p
  have hct := cnt_le p TOP
  have htop := TOP_eq
  refine Fc.of (args := [_]) Tryz.func23 rfl rfl Tryz.ntmps23 (Nat.le_of_ble_eq_true rfl) ?_
  repeat' (first|(refine oLA ?_;first|refine LA_pass rfl ?_|(refine oLen ?_; refine LA_len rfl _ rfl rfl (HasC.ownV hP.own) ?_)|refine wOp ?_|(refine wCm ?_ ?_<;>intro hc)|(refine oCv ?_;first|(refine oC 47 ?_; refine LA_call1 (f := 47) rfl rfl rfl  (.val lv) (by intro u1 w e hu1; (try obtain rfl : u1 = _ := hu1); exact hL _ e) ?_))|(refine wNl hK ?_;clear hK K))|refine wG ?_|(refine wCR ?_;intro K hK)|fail)
  refine CX_loop (ι := Nat) (fun i => [(0, .val v), (3, .val (.int .i64 (cnt p (kp p i * 65536)))), (7, .val lv), (8, .val (.int .i64 (nk p))), (9, .val (.int .i64 i))]) (fun i => i ≤ nk p) (fun i => nk p - i) 0 (Nat.zero_le _) (by rw [key_cnt0]; (repeat' (first | exact Sub.nil | (refine Sub.val rfl ?_ ?_; first | with_reducible rfl | (congr 1; omega)) | refine Sub.same rfl ?_)); done) ?_
  intro i hi
  have hle := cnt_mono p (m := kp p i * 65536) TOP (by have := kp_le p i; omega)
  by_cases hil : i < nk p
  · obtain ⟨hat, hcn, h1⟩ := hP.at hil
    have hkc := key_cnt hil
    have hb6 := cnt_le (blk p (kp p i)) 65536
    repeat' (first|(refine oLA ?_;first|refine LA_pass rfl ?_|(refine oI ?_; refine LA_indexC (s := 4) rfl _ rfl (fun _ => rfl) rfl (HasC.ownV hP.own) rfl i rfl (by omega) ?_; rw [hat])|(refine oLt 80 ?_; refine LA_loadC (cs := qcs _) rfl (fun _ => rfl) (fun _ => rfl) rfl ?_)|(refine oD 5 ?_; refine LA_stop (hK _ _ (LX_var rfl rfl (by decide) (fun _ => rfl) (fun _ => rfl) (fun _ => rfl) rfl h1 (fun bx wx ex hbx hbc => ?_))); clear hK K; refine LX_la (by kernel_rfl) (fun K hK => ?_))|(refine oD 14 ?_; refine LA_loadK (n := 4) rfl hbc rfl rfl (fun _ => rfl) (fun _ => rfl) ?_)|refine wOp ?_|(refine wCm ?_ ?_<;>intro hc)|(refine oCv ?_;first|(refine oC 48 ?_; refine LA_call1 (f := 48) rfl rfl rfl  (.val (.int .i64 (cnt (blk p (kp p i)) 65536))) (by intro u1 w e hu1; (try obtain rfl : u1 = _ := hu1); exact len_c (hcn.ext (ex.trans e))) ?_))|(refine wNl hK ?_;clear hK K))|refine wG ?_|(refine wCR ?_;intro K hK)|fail)
    all_goals skip
    exact PX_rndB ex (i + 1) hil (by omega) (by rw [hkc]; (repeat' (first | exact Sub.nil | (refine Sub.val rfl ?_ ?_; first | with_reducible rfl | (congr 1; omega)) | refine Sub.same rfl ?_)); done)
  · obtain rfl : i = nk p := by omega
    rw [key_top] at hle ⊢
    repeat' (first|(refine oLA ?_;first|refine LA_pass rfl ?_|refine wOp ?_|(refine wCm ?_ ?_<;>intro hc)|(refine wNl hK ?_;clear hK K))|refine wG ?_|(refine wCR ?_;intro K hK)|fail)
    exact PX_retE rfl rfl (Ext.refl _) rfl
end Go.Proofs.YtadpcgjohleglaaGreatDoor
end
section
set_option linter.unusedSimpArgs false
set_option linter.unusedVariables false
set_option maxRecDepth 3000
namespace Go.Proofs.YtadpcgjohleglaaGreatDoor
open Go.LA Go.ArrP Go.RowKit
variable {A B : Nat → Prop}
theorem has_s {w : World} {v : Value} {p : Nat → Bool} (h : NSet B A w v p) {x : Nat} (hx : x < 4294967296) : Fc Tryz.prog 33 #[v, .int .u32 x] w (Ret w (.val (.bool (p x)))) := by
  have hb : blk p (x / 65536) (x % 65536) = p x := by rw [blk_at (Nat.mod_lt _ (by omega))]; congr 1; omega
  have e2 : IntKind.u16.wrap (x : Int) = ((x % 65536 : Nat) : Int) := by rw [IntKind.wrap_u16]; omega
  have e1 : (x : Int) / 65536 = ((x / 65536 : Nat) : Int) := by omega
  have hx1 : x / 65536 < 65536 := by omega
  have hx2 : x % 65536 < 65536 := Nat.mod_lt _ (by omega)
  obtain ⟨k, hk⟩ : ∃ k, k = x / 65536 := ⟨_, rfl⟩
  obtain ⟨r, hr⟩ : ∃ r, r = x % 65536 := ⟨_, rfl⟩
  rw [← hk, ← hr] at hb
  rw [← hk] at e1 hx1; rw [← hr] at e2 hx2
  clear hk hr
  refine Fc.of (args := [_, _]) Tryz.func33 rfl rfl Tryz.ntmps33 (Nat.le_of_ble_eq_true rfl) ?_
  repeat' (first|(refine oLA ?_;first|refine LA_pass rfl ?_|(refine oB .shr ?_; refine LA_shr rfl rfl rfl (by decide) (by decide) ?_; rw [show (2 : Int) ^ Int.toNat 16 = 65536 by decide, e1])|(refine oD 11 ?_; refine LA_conv rfl rfl rfl rfl ?_; rw [e2])|refine wOp ?_|(refine wCm ?_ ?_<;>intro hc)|(refine oCv ?_;first|(refine oC 39 ?_; refine LA_call2 (f := 39) rfl rfl rfl rfl  (.pred (cnP A (blk p k) (kindP (blk p k)))) (by intro u1 u2 w e hu1 hu2; (try obtain rfl : u1 = _ := hu1); (try obtain rfl : u2 = _ := hu2); exact get_s (h.ext e) hx1) ?_)|(refine oC 55 ?_; refine LA_call2 (f := 55) rfl rfl rfl rfl  (.val (.bool (blk p k r))) (by intro u1 u2 w e hu1 hu2; (try obtain rfl : u1 = _ := hu1); (try obtain rfl : u2 = _ := hu2); exact has_c hu1 hx2) ?_))|(refine wNl hK ?_;clear hK K))|refine wG ?_|(refine wCR ?_;intro K hK)|fail)
  all_goals skip
  exact PX_retE rfl rfl (Ext.refl _) (by rw [hb])
theorem copy_s {w : World} {v : Value} {p : Nat → Bool} (h : NSet B A w v p) {B' A' : Nat → Prop} (hB : Fsh B' w) (hA : ∀ k, k < w.heap.size → A k → A' k) : Fc Tryz.prog 44 #[v] w (Ret w (.pred (rsP B' A' p))) := by
  obtain ⟨lv, Q, hP, hL⟩ := list_s h
  have htop := nset_top h
  have hnk := nk_le p
  have hq1 : ∀ c ∈ cellsQ Q, c.oneCell' = true := fun c hc => by
    obtain ⟨j, j1, j2⟩ := cellsQ_mem Q c hc
    exact (hP.at (by have := hP.len; omega)).2.2 c j2
  refine Fc.of (args := [_]) Tryz.func44 rfl rfl Tryz.ntmps44 (Nat.le_of_ble_eq_true rfl) ?_
  repeat' (first|(refine oLA ?_;first|refine LA_pass rfl ?_|refine wOp ?_|(refine wCm ?_ ?_<;>intro hc)|(refine oCv ?_;first|(refine oC 71 ?_; refine LA_call1 (f := 71) rfl rfl rfl  (.pred (ownI w.heap.size tK .u16 (keysL p))) (by intro u1 w e hu1; (try obtain rfl : u1 = _ := hu1); exact (keys_s (h.ext e)).mono (ret_base e.size)) ?_)|(refine oC 70 ?_; refine LA_call1 (f := 70) rfl rfl rfl  (.pred (ownI w.heap.size tK .u16 (keysL p))) (by intro u1 w e hu1; (try obtain rfl : u1 = _ := hu1); exact (clone16_c _ _ _ (OwnI.slI hu1) (by rw [keysL_len]; exact hnk)).mono (ret_base e.size)) ?_)|(refine oC 47 ?_; refine LA_call1 (f := 47) rfl rfl rfl  (.val lv) (by intro u1 w e hu1; (try obtain rfl : u1 = _ := hu1); exact hL _ e) ?_)|(refine oC 72 ?_; refine LA_call1 (f := 72) rfl rfl rfl  (.pred (ownC w.heap.size tC 4 (nk p) (cellsQ Q))) (by intro u1 w e hu1; (try obtain rfl : u1 = _ := hu1); exact (clone_cct _ _ _ _ (hP.own.ext e).slC hq1 (by omega)).mono (ret_baseC e.size)) ?_))|(refine wNl hK ?_;clear hK K))|refine wG ?_|(refine wCR ?_;intro K hK)|fail)
  refine LA_stop (hK _ _ (LX_pick 8 rfl (fun v8 w8 e8 h8 => LX_pick 5 rfl (fun v5 w5 e5 h5 => ?_))))
  clear hK K
  replace h8 : Own w.heap.size tC 4 w5 v8 (nk p) (cellsQ Q) := Own.ext h8 e5
  replace h5 : OwnI w.heap.size tK .u16 w5 v5 (keysL p) := h5
  obtain ⟨a8, c8, rfl⟩ := h8.slC.isSlice
  obtain ⟨a5, c5, rfl⟩ := h5.slI.isSlice
  refine LX_la (by kernel_rfl) (fun K hK => LA_build2 (c := .agg #[.slice a5 (keysL p).length c5, .slice a8 (nk p) c8]) rfl rfl rfl (fun _ => by kernel_rfl) ?_)
  repeat' (first|(refine oLA ?_;first|refine LA_pass rfl ?_|refine LA_box rfl rfl ?_|refine wOp ?_|(refine wCm ?_ ?_<;>intro hc)|(refine wNl hK ?_;clear hK K))|refine wG ?_|(refine wCR ?_;intro K hK)|fail)
  all_goals skip
  have x5 := e8.trans e5
  refine PX_retP rfl rfl x5 (fun v w' e hv => ?_)
  obtain ⟨b, hb, rfl, hh⟩ := hv
  have ge5 := fun k hk => (Own.lt h5 k hk).1
  have ge8 := fun k hk => (Own.lt h8 k hk).1
  refine ⟨b, _, _, rfl, ⟨hh, Own.base (h5.ext e) (Nat.zero_le _), htop, Q, hP.len, Own.base (h8.ext e) (Nat.zero_le _), fun i hi => ?_⟩, fun k hk => hB k ?_⟩
  · exact ((hP.cn i hi).mono fun k hk ha => ⟨hA k hk ha, fun h => by have := ge5 k h; omega⟩).ext (x5.trans e)
  · have := x5.size
    rcases hk with rfl | hk | hk
    · omega
    · exact ge5 k hk
    · exact ge8 k hk
end Go.Proofs.YtadpcgjohleglaaGreatDoor
end
section
set_option linter.unusedSimpArgs false
set_option linter.unusedVariables false
set_option maxRecDepth 3000
namespace Go.Proofs.YtadpcgjohleglaaGreatDoor
open Go.LA Go.ArrP Go.RowKit
variable {A B : Nat → Prop}
theorem and_mask (x : Nat) (hx : x < 18446744073709551616) : bits .and .u64 (x : Int) 65535 = ((x % 65536 : Nat) : Int) := by
  rw [and64 x 65535 hx (by decide) (x := (x : Int)) (y := 65535) rfl rfl, show (65535 : Nat) = 2 ^ 16 - 1 from rfl, Nat.and_two_pow_sub_one_eq_mod]
theorem rank_s {w : World} {v : Value} {p : Nat → Bool} (h : NSet B A w v p) {x : Nat} (hx : x < 18446744073709551616) : Fc Tryz.prog 25 #[v, .int .u64 x] w (Ret w (.val (.int .i64 (cnt p (min x TOP))))) := by
  obtain ⟨lv, Q, hP, hL⟩ := list_s h
  have hlen : ∀ w', Ext w w' → _ := fun w' e => len_s (h.ext e)
  have hnk := nk_le p
  have hct := cnt_le p TOP
  have htop := TOP_eq
  by_cases hxt : 4294967296 ≤ x
  · rw [show min x TOP = TOP by omega]
    refine Fc.of (args := [_, _]) Tryz.func25 rfl rfl Tryz.ntmps25 (Nat.le_of_ble_eq_true rfl) ?_
    repeat' (first|(refine oLA ?_;first|refine LA_pass rfl ?_|refine wOp ?_|(refine wCm ?_ ?_<;>intro hc)|(refine oCv ?_;first|(refine oC 23 ?_; refine LA_call1 (f := 23) rfl rfl rfl  (.val (.int .i64 (cnt p TOP))) (by intro u1 w e hu1; (try obtain rfl : u1 = _ := hu1); exact hlen _ e) ?_))|(refine wNl hK ?_;clear hK K))|refine wG ?_|(refine wCR ?_;intro K hK)|fail)
    exact PX_retE rfl rfl (Ext.refl _) rfl
  · rw [show min x TOP = x by omega]
    have hm := and_mask x hx
    have hdm : x = x / 65536 * 65536 + x % 65536 := by omega
    have hdm2 : x / 65536 * 65536 ≤ x ∧ x < (x / 65536 + 1) * 65536 := by omega
    have hr := Nat.mod_lt x (show 0 < 65536 by omega)
    have e1 : (x : Int) / 65536 = ((x / 65536 : Nat) : Int) := by omega
    have hq : x / 65536 < 65536 := by omega
    obtain ⟨X, hX⟩ : ∃ X, X = x / 65536 := ⟨_, rfl⟩
    obtain ⟨R, hR⟩ : ∃ R, R = x % 65536 := ⟨_, rfl⟩
    rw [← hX, ← hR] at hdm
    rw [← hX] at hdm2
    rw [← hX] at e1 hq
    rw [← hR] at hm hr
    clear hX hR
    refine Fc.of (args := [_, _]) Tryz.func25 rfl rfl Tryz.ntmps25 (Nat.le_of_ble_eq_true rfl) ?_
    repeat' (first|(refine oLA ?_;first|refine LA_pass rfl ?_|(refine oLen ?_; refine LA_len rfl _ rfl rfl (HasC.ownV hP.own) ?_)|refine wOp ?_|(refine wCm ?_ ?_<;>intro hc)|(refine oCv ?_;first|(refine oC 47 ?_; refine LA_call1 (f := 47) rfl rfl rfl  (.val lv) (by intro u1 w e hu1; (try obtain rfl : u1 = _ := hu1); exact hL _ e) ?_))|(refine wNl hK ?_;clear hK K))|refine wG ?_|(refine wCR ?_;intro K hK)|fail)
    refine CX_loop (ι := Nat) (fun i => [(0, .val v), (1, .val (.int .u64 x)), (5, .val (.int .i64 (cnt p (min x (kp p i * 65536))))), (14, .val lv), (15, .val (.int .i64 (nk p))), (16, .val (.int .i64 i))]) (fun i => i ≤ nk p) (fun i => nk p - i) 0 (Nat.zero_le _) (by rw [rank_0]; (repeat' (first | exact Sub.nil | (refine Sub.val rfl ?_ ?_; first | with_reducible rfl | (congr 1; omega)) | refine Sub.same rfl ?_)); done) ?_
    intro i hi
    by_cases hil : i < nk p
    · obtain ⟨hat, hcn, h1⟩ := hP.at hil
      obtain ⟨b, kv, rfl, hb, hkv⟩ := hP.set (by omega)
      obtain ⟨k1, k2, k3, k4⟩ := kp_at hil
      have hkl := keysL_len p
      have hown := hP.own
      have f1 := rank_lt (x := x) (X := X) hil hdm2.1
      have f2 := rank_eq (x := x) (R := R) hil
      have f3 := rank_gt (x := x) (X := X) hil hdm2.2
      have b1 := cnt_le p (min x (kp p i * 65536))
      have b2 := cnt_le (blk p (kp p i)) 65536
      have b3 := cnt_le (blk p (kp p i)) R
      have b4 : min x (kp p i * 65536) ≤ x := Nat.min_le_left _ _
      have hcl : ∀ w', Ext w w' → _ := fun w' e => len_c (hcn.ext e)
      have hcr : ∀ w', Ext w w' → _ := fun w' e => rank_c (x := R) (hcn.ext e) (by omega)
      obtain ⟨K0, hK0⟩ : ∃ K0, K0 = kp p i := ⟨_, rfl⟩
      obtain ⟨n0, hn0⟩ : ∃ n0, n0 = cnt p (min x (kp p i * 65536)) := ⟨_, rfl⟩
      obtain ⟨n1, hn1⟩ : ∃ n1, n1 = cnt p (min x (kp p (i + 1) * 65536)) := ⟨_, rfl⟩
      obtain ⟨c1, hc1⟩ : ∃ c1, c1 = cnt (blk p (kp p i)) 65536 := ⟨_, rfl⟩
      obtain ⟨c2, hc2⟩ : ∃ c2, c2 = cnt (blk p (kp p i)) R := ⟨_, rfl⟩
      rw [← hc1, ← hn0, ← hn1] at f1
      rw [← hc2, ← hn0, ← hn1] at f2
      rw [← hn0, ← hn1] at f3
      rw [← hn0] at b1 ⊢
      rw [← hc1] at b2 hcl
      rw [← hc2] at b3 hcr
      rw [← hK0] at k1 k4 f1 f2 f3
      clear hP k2 k3 hL hct hn0 hc1 hc2 hcn hlen h
      repeat' (first|(refine oLA ?_;first|refine LA_pass rfl ?_|(refine oNc ?_; refine LA_nilCheck rfl rfl ?_)|(refine oF 0 ?_; refine LA_fieldAddr (a' := ⟨b, 0, none⟩) rfl rfl (fun _ => rfl) ?_)|(refine oF 1 ?_; refine LA_fieldAddr (a' := ⟨b, 1, none⟩) rfl rfl (fun _ => rfl) ?_)|(refine oLt 71 ?_; refine LA_loadB (c := kv) rfl (fun _ => rfl) rfl hb rfl ?_)|(refine oLt 72 ?_; refine LA_loadB (c := lv) rfl (fun _ => rfl) rfl hb rfl ?_)|(refine oI ?_; refine LA_indexC (s := 4) rfl _ rfl (fun _ => rfl) rfl (HasC.ownV hown) rfl i rfl (by omega) ?_; rw [hat])|(refine oLt 80 ?_; refine LA_loadC (cs := qcs _) rfl (fun _ => rfl) (fun _ => rfl) rfl ?_)|(refine oD 7 ?_; refine LA_stop (hK _ _ (LX_varA rfl rfl rfl (by decide) (by decide) (fun _ => rfl) (fun _ => rfl) rfl (fun _ => rfl) (fun _ => rfl) rfl h1 (fun bx wx ex hbx hbc => ?_))); clear hK K; replace hb := ex.block hb; replace hkv := hkv.ext ex; refine LX_la (by kernel_rfl) (fun K hK => ?_))|(refine oD 26 ?_; refine LA_indexN rfl _ rfl (fun _ => rfl) rfl (HasI.ownV hkv) rfl (by omega) ?_; rw [k4])|(refine oD 46 ?_; refine LA_bits (.inl rfl) rfl rfl rfl ?_; rw [hm])|(refine oB .shr ?_; refine LA_shr rfl rfl rfl (by decide) (by decide) ?_; rw [show (2 : Int) ^ Int.toNat 16 = 65536 by decide, e1])|(refine oLt 80 ?_; refine LA_loadK (n := 4) rfl hbc rfl rfl (fun _ => rfl) (fun _ => rfl) ?_)|refine wOp ?_|(refine wCm ?_ ?_<;>intro hc)|(refine oCv ?_;first|(refine oC 48 ?_; refine LA_call1 (f := 48) rfl rfl rfl  (.val (.int .i64 c1)) (by intro u1 w e hu1; (try obtain rfl : u1 = _ := hu1); exact hcl _ (ex.trans e)) ?_)|(refine oC 51 ?_; refine LA_call2 (f := 51) rfl rfl rfl rfl  (.val (.int .i64 c2)) (by intro u1 u2 w e hu1 hu2; (try obtain rfl : u1 = _ := hu1); (try obtain rfl : u2 = _ := hu2); exact hcr _ (ex.trans e)) ?_))|(refine wNl hK ?_;clear hK K))|refine wG ?_|(refine wCR ?_;intro K hK)|fail)
      all_goals skip
      · exact PX_rndB ex (i + 1) hil (by omega) (by rw [← hn1, f1 (by omega)]; (repeat' (first | exact Sub.nil | (refine Sub.val rfl ?_ ?_; first | with_reducible rfl | (congr 1; omega)) | refine Sub.same rfl ?_)); done)
      · have e9 : K0 = X := by omega
        have e8 := f2 (by rw [e9]; exact hdm) hr
        exact PX_rndB ex (i + 1) hil (by omega) (by rw [← hn1, e8]; (repeat' (first | exact Sub.nil | (refine Sub.val rfl ?_ ?_; first | with_reducible rfl | (congr 1; omega)) | refine Sub.same rfl ?_)); done)
      · exact PX_rndB ex (i + 1) hil (by omega) (by rw [← hn1, f3 (by omega)]; (repeat' (first | exact Sub.nil | (refine Sub.val rfl ?_ ?_; first | with_reducible rfl | (congr 1; omega)) | refine Sub.same rfl ?_)); done)
    · obtain rfl : i = nk p := by omega
      rw [rank_n p (by omega)]
      repeat' (first|(refine oLA ?_;first|refine LA_pass rfl ?_|refine wOp ?_|(refine wCm ?_ ?_<;>intro hc)|(refine wNl hK ?_;clear hK K))|refine wG ?_|(refine wCR ?_;intro K hK)|fail)
      exact PX_retE rfl rfl (Ext.refl _) rfl
end Go.Proofs.YtadpcgjohleglaaGreatDoor
end
section
set_option linter.unusedSimpArgs false
set_option linter.unusedVariables false
set_option maxRecDepth 3000
namespace Go.Proofs.YtadpcgjohleglaaGreatDoor
open Go.LA Go.ArrP Go.RowKit
variable {A B : Nat → Prop}
theorem RS.fsh {w : World} {b : Nat} {kv lv : Value} {p : Nat → Bool} (h : RS A w b kv lv p) (hA : Fsh A w) : Fsh (fun k => A k ∧ kv.ownBlock ≠ some k) w := fun k hk => ⟨hA k hk, fun hb => by have := h.lt (.inr (.inl hb)); omega⟩
theorem Mut.from {w w1 w' : World} {b : Nat} {kv lv : Value} {p' : Nat → Bool} (e : Ext w w1) (h : Mut A w1 b kv lv p' w') : Mut A w b kv lv p' w' := by
  obtain ⟨kv', lv', h1, h2, h3, h4⟩ := h
  exact ⟨kv', lv', h1, (Fr.of e).trans h2, h3.le e.size, h4.le e.size⟩
theorem Mut.ext {w w1 w' : World} {b : Nat} {kv lv : Value} {p' : Nat → Bool} (h : Mut A w b kv lv p' w1) (e : Ext w1 w') : Mut A w b kv lv p' w' := by
  obtain ⟨kv', lv', h1, h2, h3, h4⟩ := h
  exact ⟨kv', lv', h1.ext e, h2.trans (Fr.of e), h3, h4⟩
theorem onw_loc {w : World} {b : Nat} {kv lv kv' lv' : Value} {base : Nat} (hb : ∀ k, onw b kv lv k → base ≤ k) (hs : base ≤ w.heap.size) (h1 : LocR w kv kv') (h2 : LocR w lv lv') (k : Nat) (hk : onw b kv' lv' k) : base ≤ k := by
  rcases hk with rfl | hk | hk
  · exact hb _ (.inl rfl)
  · exact h1.ge (fun k hk => hb k (.inr (.inl hk))) hs k hk
  · exact h2.ge (fun k hk => hb k (.inr (.inr hk))) hs k hk
theorem Mut.then {w w1 w' : World} {b : Nat} {kv lv kv1 lv1 : Value} {p' : Nat → Bool} (hf : Fr (onw b kv lv) w w1) (h1 : LocR w kv kv1) (h2 : LocR w lv lv1) (h : Mut A w1 b kv1 lv1 p' w') : Mut A w b kv lv p' w' := by
  obtain ⟨kv', lv', g1, g2, g3, g4⟩ := h
  refine ⟨kv', lv', g1, ⟨g2.os.trans hf.os, g2.tape.trans hf.tape, g2.output.trans hf.output, Nat.le_trans hf.size g2.size, fun k hk hn => ?_⟩, h1.trans g3 hf.size, h2.trans g4 hf.size⟩
  rw [g2.block k (Nat.lt_of_lt_of_le hk hf.size) (fun h => hn ?_), hf.block k hk hn]
  rcases h with h | h | h
  · exact .inl h
  · rcases h1 with h1 | h1
    · exact .inr (.inl (h1 ▸ h))
    · have := h1 k h; omega
  · rcases h2 with h2 | h2
    · exact .inr (.inr (h2 ▸ h))
    · have := h2 k h; omega
end Go.Proofs.YtadpcgjohleglaaGreatDoor
end
section
set_option linter.unusedSimpArgs false
set_option linter.unusedVariables false
set_option maxRecDepth 3000
namespace Go.Proofs.YtadpcgjohleglaaGreatDoor
open Go.LA Go.ArrP Go.RowKit
variable {A B : Nat → Prop}
theorem grow_s (w : World) (n : Nat) (hn : n ≤ 1000000) : Fc Tryz.prog 122 #[nilS, .int .i64 n] w (Ret w (.pred (ownI w.heap.size tK .u16 []))) := by
  by_cases h0 : n = 0
  · subst h0
    refine Fc.of (args := [_, _]) Tryz.func122 rfl rfl Tryz.ntmps122 (Nat.le_of_ble_eq_true rfl) ?_
    repeat' (first|(refine oLA ?_;first|refine LA_pass rfl ?_|(refine oD 10 ?_; refine LA_cap rfl rfl rfl ?_)|(refine oLen ?_; refine LA_len (n := 0) (s := 1) (cs := []) rfl _ rfl rfl (HasC.ownV (base := 0) (e := 0) Own.nil) ?_)|refine wOp ?_|(refine wCm ?_ ?_<;>intro hc)|(refine wNl hK ?_;clear hK K))|refine wG ?_|(refine wCR ?_;intro K hK)|fail)
    all_goals skip
    exact PX_retP rfl rfl (Ext.refl _) (fun v _ _ hv => by obtain rfl : v = _ := hv; exact OwnI.nil)
  · refine Fc.of (args := [_, _]) Tryz.func122 rfl rfl Tryz.ntmps122 (Nat.le_of_ble_eq_true rfl) ?_
    repeat' (first|(refine oLA ?_;first|refine LA_pass rfl ?_|(refine oD 10 ?_; refine LA_cap rfl rfl rfl ?_)|(refine oD 19 ?_; refine LA_cap rfl rfl rfl ?_)|(refine oLen ?_; refine LA_len (n := 0) (s := 1) (cs := []) rfl _ rfl rfl (HasC.ownV (base := 0) (e := 0) Own.nil) ?_)|(refine oD 20 ?_; refine LA_sliceH (n := 0) (s := 1) (cs := []) rfl _ rfl rfl (HasC.ownV (base := 0) (e := 0) Own.nil) rfl (by decide) (by decide) (fun _ => rfl) ?_)|(refine oD 22 ?_; refine LA_stop (hK _ _ (LX_appendMake (n := 0) (kn := n) (cs := []) (cap := 0) (a := none) rfl (by decide) el_c16 rfl rfl rfl (Own.nil (base := 0) (e := 0)).slC (by omega) (by omega) (by omega) (by decide) (by omega) (by omega) (fun v' w1 w2 zs e1 hz1 hz2 ho e2 => ?_))); clear hK K; refine LX_la (by kernel_rfl) (fun K hK => ?_))|refine wOp ?_|(refine wCm ?_ ?_<;>intro hc)|(refine wNl hK ?_;clear hK K))|refine wG ?_|(refine wCR ?_;intro K hK)|fail)
    all_goals skip
    refine PX_retP rfl rfl (e1.trans e2) (fun v w3 e3 hv => ?_)
    obtain rfl : v = _ := hv
    rcases ho.2 with ⟨_, h1⟩ | ⟨gb, cap, cur, rfl, hx⟩
    · omega
    · have h2 := own_take ho 0 (Nat.zero_le _)
      have hcap : 0 < cap := by have := hx.2.2.1; omega
      have h3 : subS (.slice (some ⟨gb, 0, none⟩) (0 + n) cap) 0 0 Tryz.prog.types[76].size = .slice (some ⟨gb, 0, none⟩) 0 cap := sub_lit hcap
      rw [h3]
      exact Own.base (h2.ext e3) e1.size
def rl2 (xs ys : List Int) (i : Nat) : List Int := if i = 0 then [] else if i = 1 then xs else xs ++ ys
theorem concat_s {w : World} {v ka kb : Value} {xs ys : List Int} (hv : SlC w v 2 1 [ka, kb]) (ha : SlI .u16 w ka xs) (hb : SlI .u16 w kb ys) (hx : xs.length ≤ 65536) (hy : ys.length ≤ 65536) :
    Fc Tryz.prog 73 #[v] w (Ret w (.pred (ownI w.heap.size tK .u16 (xs ++ ys)))) := by
  have hgr : ∀ w', Ext w w' → _ := fun w' e => grow_s w' (xs.length + ys.length) (by omega)
  refine Fc.of (args := [_]) Tryz.func73 rfl rfl Tryz.ntmps73 (Nat.le_of_ble_eq_true rfl) ?_
  repeat' (first|(refine oLA ?_;first|refine LA_pass rfl ?_|(refine oLen ?_; refine LA_len rfl _ rfl rfl (HasC.val hv) ?_)|refine wOp ?_|(refine wCm ?_ ?_<;>intro hc)|(refine wNl hK ?_;clear hK K))|refine wG ?_|(refine wCR ?_;intro K hK)|fail)
  refine CX_loop (ι := Nat) (fun i => [(0, .val v), (3, .val (.int .i64 ((rl2 xs ys i).length : Nat))), (9, .val v), (10, .val (.int .i64 2)), (11, .val (.int .i64 i))]) (fun i => i ≤ 2) (fun i => 2 - i) 0 (by decide) (by repeat' (first | exact Sub.nil | refine Sub.val rfl (by first | with_reducible rfl | (congr 1; omega)) ?_ | refine Sub.same rfl ?_)) ?_
  intro i hi
  obtain rfl | rfl | rfl : i = 0 ∨ i = 1 ∨ i = 2 := by omega
  · skip
    repeat' (first|(refine oLA ?_;first|refine LA_pass rfl ?_|(refine oD 13 ?_; refine LA_indexC (s := 1) rfl _ rfl (fun _ => rfl) rfl (HasC.val hv) rfl 0 rfl (by decide) ?_)|(refine oD 14 ?_; refine LA_load (c := ka) rfl (fun _ => rfl) rfl ?_)|(refine oLen ?_; refine LA_len rfl _ rfl rfl (HasI.val ha).c ?_)|(refine oD 18 ?_; refine LA_addF rfl rfl rfl (by show -9223372036854775808 ≤ (0 : Int) + xs.length ∧ (0 : Int) + xs.length ≤ 9223372036854775807; omega) ?_)|(refine oD 20 ?_; refine LA_cmpF rfl rfl rfl rfl (by show ¬ ((0 : Int) + xs.length < 0); omega) ?_)|refine wOp ?_|(refine wCm ?_ ?_<;>intro hc)|(refine wNl hK ?_;clear hK K))|refine wG ?_|(refine wCR ?_;intro K hK)|fail)
    all_goals skip
    exact PX_rnd 1 (by decide) (by decide) (Sub.same rfl (Sub.val rfl (by show Value.int .i64 ((0 : Int) + xs.length) = .int .i64 xs.length; rw [Int.zero_add]) (Sub.same rfl (Sub.same rfl (Sub.same rfl Sub.nil)))))
  · skip
    repeat' (first|(refine oLA ?_;first|refine LA_pass rfl ?_|(refine oD 13 ?_; refine LA_indexC (s := 1) rfl _ rfl (fun _ => rfl) rfl (HasC.val hv) rfl 1 rfl (by decide) ?_)|(refine oD 14 ?_; refine LA_load (c := kb) rfl (fun _ => rfl) rfl ?_)|(refine oLen ?_; refine LA_len rfl _ rfl rfl (HasI.val hb).c ?_)|(refine oD 18 ?_; refine LA_addF (a := (xs.length : Int)) rfl rfl rfl (by dsimp only [fits]; omega) ?_)|refine wOp ?_|(refine wCm ?_ ?_<;>intro hc)|(refine wNl hK ?_;clear hK K))|refine wG ?_|(refine wCR ?_;intro K hK)|fail)
    all_goals skip
    exact PX_rnd 2 (by decide) (by decide) (Sub.same rfl (Sub.val rfl (by show Value.int .i64 ((xs.length : Int) + ys.length) = .int .i64 ((xs ++ ys).length : Nat); rw [List.length_append, Int.natCast_add]) (Sub.same rfl (Sub.same rfl (Sub.same rfl Sub.nil)))))
  · skip
    repeat' (first|(refine oLA ?_;first|refine LA_pass rfl ?_|(refine oD 23 ?_; refine LA_moveV (c := .int .i64 ((xs.length + ys.length : Nat) : Int)) rfl (by show AD.val (Value.int .i64 ((xs ++ ys).length : Nat)) = _; rw [List.length_append]) ?_)|(refine oLen ?_; refine LA_len rfl _ rfl rfl (HasC.val hv) ?_)|refine wOp ?_|(refine wCm ?_ ?_<;>intro hc)|(refine oCv ?_;first|(refine oC 122 ?_; refine LA_call2 (f := 122) rfl rfl rfl rfl  (.pred (ownI w.heap.size tK .u16 [])) (by intro u1 u2 w e hu1 hu2; (try obtain rfl : u1 = _ := hu1); (try obtain rfl : u2 = _ := hu2); exact (hgr _ e).mono (ret_base e.size)) ?_))|(refine wNl hK ?_;clear hK K))|refine wG ?_|(refine wCR ?_;intro K hK)|fail)
    all_goals skip
    refine CX_pick 6 rfl (fun v6 w6 e6 h6 => ?_)
    refine CX_loopV (ι := Nat × Value) (fun i => [(6, .val i.2), (25, .val v), (26, .val (.int .i64 2)), (27, .val (.int .i64 i.1))]) (fun i w' => i.1 ≤ 2 ∧ Ext w w' ∧ OwnI w.heap.size tK .u16 w' i.2 (rl2 xs ys i.1)) (fun i => 2 - i.1)
      (fun w2 e2 => ⟨(0, v6), ⟨Nat.zero_le 2, e6.trans e2, OwnI.ext h6 e2⟩, (by repeat' (first | exact Sub.nil | refine Sub.val rfl (by first | with_reducible rfl | (congr 1; omega)) ?_ | refine Sub.same rfl ?_))⟩) ?_
    rintro ⟨i, so⟩ w1 ⟨hi, he, ho⟩
    dsimp only at hi ho ⊢
    have ha1 := ha.ext he
    have hb1 := hb.ext he
    have hv1 := hv.ext he
    obtain rfl | rfl | rfl : i = 0 ∨ i = 1 ∨ i = 2 := by omega
    · skip
      repeat' (first|(refine oLA ?_;first|refine LA_pass rfl ?_|(refine oD 29 ?_; refine LA_indexC (s := 1) rfl _ rfl (fun _ => rfl) rfl (HasC.val hv1) rfl 0 rfl (by decide) ?_)|(refine oD 30 ?_; refine LA_load (c := ka) rfl (fun _ => rfl) rfl ?_)|(refine oD 33 ?_; refine LA_stop (hK _ _ (LX_append (n := 0) (cs := []) rfl (by decide) el_c16 rfl ho rfl (HasI.val ha1).c (by intro u hu; obtain ⟨z, _, rfl⟩ := List.mem_map.1 hu; rfl) (by unfold maxLen; omega) (by omega) he.size (fun v' wa wb' e' ho' hg' => ?_))); clear hK K; refine LX_la (by kernel_rfl) (fun K hK => ?_))|refine wOp ?_|(refine wCm ?_ ?_<;>intro hc)|(refine wNl hK ?_;clear hK K))|refine wG ?_|(refine wCR ?_;intro K hK)|fail)
      all_goals skip
      have ho2 : OwnI w.heap.size tK .u16 wb' v' (rl2 xs ys 1) := by
        show Own _ _ _ _ _ xs.length (xs.map _)
        simpa using ho'
      exact PX_rndV (1, v') (fun w5 e5 => ⟨(by decide : 1 ≤ 2), ((he.trans e').grown hg' (fun q hq => (Own.lt ho q hq).1)).trans e5, ho2.ext e5⟩) (by dsimp only; omega) (by repeat' (first | exact Sub.nil | refine Sub.val rfl (by first | with_reducible rfl | (congr 1; omega)) ?_ | refine Sub.same rfl ?_))
    · skip
      repeat' (first|(refine oLA ?_;first|refine LA_pass rfl ?_|(refine oD 29 ?_; refine LA_indexC (s := 1) rfl _ rfl (fun _ => rfl) rfl (HasC.val hv1) rfl 1 rfl (by decide) ?_)|(refine oD 30 ?_; refine LA_load (c := kb) rfl (fun _ => rfl) rfl ?_)|(refine oD 33 ?_; refine LA_stop (hK _ _ (LX_append (n := xs.length) (cs := xs.map (Value.int .u16)) rfl (by decide) el_c16 rfl ho rfl (HasI.val hb1).c (by intro u hu; obtain ⟨z, _, rfl⟩ := List.mem_map.1 hu; rfl) (by unfold maxLen; omega) (by omega) he.size (fun v' wa wb' e' ho' hg' => ?_))); clear hK K; refine LX_la (by kernel_rfl) (fun K hK => ?_))|refine wOp ?_|(refine wCm ?_ ?_<;>intro hc)|(refine wNl hK ?_;clear hK K))|refine wG ?_|(refine wCR ?_;intro K hK)|fail)
      all_goals skip
      have ho2 : OwnI w.heap.size tK .u16 wb' v' (rl2 xs ys 2) := by
        show Own _ _ _ _ _ (xs ++ ys).length ((xs ++ ys).map _)
        rw [List.length_append, List.map_append]; exact ho'
      exact PX_rndV (2, v') (fun w5 e5 => ⟨(by decide : 2 ≤ 2), ((he.trans e').grown hg' (fun q hq => (Own.lt ho q hq).1)).trans e5, ho2.ext e5⟩) (by dsimp only; omega) (by repeat' (first | exact Sub.nil | refine Sub.val rfl (by first | with_reducible rfl | (congr 1; omega)) ?_ | refine Sub.same rfl ?_))
    · skip
      repeat' (first|(refine oLA ?_;first|refine LA_pass rfl ?_|refine wOp ?_|(refine wCm ?_ ?_<;>intro hc)|(refine wNl hK ?_;clear hK K))|refine wG ?_|(refine wCR ?_;intro K hK)|fail)
      all_goals skip
      exact PX_retP rfl rfl he (fun u w5 e5 hu => by obtain rfl : u = _ := hu; exact OwnI.ext (xs := xs ++ ys) ho e5)
end Go.Proofs.YtadpcgjohleglaaGreatDoor
end
