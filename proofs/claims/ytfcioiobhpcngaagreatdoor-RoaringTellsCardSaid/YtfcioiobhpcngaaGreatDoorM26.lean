import Derived.Test.YtfcioiobhpcngaaGreatDoorM15
import Derived.Test.YtfcioiobhpcngaaGreatDoorM23
import Derived.Test.YtfcioiobhpcngaaGreatDoorM25
section
set_option linter.unusedSimpArgs false
set_option linter.unusedVariables false
set_option maxRecDepth 3000
namespace Go.Proofs.YtfcioiobhpcngaaGreatDoor
open Go.LA Go.ArrP Go.RowKit
abbrev tL3 : Nat := 45
abbrev tU3 : Nat := 39
abbrev tI6 : Nat := 3
theorem a7A {p : Nat → Bool} {T n : Nat} {lo hi : Nat → Nat} (W : SpW p T n lo hi) {y : Nat} (hy : y < T) (hp : p y = true) : ∃ i, i < n ∧ lo i ≤ y ∧ y < hi i := by
  refine Classical.byContradiction fun hno => ?_
  have h0 : 0 < n → lo 0 ≤ y := fun hn => by
    refine Classical.byContradiction fun h => ?_
    rw [W.pre y (fun _ => by omega) hy] at hp; cases hp
  have key : ∀ k, k < n → hi k ≤ y := by
    intro k
    induction k with
    | zero =>
      intro hn
      have := h0 hn
      refine Classical.byContradiction fun h => hno ⟨0, hn, this, by omega⟩
    | succ k ih =>
      intro hn
      have h1 := ih (by omega)
      by_cases h2 : y < lo (k + 1)
      · rw [W.off k hn y h1 h2] at hp; cases hp
      · exact Classical.byContradiction fun h => hno ⟨k + 1, hn, by omega, by omega⟩
  by_cases hn : 0 < n
  · rw [W.post hn y (key (n - 1) (by omega)) hy] at hp; cases hp
  · rw [W.pre y (fun h => absurd h hn) hy] at hp; cases hp
theorem aaA {p : Nat → Bool} (h : ∀ x, TOP ≤ x → p x = false) : spU (spL p TOP) = p := by
  obtain ⟨lo, hi, W, hS⟩ := sp_spec p TOP
  funext y
  unfold spU
  rw [Bool.eq_iff_iff, List.any_eq_true]
  constructor
  · rintro ⟨x, hx, h1⟩
    obtain ⟨i, hi', rfl⟩ := List.getElem_of_mem hx
    have := hS i hi'
    rw [List.getD_eq_getElem?_getD, List.getElem?_eq_getElem hi'] at this
    have e : (spL p TOP)[i] = ((lo i : Int), (hi i : Int)) := this
    rw [e, Bool.and_eq_true, decide_eq_true_iff, decide_eq_true_iff] at h1
    exact W.on i hi' y (by have := h1.1; omega) (by have := h1.2; omega)
  · intro hp
    have hy : y < TOP := by
      rcases Nat.lt_or_ge y TOP with h1 | h1
      · exact h1
      · rw [h y h1] at hp; cases hp
    obtain ⟨i, i1, i2, i3⟩ := a7A W hy hp
    have := hS i i1
    rw [List.getD_eq_getElem?_getD, List.getElem?_eq_getElem i1] at this
    have e : (spL p TOP)[i] = ((lo i : Int), (hi i : Int)) := this
    refine ⟨_, List.getElem_mem i1, ?_⟩
    rw [e, Bool.and_eq_true, decide_eq_true_iff, decide_eq_true_iff]
    have hlt := (W.lt i i1).2
    exact ⟨by omega, by omega⟩
theorem a4A {p : Nat → Bool} (h : ∀ x, TOP ≤ x → p x = false) : memb (listS p TOP) = p := by
  funext x
  unfold memb
  rw [Bool.eq_iff_iff, decide_eq_true_iff, listS_mem]
  constructor
  · rintro ⟨i, h1, h2, h3⟩
    obtain rfl : x = i := by omega
    exact h2
  · intro hx
    refine ⟨x, ?_, hx, rfl⟩
    rcases Nat.lt_or_ge x TOP with h1 | h1
    · exact h1
    · rw [h x h1] at hx; cases hx
theorem a6A {L : List Int} {i x : Nat} (hi : i < L.length) (hx : L.getD i 0 = (x : Int)) : addM (memb (L.drop (i + 1))) x = memb (L.drop i) := by
  funext y
  rw [List.drop_eq_getElem_cons hi]
  have hx' : L[i] = (x : Int) := by rw [List.getD_eq_getElem?_getD, List.getElem?_eq_getElem hi] at hx; exact hx
  unfold addM memb
  rw [hx', Bool.eq_iff_iff, Bool.or_eq_true, decide_eq_true_iff, decide_eq_true_iff, decide_eq_true_iff, List.mem_cons]
  constructor
  · rintro (h | h)
    · exact .inr h
    · exact .inl (by omega)
  · rintro (h | h)
    · exact .inr (by omega)
    · exact .inl h
set_option maxHeartbeats 4000000 in
theorem rtells_s (w : World) (hT : Tab w) {v : Value} {ys : List Int} (h : SlI .u32 w v ys) (hu : ∀ x ∈ ys, 0 ≤ x ∧ x < 4294967296) (cut : Int) :
    Fc Tryz.prog 5 #[v, .int .i64 cut] w (Ret w (.val (.bool true))) := by
  have htop := TOP_eq
  have hl := h.len
  refine Fc.ofM (args := [_, _]) Tryz.func5 rfl rfl Tryz.ntmps5 (Nat.le_of_ble_eq_true rfl) ?_
  by_cases hbig : 3000 < (ys.length : Int)
  · skip
    repeat' (first|(refine oLA ?_;first|refine LA_pass rfl ?_|refine wOp ?_|(refine wCm ?_ ?_<;>intro hc)|(refine oCv ?_;first|(refine oC 10 ?_; refine LA_call0 (f := 10) rfl rfl  (.val (.bool true)) (by intro w e; exact a5A _ (hT.ext e)) ?_))|(refine wNl hK ?_;clear hK K))|refine wG ?_|(refine wCR ?_;intro K hK)|fail)
    all_goals skip
    exact PX_retMV rfl rfl (Ext.refl _) (show DsOK _ [] _ from trivial) (.inr rfl)
  have hof : ∀ w', Ext w w' → _ := fun w' e => of_s (A := TT) (B := TT) (h.ext e) hu (by omega) (hT.ext e) tt tt
  obtain ⟨p, hp⟩ : ∃ p, p = memb ys := ⟨_, rfl⟩
  rw [← hp] at hof
  have hcl : cnt p TOP ≤ 3000 := by
    have := a0A ys TOP
    rw [← hp] at this; omega
  have hpt : ∀ x, TOP ≤ x → p x = false := fun x hx => by
    rw [hp]; unfold memb
    exact decide_eq_false fun hm => by have := hu _ hm; omega
  obtain ⟨L, hL⟩ : ∃ L, L = listS p TOP := ⟨_, rfl⟩
  have hLl : L.length = cnt p TOP := by rw [hL, listS_len]
  have hLs : spU (spL p TOP) = p := aaA hpt
  -- the first loop
  repeat' (first|(refine oLA ?_;first|refine LA_pass rfl ?_|(refine oD 6 ?_; refine LA_stop (hK _ _ (LX_pick 5 rfl (fun v5 w5 e5 h5 => LX_al rfl (by decide) (fun _ => rfl) (fun ball w6 x6 hball hb6 => ?_)))); clear hK K; have e6 := e5.trans x6; replace h5 : RSet TT TT w5 v5 p := h5; have hv5 := (a2A h5).1; refine LX_la (by kernel_rfl) (fun K hK => ?_))|(refine oD 21 ?_; refine LA_stop (hK _ _ (LX_pick 20 rfl (fun v20 w20 e20 h20 => ?_))); clear hK K; obtain ⟨b20, hb20, rfl, hh20⟩ := h20; refine LX_la (by kernel_rfl) (fun K hK => ?_); refine LA_binV (c := .bool false) rfl rfl rfl (fun _ => rfl) ?_)|refine wOp ?_|(refine wCm ?_ ?_<;>intro hc)|(refine oCv ?_;first|(refine oC 25 ?_; refine LA_call1 (f := 25) rfl rfl rfl  (.pred (rsP TT TT p)) (by intro u1 w e hu1; (try obtain rfl : u1 = _ := hu1); exact hof _ e) ?_)|(refine oC 27 ?_; refine LA_call1 (f := 27) rfl rfl rfl  (.pred (acA 0 v5)) (by intro u1 w e hu1; (try obtain rfl : u1 = _ := hu1); exact (abA _ hv5).mono (a3A (Nat.zero_le _))) ?_))|(refine wNl hK ?_;clear hK K))|(refine oCX ?_;first|refine CX_seqN (id := 7) (ι := Nat × Value × Nat × Value) (fun i => ⟨141, [{ target := .collected i.1, args := #[] }]⟩) (fun i => [(0, .val v), (1, .val (.int .i64 cut)), (5, .val i.2.1), (6, .val (.pointer (some ⟨i.2.2.1, 0, none⟩)))]) (fun i W => Ext w W ∧ RSet TT TT W i.2.1 p ∧ w.heap.size ≤ i.2.2.1 ∧ W.heap[i.2.2.1]? = some (.cells #[i.2.2.2] tL3 (0, 0)) ∧ OwnI w.heap.size tU3 .u32 W i.2.2.2 L ∧ DsOK w.heap.size [{ target := .collected i.1, args := #[] }] W) ?_ ?_)|refine wG ?_|(refine wCR ?_;intro K hK)|fail)
  all_goals skip
  · refine CX_pick 23 rfl (fun v23 w23 e23 h23 => ?_)
    obtain ⟨bb, hbb, rfl, hhb⟩ := h23
    have x23 : Ext w6 w23 := e20.trans e23
    have x5 : Ext w5 w23 := x6.trans x23
    have hball' := x23.block hb6
    refine (CX_range (α := U32) (p := 24) (M := cnt p TOP) (Kp := KpT w5 (fun t => t == tL3 || t == tU3)) (S := fun xs => vU xs = L) (Sp := fun pre => vU pre <+: L) (enc := fun x => .int .u32 x.1) (by decide) rfl (run_call_func Tryz.func63 rfl rfl)
      (fun w' e => ?_) (fun h k => h.trans k) (fun h => KpT.ext h) (fun W l o o' hl ho hc _ => KpT.putObj o' (Nat.le_trans x5.size hl) ho hc)
      (fun pre W => Ext w5 W ∧ ∃ rv, W.heap[ball]? = some (.cells #[rv] tL3 (0, 0)) ∧ OwnI w5.heap.size tU3 .u32 W rv (vU pre)) (fun _ _ _ => False)
      ?_ (fun c s W W' row hs _ _ => hs) (fun w' e => ⟨x5.trans e, nilS, e.block hball', OwnI.nil⟩) (fun x => [(6, .val (.pointer (some ⟨ball, 0, none⟩))), (7, .val (.int .u32 x.1))]) ?_ ?_ ?_ (fun D c pre W _ _ hx _ => hx.elim))
    · have := all_stops (w0 := w5) (A := TT) (B := TT) (.inr h5) (e.block hhb) (hT.ext e5) (x5.trans e) (bad := fun t => t == tL3 || t == tU3) (by decide) (by decide)
      rw [← hL] at this
      exact this
    · rintro pre W W' row ⟨h1, rv, h2, h3⟩ hg hr
      exact ⟨kept_ext h1 x5.size hg (fun r e => (hr r e).1), rv, kept_cells h2 hg (fun r e => (hr r e).2), kept_own h3 hg (fun r e => (hr r e).2)⟩
    · intro l u W
      refine CY_region asg_out (by kernel_rfl) (LX_la (by kernel_rfl) (fun K hK => LA_assignV rfl rfl (LA_nil (hK _ _ (LX_nil (PX_asg (Ext.refl _) (by repeat' (first | exact Sub.nil | refine Sub.val rfl (by first | with_reducible rfl | (congr 1; omega)) ?_ | refine Sub.same rfl ?_))))))))
    · rintro Bd l pre u W hBd ⟨h1, rv, h2, h3⟩ hlen
      refine CY_block (CY_region (block_out ownPostG_out) (by kernel_rfl) (LX_la (by kernel_rfl) (fun K hK => ?_)))
      repeat' (first|(refine oLA ?_;first|refine LA_pass rfl ?_|(refine oD 25 ?_; refine LA_loadB (c := rv) rfl (fun _ => rfl) rfl h2 rfl ?_)|(refine oD 27 ?_; refine LA_one rfl el_u32 rfl rfl ?_)|(refine oD 28 ?_; refine LA_stop (hK _ _ (LX_appendL rfl (by decide) el_u32 rfl h3 rfl HasC.pred (fun c hc => by rw [List.mem_singleton] at hc; subst hc; rfl) (by unfold maxLen; rw [List.length_map]; omega) (by rw [List.length_map]; omega) (fun v' w2 w3 e2 ho hf hlc => ?_))); clear hK K; have h2' := hf.at (e2.block h2) (fun hq => Own.apart h3 h2 (by decide) hq); obtain ⟨ck1, ck2⟩ := own_cells ho; refine LX_la (by kernel_rfl) (fun K hK => ?_))|(refine LA_stop (hK _ _ (LX_store1 rfl rfl rfl h2' (fun _ => rfl) (Nat.lt_succ_self 0) ck1 ck2 (fun w4 e4 => ?_))); clear hK K; dsimp only [LA.vals]; refine LX_la (by kernel_rfl) (fun K hK => ?_))|refine wOp ?_|(refine wCm ?_ ?_<;>intro hc)|(refine wNl hK ?_;clear hK K))|refine wG ?_|(refine wCR ?_;intro K hK)|fail)
      all_goals skip
      refine PX_ownN (fun w7 e7 => ?_)
      have hset : (#[rv] : Array Value).setIfInBounds 0 v' = #[v'] := rfl
      rw [hset] at e7
      have hb4 := e4.block h2'
      have f1 : Fr (fun k => rv.ownBlock = some k ∨ k = ball) W (w4.setRow ball #[v']) := (((Fr.of e2).trans (hf.mono fun k hk => .inl hk)).trans (Fr.of e4)).setRow (.inr rfl) _
      have f2 : Fr (fun k => rv.ownBlock = some k ∨ k = ball) W w7 := f1.trans (Fr.of e7)
      have hx : Ext w5 W → Ext w5 w7 := fun h => Fr.ext h f2 (fun k hk => by
        rcases hk with hk | rfl
        · exact (Own.lt h3 k hk).1
        · exact hball)
      obtain ⟨g1, g2⟩ := kp_fr (w0 := w5) (bad := fun t => t == tL3 || t == tU3) f2 hx (fun k hk => by
        rcases hk with hk | rfl
        · obtain ⟨cur, hc⟩ := own_type h3 hk
          exact ⟨cur, _, _, hc, by decide⟩
        · exact ⟨_, _, _, h2, by decide⟩)
      refine ⟨g2 _, g1, hx h1, v', e7.block (setRow_heap w4 ball _ _ _ _ hb4), ?_⟩
      have h4 : OwnI w5.heap.size tU3 .u32 w3 v' (vU (pre ++ [u])) := by
        unfold OwnI vU; rw [List.map_append, List.length_append, List.map_append]
        exact Own.rebase ho (hlc.ge (fun q hq => (Own.lt h3 q hq).1) (Nat.le_trans h1.size e2.size))
      exact (OwnI.ext (Own.setRow (OwnI.ext h4 e4) _ (Own.apart (OwnI.ext h4 e4) hb4 (by decide))) e7)
    · rintro D us W hD hus ⟨h1, rv, h2, h3⟩ hDd
      have hus' : vU us = L := hus
      rw [hus'] at h3
      refine PX_blockN (PX_cutN (D, v5, ball, rv) (fun w7 e7 => ⟨(e5.trans h1).trans e7, (RSet.ext h5 h1).ext e7, Nat.le_trans e5.size hball, e7.block h2, (Own.base h3 e5.size).ext e7, ⟨⟨D, Nat.le_trans (e5.trans x5).size hD, rfl, e7.block hDd, fun D' hm => by cases hm⟩, trivial⟩⟩) rfl (by repeat' (first | exact Sub.nil | refine Sub.val rfl (by first | with_reducible rfl | (congr 1; omega)) ?_ | refine Sub.same rfl ?_)))
  -- the second loop
  rintro ⟨D1, sv, ball, rv⟩ w1 ⟨he, hs, hball, hb1, hrv, hds⟩
  dsimp only at hs hball hb1 hrv hds ⊢
  have hT1 := hT.ext he
  have hsv := (a2A hs).1
  obtain ⟨k1, hk1⟩ : ∃ k1 : Nat, ((k1 : Nat) : Int) = IntKind.u64.wrap cut % ((L.length : Int) + 1) := by
    obtain ⟨m, hm⟩ := Int.eq_ofNat_of_zero_le (Int.emod_nonneg (IntKind.u64.wrap cut) (show (L.length : Int) + 1 ≠ 0 by omega))
    exact ⟨m, hm.symm⟩
  have hk2 : (k1 : Int) < (L.length : Int) + 1 := by rw [hk1]; exact Int.emod_lt_of_pos _ (by omega)
  have hcw : 0 ≤ IntKind.u64.wrap cut := by rw [IntKind.wrap_u64]; omega
  have hlenv : ∀ w', Ext w1 w' → HasC w' (.val rv) L.length 1 (L.map (Value.int .u32)) := fun w' e => (HasI.ownV (hrv.ext e)).c
  repeat' (first|(refine oLA ?_;first|refine LA_pass rfl ?_|(refine oD 8 ?_; refine LA_stop (hK _ _ (LX_var rfl rfl (Nat.le_of_ble_eq_true rfl) (fun _ => rfl) (fun _ => rfl) (fun _ => rfl) rfl a1A (fun bn wn en hbn hn0 => ?_))); clear hK K; refine LX_la (by kernel_rfl) (fun K hK => ?_))|(refine oD 31 ?_; refine LA_loadB (c := rv) rfl (fun _ => rfl) rfl (en.block hb1) rfl ?_)|(refine oLen ?_; refine LA_len rfl _ rfl rfl (hlenv _ en) ?_)|(refine oD 35 ?_; refine LA_rem rfl rfl rfl hcw (by omega) (by dsimp only [fits]; omega) ?_; rw [← hk1])|(refine oD 9 ?_; refine LA_stop (hK _ _ (LX_var rfl rfl (Nat.le_of_ble_eq_true rfl) (fun _ => rfl) (fun _ => rfl) (fun _ => rfl) rfl a1A (fun bk wk ek hbk hk0 => ?_))); clear hK K; have enk := en.trans ek; refine LX_la (by kernel_rfl) (fun K hK => ?_))|(refine oD 40 ?_; refine LA_stop (hK _ _ (LX_pick 39 rfl (fun v39 w39 e39 h39 => ?_))); clear hK K; obtain ⟨b39, hb39, rfl, hh39⟩ := h39; refine LX_la (by kernel_rfl) (fun K hK => ?_); refine LA_binV (c := .bool false) rfl rfl rfl (fun _ => rfl) ?_)|refine wOp ?_|(refine wCm ?_ ?_<;>intro hc)|(refine oCv ?_;first|(refine oC 27 ?_; refine LA_call1 (f := 27) rfl rfl rfl  (.pred (acA 0 sv)) (by intro u1 w e hu1; (try obtain rfl : u1 = _ := hu1); exact (abA _ hsv).mono (a3A (Nat.zero_le _))) ?_))|(refine wNl hK ?_;clear hK K))|(refine oCX ?_;first|refine CX_seqN (id := 14) (ι := Nat × Nat) (fun i => ⟨141, [{ target := .collected i.1, args := #[] }, { target := .collected D1, args := #[] }]⟩) (fun i => [(0, .val v), (5, .val sv), (6, .val (.pointer (some ⟨ball, 0, none⟩))), (8, .val (.pointer (some ⟨bn, 0, none⟩))), (9, .val (.pointer (some ⟨bk, 0, none⟩)))]) (fun i W => Ext w1 W ∧ W.heap[bn]? = some (.cells #[.int .i64 (i.2 : Nat)] tI6 (0, 0)) ∧ W.heap[bk]? = some (.cells #[.int .i64 ((k1 + 1 : Nat) : Int)] tI6 (0, 0)) ∧ i.2 = min (k1 + 1) L.length ∧ DsOK w.heap.size [{ target := .collected i.1, args := #[] }, { target := .collected D1, args := #[] }] W) ?_ ?_)|refine wG ?_|(refine wCR ?_;intro K hK)|fail)
  all_goals skip
  · refine CX_pick 42 rfl (fun v42 w42 e42 h42 => ?_)
    obtain ⟨bb, hbb, rfl, hhb⟩ := h42
    have x42 : Ext wk w42 := e39.trans e42
    have e1k : (1 : Int) + (k1 : Int) = ((k1 + 1 : Nat) : Int) := by omega
    have hn42 : w42.heap[bn]? = some (.cells #[.int .i64 ((0 : Nat) : Int)] tI6 (0, 0)) := (ek.trans x42).block hn0
    have hk42 : w42.heap[bk]? = some (.cells #[.int .i64 ((k1 + 1 : Nat) : Int)] tI6 (0, 0)) := by rw [← e1k]; exact x42.block hk0
    have x1 : Ext w1 w42 := enk.trans x42
    refine (CX_range (α := U32) (p := 43) (M := cnt p TOP) (Kp := KpT w1 (fun t => t == tI6)) (S := fun xs => vU xs = L) (Sp := fun pre => vU pre <+: L) (enc := fun x => .int .u32 x.1) (Nat.le_of_ble_eq_true rfl) rfl (run_call_func Tryz.func63 rfl rfl)
      (fun w' e => ?_) (fun h k => h.trans k) (fun h => KpT.ext h) (fun W l o o' hl ho hc _ => KpT.putObj o' (Nat.le_trans x1.size hl) ho hc)
      (fun pre W => Ext w1 W ∧ W.heap[bn]? = some (.cells #[.int .i64 (pre.length : Nat)] tI6 (0, 0)) ∧ W.heap[bk]? = some (.cells #[.int .i64 ((k1 + 1 : Nat) : Int)] tI6 (0, 0)) ∧ pre.length < k1 + 1)
      (fun c pre W => c = .exit 2 ∧ Ext w1 W ∧ W.heap[bn]? = some (.cells #[.int .i64 ((k1 + 1 : Nat) : Int)] tI6 (0, 0)) ∧ W.heap[bk]? = some (.cells #[.int .i64 ((k1 + 1 : Nat) : Int)] tI6 (0, 0)) ∧ pre.length = k1 + 1)
      ?_ ?_ (fun w' e => ⟨x1.trans e, e.block hn42, e.block hk42, Nat.succ_pos _⟩) (fun x => [(8, .val (.pointer (some ⟨bn, 0, none⟩))), (9, .val (.pointer (some ⟨bk, 0, none⟩)))]) ?_ ?_ ?_ ?_)
    · have := all_stops (w0 := w1) (A := TT) (B := TT) (.inr hs) (e.block hhb) hT1 (x1.trans e) (bad := fun t => t == tI6) (by decide) (by decide)
      rw [← hL] at this
      exact this
    · rintro pre W W' row ⟨h1, h2, h3, h4⟩ hg hr
      exact ⟨kept_ext h1 x1.size hg (fun r e => (hr r e).1), kept_cells h2 hg (fun r e => (hr r e).2), kept_cells h3 hg (fun r e => (hr r e).2), h4⟩
    · rintro c pre W W' row ⟨h0, h1, h2, h3, h4⟩ hg hr
      exact ⟨h0, kept_ext h1 x1.size hg (fun r e => (hr r e).1), kept_cells h2 hg (fun r e => (hr r e).2), kept_cells h3 hg (fun r e => (hr r e).2), h4⟩
    · intro l u W
      exact CY_skip (PX_asg (Ext.refl _) (by repeat' (first | exact Sub.nil | refine Sub.val rfl (by first | with_reducible rfl | (congr 1; omega)) ?_ | refine Sub.same rfl ?_)))
    · rintro Bd l pre u W hBd ⟨h1, h2, h3, h4⟩ hlen
      have e1p : ((pre.length : Nat) : Int) + 1 = ((pre.length + 1 : Nat) : Int) := by omega
      refine CY_block (CY_seq (CY_region (then_out (block_out ownPostG_out)) (by kernel_rfl) (LX_la (by kernel_rfl) (fun K hK => ?_))))
      repeat' (first|(refine oLA ?_;first|refine LA_pass rfl ?_|(refine oD 44 ?_; refine LA_loadB (c := .int .i64 (pre.length : Nat)) rfl (fun _ => rfl) rfl h2 rfl ?_)|(refine oD 45 ?_; refine LA_addF rfl rfl rfl (by dsimp only [fits]; omega) ?_; rw [e1p])|(refine LA_stop (hK _ _ (LX_store1 rfl rfl rfl h2 (fun _ => rfl) (Nat.lt_succ_self 0) rfl rfl (fun w4 e4 => ?_))); clear hK K; dsimp only [LA.vals]; refine LX_la (by kernel_rfl) (fun K hK => ?_))|refine wOp ?_|(refine wCm ?_ ?_<;>intro hc)|(refine wNl hK ?_;clear hK K))|refine wG ?_|(refine wCR ?_;intro K hK)|fail)
      all_goals skip
      have hset : (#[.int .i64 ((pre.length : Nat) : Int)] : Array Value).setIfInBounds 0 (.int .i64 ((pre.length + 1 : Nat) : Int)) = #[.int .i64 ((pre.length + 1 : Nat) : Int)] := rfl
      rw [hset]
      have hb4 := e4.block h2
      have hne : bk ≠ bn := fun e => by rw [e] at hbk; have := (Array.getElem?_eq_some_iff.1 hn0).1; have := hbk; omega
      have f1 : Fr (fun k => k = bn) W (w4.setRow bn #[.int .i64 ((pre.length + 1 : Nat) : Int)]) := Fr.setRow (R := fun k => k = bn) (Fr.of e4) rfl _
      have hb5 : (w4.setRow bn #[.int .i64 ((pre.length + 1 : Nat) : Int)]).heap[bn]? = some (.cells #[.int .i64 ((pre.length + 1 : Nat) : Int)] tI6 (0, 0)) := setRow_heap w4 bn _ _ _ _ hb4
      have hk5 := f1.at h3 hne
      obtain ⟨w5, hw5⟩ : ∃ w5, w5 = w4.setRow bn #[.int .i64 ((pre.length + 1 : Nat) : Int)] := ⟨_, rfl⟩
      rw [← hw5] at f1 hb5 hk5 ⊢
      clear hw5
      have hfin : ∀ w7, Ext w5 w7 → Ext w1 w7 ∧ KpT w1 (fun t => t == tI6) W w7 ∧ ∀ B, KeepsFrom B W w7 := fun w7 e7 => by
        have f2 : Fr (fun k => k = bn) W w7 := f1.trans (Fr.of e7)
        have hx : Ext w1 W → Ext w1 w7 := fun h => Fr.ext h f2 (fun k hk => by subst hk; exact hbn)
        obtain ⟨g1, g2⟩ := kp_fr (w0 := w1) (bad := fun t => t == tI6) f2 hx (fun k hk => by subst hk; exact ⟨_, _, _, h2, by decide⟩)
        exact ⟨hx h1, g1, g2⟩
      refine PY_then (CY_seq (CY_region (then_out (block_out ownPostG_out)) (by kernel_rfl) (LX_la (by kernel_rfl) (fun K hK => ?_))))
      by_cases hend : pre.length + 1 = k1 + 1
      · skip
        repeat' (first|(refine oLA ?_;first|refine LA_pass rfl ?_|(refine oD 46 ?_; refine LA_loadB (c := .int .i64 ((pre.length + 1 : Nat) : Int)) rfl (fun _ => rfl) rfl hb5 rfl ?_)|(refine oD 47 ?_; refine LA_loadB (c := .int .i64 ((k1 + 1 : Nat) : Int)) rfl (fun _ => rfl) rfl hk5 rfl ?_)|refine wOp ?_|(refine wCm ?_ ?_<;>intro hc)|(refine wNl hK ?_;clear hK K))|refine wG ?_|(refine wCR ?_;intro K hK)|fail)
        all_goals skip
        refine PY_then (CY_condT rfl (CY_exit (PX_blockO (by decide) (PX_ownX (fun w7 e7 => ?_)))))
        obtain ⟨g1, g2, g3⟩ := hfin w7 e7
        exact ⟨g3 _, rfl, g1, by rw [← hend]; exact e7.block hb5, e7.block hk5, by rw [List.length_append]; exact hend⟩
      · skip
        repeat' (first|(refine oLA ?_;first|refine LA_pass rfl ?_|(refine oD 46 ?_; refine LA_loadB (c := .int .i64 ((pre.length + 1 : Nat) : Int)) rfl (fun _ => rfl) rfl hb5 rfl ?_)|(refine oD 47 ?_; refine LA_loadB (c := .int .i64 ((k1 + 1 : Nat) : Int)) rfl (fun _ => rfl) rfl hk5 rfl ?_)|refine wOp ?_|(refine wCm ?_ ?_<;>intro hc)|(refine wNl hK ?_;clear hK K))|refine wG ?_|(refine wCR ?_;intro K hK)|fail)
        all_goals skip
        refine PY_then (CY_condF rfl (CY_skip (PX_blockN (PX_ownN (fun w7 e7 => ?_)))))
        obtain ⟨g1, g2, g3⟩ := hfin w7 e7
        exact ⟨g3 _, g2, g1, by rw [List.length_append]; exact e7.block hb5, e7.block hk5, by rw [List.length_append, List.length_singleton]; omega⟩
    · rintro D us W hD hus ⟨h1, h2, h3, h4⟩ hDd
      have hus' : vU us = L := hus
      have hul : us.length = L.length := by rw [← hus', List.length_map]
      exact PX_blockN (PX_cutN (D, us.length) (fun w7 e7 => ⟨h1.trans e7, e7.block h2, e7.block h3, by dsimp only; omega, hds.more (Ext.refl _) (Nat.le_trans (he.trans x1).size hD) (Nat.le_trans x1.size hD) ((h1.trans e7).keeps _) (e7.block hDd)⟩) rfl (by repeat' (first | exact Sub.nil | refine Sub.val rfl (by first | with_reducible rfl | (congr 1; omega)) ?_ | refine Sub.same rfl ?_)))
    · rintro D c pre W hD hpre ⟨rfl, h1, h2, h3, h4⟩ hDd
      have hpl : pre.length ≤ L.length := by have := hpre.length_le; rwa [List.length_map] at this
      exact CX_exit (PX_blockX (PX_cutN (D, k1 + 1) (fun w7 e7 => ⟨h1.trans e7, e7.block h2, e7.block h3, by dsimp only; omega, hds.more (Ext.refl _) (Nat.le_trans (he.trans x1).size hD) (Nat.le_trans x1.size hD) ((h1.trans e7).keeps _) (e7.block hDd)⟩) rfl (by repeat' (first | exact Sub.nil | refine Sub.val rfl (by first | with_reducible rfl | (congr 1; omega)) ?_ | refine Sub.same rfl ?_))))
  -- the numbers again, the other way round
  rintro ⟨D2, nn⟩ w2 ⟨he2, hn2, hk2', hnn, hds2⟩
  dsimp only at hn2 hnn hds2 ⊢
  have hT2 := hT1.ext he2
  have hs2 := hs.ext he2
  have hb2 := he2.block hb1
  have hrv2 := hrv.ext he2
  have hN2 : ∀ w', Ext w2 w' → NSet TT TT w' sv p := fun w' e => .inr (hs2.ext e)
  have hLt : ∀ i, i < L.length → ∃ x : Nat, x < 4294967296 ∧ p x = true ∧ cnt p x = i ∧ L.getD i 0 = (x : Int) := fun i hi => by
    obtain ⟨x, h1, h2, h3, h4⟩ := getD_listS p (n := TOP) (k := i) (by omega)
    exact ⟨x, by omega, h2, h3, by rw [hL]; exact h4⟩
  have hlenv2 : ∀ w', Ext w2 w' → HasC w' (.val rv) L.length 1 (L.map (Value.int .u32)) := fun w' e => (HasI.ownV (hrv2.ext e)).c
  have hlen : ∀ w', Ext w2 w' → _ := fun w' e => len_s (hN2 w' e)
  rw [← hLl] at hlen
  have hL3 : L.length ≤ 3000 := by omega
  repeat' (first|(refine oLA ?_;first|refine LA_pass rfl ?_|(refine oD 49 ?_; refine LA_loadB (c := rv) rfl (fun _ => rfl) rfl hb2 rfl ?_)|(refine oD 57 ?_; refine LA_loadB (c := rv) rfl (fun _ => rfl) rfl hb2 rfl ?_)|(refine oD 55 ?_; refine LA_loadB (c := .int .i64 (nn : Nat)) rfl (fun _ => rfl) rfl hn2 rfl ?_)|(refine oD 56 ?_; refine LA_loadB (c := .int .i64 ((k1 + 1 : Nat) : Int)) rfl (fun _ => rfl) rfl hk2' rfl ?_)|(refine oD 50 ?_; refine LA_len rfl _ rfl rfl (hlenv2 _ (Ext.refl _)) ?_)|(refine oD 58 ?_; refine LA_len rfl _ rfl rfl (hlenv2 _ (Ext.refl _)) ?_)|(refine oD 64 ?_; refine LA_len rfl _ rfl rfl (hlenv2 _ e10) ?_)|refine LA_min2 rfl rfl rfl ?_|(refine oD 63 ?_; refine LA_stop (hK _ _ (LX_pick 10 rfl (fun v10 w10 e10 h10 => ?_))); clear hK K; obtain ⟨bt, kv0, lv0, rfl, hS0, hB0⟩ := h10; refine LX_la (by kernel_rfl) (fun K hK => ?_); refine LA_loadB (c := rv) rfl (fun _ => rfl) rfl (e10.block hb2) rfl ?_)|refine wOp ?_|(refine wCm ?_ ?_<;>intro hc)|(refine oCv ?_;first|(refine oC 15 ?_; refine LA_call1 (f := 15) rfl rfl rfl  (.val (.int .i64 L.length)) (by intro u1 w e hu1; (try obtain rfl : u1 = _ := hu1); exact hlen _ e) ?_)|(refine oC 11 ?_; refine LA_call0 (f := 11) rfl rfl  (.pred (rsP (fun k => w2.heap.size ≤ k) TT (fun _ => false))) (by intro w e; exact new_c _ (fun k hk => Nat.le_trans e.size hk)) ?_))|(refine wNl hK ?_;clear hK K))|refine wG ?_|(refine wCR ?_;intro K hK)|fail)
  all_goals skip
  have hm0 : (fun _ => false) = memb (L.drop L.length) := by
    rw [List.drop_length]; funext y; unfold memb; exact (decide_eq_false (by simp)).symm
  rw [hm0] at hS0
  refine CX_loopV (ι := Nat × Value × Value) (fun j => [(0, .val v), (5, .val sv), (6, .val (.pointer (some ⟨ball, 0, none⟩))), (10, .val (.pointer (some ⟨bt, 0, none⟩))), (11, .val (.int .i64 ((j.1 : Int) - 1)))])
    (fun j w' => Ext w2 w' ∧ j.1 ≤ L.length ∧ RS TT w' bt j.2.1 j.2.2 (memb (L.drop j.1)) ∧ ∀ q, onw bt j.2.1 j.2.2 q → w2.heap.size ≤ q) (fun j => j.1)
    (fun w' e => ⟨(L.length, kv0, lv0), ⟨e10.trans e, Nat.le_refl _, hS0.ext e, hB0⟩, (by repeat' (first | exact Sub.nil | refine Sub.val rfl (by first | with_reducible rfl | (congr 1; omega)) ?_ | refine Sub.same rfl ?_))⟩) ?_
  rintro ⟨k, kv, lv⟩ w3 ⟨he3, hk0, hS3, hB3⟩
  dsimp only at hk0 hS3 hB3 ⊢
  have hb3 := he3.block hb2
  have hrv3 := hrv2.ext he3
  have hT3 := hT2.ext he3
  cases k with
  | succ i =>
    have ei : (((i + 1 : Nat) : Int) - 1) = (i : Int) := by omega
    rw [ei]
    obtain ⟨x, x1, x2, x3, x4⟩ := hLt i (by omega)
    have hhas : ∀ w', Ext w3 w' → _ := fun w' e => has_s (hN2 w' (he3.trans e)) x1
    have hrank : ∀ w', Ext w3 w' → _ := fun w' e => rank_s (x := x) (hN2 w' (he3.trans e)) (by omega)
    rw [x2] at hhas
    rw [show min x TOP = x by omega, x3] at hrank
    have hadd : ∀ w', Ext w3 w' → _ := fun w' e => add_s (hS3.ext e) (hT3.ext e) tt x1
    rw [a6A (by omega) x4] at hadd
    by_cases h0 : 0 < i
    · obtain ⟨y, y1, y2, y3, y4⟩ := hLt (i - 1) (by omega)
      have hyx : y < x := by
        refine Classical.byContradiction fun hc => ?_
        have := cnt_mono p (m := x) y (by omega)
        omega
      have ei1 : (i : Int) - 1 = ((i - 1 : Nat) : Int) := by omega
      repeat' (first|(refine oLA ?_;first|refine LA_pass rfl ?_|(refine oD 73 ?_; refine LA_loadB (c := rv) rfl (fun _ => rfl) rfl hb3 rfl ?_)|(refine oD 78 ?_; refine LA_loadB (c := rv) rfl (fun _ => rfl) rfl hb3 rfl ?_)|(refine oD 86 ?_; refine LA_loadB (c := rv) rfl (fun _ => rfl) rfl hb3 rfl ?_)|(refine oD 95 ?_; refine LA_loadB (c := rv) rfl (fun _ => rfl) rfl hb3 rfl ?_)|(refine oD 105 ?_; refine LA_loadB (c := rv) rfl (fun _ => rfl) rfl hb3 rfl ?_)|(refine oD 80 ?_; refine LA_indexN rfl _ rfl (fun _ => rfl) rfl (HasI.ownV hrv3) rfl (by omega) ?_; rw [x4])|(refine oD 88 ?_; refine LA_indexN rfl _ rfl (fun _ => rfl) rfl (HasI.ownV hrv3) rfl (by omega) ?_; rw [x4])|(refine oD 97 ?_; refine LA_indexN rfl _ rfl (fun _ => rfl) rfl (HasI.ownV hrv3) rfl (by omega) ?_; rw [x4])|(refine oD 107 ?_; refine LA_indexN rfl _ rfl (fun _ => rfl) rfl (HasI.ownV hrv3) rfl (by omega) ?_; rw [x4])|(refine oD 109 ?_; refine LA_stop (hK _ _ (LX_call2 rfl (Nat.le_of_ble_eq_true rfl) rfl rfl rfl (fun v w' => v = .tuple #[] ∧ ∃ wz, Ext w3 wz ∧ Mut TT wz bt kv lv (memb (L.drop i)) w') (fun w8 e8 => (hadd _ e8).mono fun en w' h => ⟨_, h.1, rfl, _, e8, h.2⟩) (fun v w4 hm => ?_))); clear hK K)|(refine oD 75 ?_; refine LA_subF rfl rfl rfl (by dsimp only [fits]; omega) ?_; rw [ei1])|(refine oD 76 ?_; refine LA_indexN rfl _ rfl (fun _ => rfl) rfl (HasI.ownV hrv3) rfl (by omega) ?_; rw [y4])|refine wOp ?_|(refine wCm ?_ ?_<;>intro hc)|(refine oCv ?_;first|(refine oC 20 ?_; refine LA_call2 (f := 20) rfl rfl rfl rfl  (.val (.bool true)) (by intro u1 u2 w e hu1 hu2; (try obtain rfl : u1 = _ := hu1); (try obtain rfl : u2 = _ := hu2); exact hhas _ e) ?_)|(refine oC 16 ?_; refine LA_call2 (f := 16) rfl rfl rfl rfl  (.val (.int .i64 i)) (by intro u1 u2 w e hu1 hu2; (try obtain rfl : u1 = _ := hu1); (try obtain rfl : u2 = _ := hu2); exact hrank _ e) ?_))|(refine wNl hK ?_;clear hK K))|refine wG ?_|(refine wCR ?_;intro K hK)|fail)
      all_goals skip
      obtain ⟨rfl, wz, ez, kv', lv', hS', hF, hl1, hl2⟩ := hm
      have xz : Ext w2 wz := he3.trans ez
      have xw4 : Ext w2 w4 := Fr.ext xz hF hB3
      have hB4 := onw_loc hB3 xz.size hl1 hl2
      repeat' (first|(refine oLA ?_;first|refine LA_pass rfl ?_|refine wOp ?_|(refine wCm ?_ ?_<;>intro hc)|(refine wNl hK ?_;clear hK K))|refine wG ?_|(refine wCR ?_;intro K hK)|fail)
      all_goals skip
      exact PX_rndV (i, kv', lv') (fun w5 e5 => ⟨xw4.trans e5, by dsimp only; omega, hS'.ext e5, hB4⟩) (by dsimp only; omega) (by repeat' (first | exact Sub.nil | refine Sub.val rfl (by first | with_reducible rfl | (congr 1; omega)) ?_ | refine Sub.same rfl ?_))
    · skip
      repeat' (first|(refine oLA ?_;first|refine LA_pass rfl ?_|(refine oD 73 ?_; refine LA_loadB (c := rv) rfl (fun _ => rfl) rfl hb3 rfl ?_)|(refine oD 78 ?_; refine LA_loadB (c := rv) rfl (fun _ => rfl) rfl hb3 rfl ?_)|(refine oD 86 ?_; refine LA_loadB (c := rv) rfl (fun _ => rfl) rfl hb3 rfl ?_)|(refine oD 95 ?_; refine LA_loadB (c := rv) rfl (fun _ => rfl) rfl hb3 rfl ?_)|(refine oD 105 ?_; refine LA_loadB (c := rv) rfl (fun _ => rfl) rfl hb3 rfl ?_)|(refine oD 80 ?_; refine LA_indexN rfl _ rfl (fun _ => rfl) rfl (HasI.ownV hrv3) rfl (by omega) ?_; rw [x4])|(refine oD 88 ?_; refine LA_indexN rfl _ rfl (fun _ => rfl) rfl (HasI.ownV hrv3) rfl (by omega) ?_; rw [x4])|(refine oD 97 ?_; refine LA_indexN rfl _ rfl (fun _ => rfl) rfl (HasI.ownV hrv3) rfl (by omega) ?_; rw [x4])|(refine oD 107 ?_; refine LA_indexN rfl _ rfl (fun _ => rfl) rfl (HasI.ownV hrv3) rfl (by omega) ?_; rw [x4])|(refine oD 109 ?_; refine LA_stop (hK _ _ (LX_call2 rfl (Nat.le_of_ble_eq_true rfl) rfl rfl rfl (fun v w' => v = .tuple #[] ∧ ∃ wz, Ext w3 wz ∧ Mut TT wz bt kv lv (memb (L.drop i)) w') (fun w8 e8 => (hadd _ e8).mono fun en w' h => ⟨_, h.1, rfl, _, e8, h.2⟩) (fun v w4 hm => ?_))); clear hK K)|refine wOp ?_|(refine wCm ?_ ?_<;>intro hc)|(refine oCv ?_;first|(refine oC 20 ?_; refine LA_call2 (f := 20) rfl rfl rfl rfl  (.val (.bool true)) (by intro u1 u2 w e hu1 hu2; (try obtain rfl : u1 = _ := hu1); (try obtain rfl : u2 = _ := hu2); exact hhas _ e) ?_)|(refine oC 16 ?_; refine LA_call2 (f := 16) rfl rfl rfl rfl  (.val (.int .i64 i)) (by intro u1 u2 w e hu1 hu2; (try obtain rfl : u1 = _ := hu1); (try obtain rfl : u2 = _ := hu2); exact hrank _ e) ?_))|(refine wNl hK ?_;clear hK K))|refine wG ?_|(refine wCR ?_;intro K hK)|fail)
      all_goals skip
      obtain ⟨rfl, wz, ez, kv', lv', hS', hF, hl1, hl2⟩ := hm
      have xz : Ext w2 wz := he3.trans ez
      have xw4 : Ext w2 w4 := Fr.ext xz hF hB3
      have hB4 := onw_loc hB3 xz.size hl1 hl2
      repeat' (first|(refine oLA ?_;first|refine LA_pass rfl ?_|refine wOp ?_|(refine wCm ?_ ?_<;>intro hc)|(refine wNl hK ?_;clear hK K))|refine wG ?_|(refine wCR ?_;intro K hK)|fail)
      all_goals skip
      exact PX_rndV (i, kv', lv') (fun w5 e5 => ⟨xw4.trans e5, by dsimp only; omega, hS'.ext e5, hB4⟩) (by dsimp only; omega) (by repeat' (first | exact Sub.nil | refine Sub.val rfl (by first | with_reducible rfl | (congr 1; omega)) ?_ | refine Sub.same rfl ?_))
  | zero =>
    rw [List.drop_zero, hL, a4A hpt] at hS3
    have hN3 : RSet TT TT w3 (.pointer (some ⟨bt, 0, none⟩)) p := ⟨bt, kv, lv, rfl, hS3, fun _ _ => trivial⟩
    have hs3 := hs2.ext he3
    have hv3 := h.ext ((he.trans he2).trans he3)
    repeat' (first|(refine oLA ?_;first|refine LA_pass rfl ?_|(refine oD 111 ?_; refine LA_len rfl _ rfl rfl (HasI.val hv3).c ?_)|refine wOp ?_|(refine wCm ?_ ?_<;>intro hc)|(refine wNl hK ?_;clear hK K))|refine wG ?_|(refine wCR ?_;intro K hK)|fail)
    all_goals skip
    refine CX_loop (ι := Nat) (fun i => [(0, .val v), (5, .val sv), (10, .val (.pointer (some ⟨bt, 0, none⟩))), (110, .val v), (111, .val (.int .i64 ys.length)), (112, .val (.int .i64 i))]) (fun i => i ≤ ys.length) (fun i => ys.length - i) 0 (Nat.zero_le _) (by repeat' (first | exact Sub.nil | refine Sub.val rfl (by first | with_reducible rfl | (congr 1; omega)) ?_ | refine Sub.same rfl ?_)) ?_
    intro i hi0
    by_cases hi : i < ys.length
    · have hmem : ys.getD i 0 ∈ ys := by rw [List.getD_eq_getElem?_getD, List.getElem?_eq_getElem hi]; exact List.getElem_mem hi
      have hb := hu _ hmem
      obtain ⟨x, hx⟩ := Int.eq_ofNat_of_zero_le hb.1
      have hx' : ys.getD i 0 = ((x : Nat) : Int) := hx
      have hpx : p x = true := by rw [hp]; unfold memb; rw [← hx']; exact decide_eq_true hmem
      have hhas : ∀ w', Ext w3 w' → _ := fun w' e => has_s (B := TT) (A := TT) (x := x) (.inr (hN3.ext e)) (by omega)
      rw [hpx] at hhas
      repeat' (first|(refine oLA ?_;first|refine LA_pass rfl ?_|(refine oD 118 ?_; refine LA_indexN rfl _ rfl (fun _ => rfl) rfl (HasI.val hv3) rfl hi ?_; rw [hx'])|refine wOp ?_|(refine wCm ?_ ?_<;>intro hc)|(refine oCv ?_;first|(refine oC 20 ?_; refine LA_call2 (f := 20) rfl rfl rfl rfl  (.val (.bool true)) (by intro u1 u2 w e hu1 hu2; (try obtain rfl : u1 = _ := hu1); (try obtain rfl : u2 = _ := hu2); exact hhas _ e) ?_))|(refine wNl hK ?_;clear hK K))|refine wG ?_|(refine wCR ?_;intro K hK)|fail)
      all_goals skip
      exact PX_rnd (i + 1) hi (by omega) (by repeat' (first | exact Sub.nil | refine Sub.val rfl (by first | with_reducible rfl | (congr 1; omega)) ?_ | refine Sub.same rfl ?_))
    · obtain rfl : i = ys.length := by omega
      have hsp : ∀ w' u, Ext w3 w' → OwnP w3.heap.size tSp .u64 w' u (spL p TOP) → _ := fun w' u e hu' => spans_s (A := TT) (B := TT) (xs := spL p TOP) hu'.slP (fun x hx => by have := sp_bd p TOP x hx; omega) (hT3.ext e) tt tt
      rw [hLs] at hsp
      have hru : ∀ w', Ext w3 w' → _ := fun w' e => runs_s (B := TT) (A := TT) (.inr (hs3.ext e)) (hT3.ext e)
      have hsm : ∀ w' u u', Ext w3 w' → RSet TT TT w' u p → RSet TT TT w' u' p → Fc Tryz.prog 17 #[u, u'] w' (Ret w' (.val (.bool true))) := fun w' u u' e h1 h2 => ret_eq (by rw [decide_eq_true rfl]) (same_s (B := TT) (A := TT) (.inr h1) (.inr h2) (hT3.ext e))
      repeat' (first|(refine oLA ?_;first|refine LA_pass rfl ?_|refine wOp ?_|(refine wCm ?_ ?_<;>intro hc)|(refine oCv ?_;first|(refine oD 125 ?_; refine oC 17 ?_; refine LA_call2 (f := 17) rfl rfl rfl rfl  (.val (.bool true)) (by intro u1 u2 w e hu1 hu2; (try obtain rfl : u1 = _ := hu1); (try obtain rfl : u2 = _ := hu2); exact hsm _ _ _ e (hs3.ext e) (hN3.ext e)) ?_)|(refine oD 129 ?_; refine oC 17 ?_; refine LA_call2 (f := 17) rfl rfl rfl rfl  (.val (.bool true)) (by intro u1 u2 w e hu1 hu2; (try obtain rfl : u1 = _ := hu1); (try obtain rfl : u2 = _ := hu2); exact hsm _ _ _ e (hN3.ext e) (hs3.ext e)) ?_)|(refine oC 19 ?_; refine LA_call1 (f := 19) rfl rfl rfl  (.pred (ownP w3.heap.size tSp .u64 (spL p TOP))) (by intro u1 w e hu1; (try obtain rfl : u1 = _ := hu1); exact (hru _ e).mono (ret_baseP e.size rfl)) ?_)|(refine oC 14 ?_; refine LA_call1 (f := 14) rfl rfl rfl  (.pred (rsP TT TT p)) (by intro u1 w e hu1; (try obtain rfl : u1 = _ := hu1); exact hsp _ _ e hu1) ?_)|(refine oD 136 ?_; refine oC 17 ?_; refine LA_call2 (f := 17) rfl rfl rfl rfl  (.val (.bool true)) (by intro u1 u2 w e hu1 hu2; (try obtain rfl : u1 = _ := hu1); (try obtain rfl : u2 = _ := hu2); exact hsm _ _ _ e hu1 (hs3.ext e)) ?_)|(refine oC 10 ?_; refine LA_call0 (f := 10) rfl rfl  (.val (.bool true)) (by intro w e; exact a5A _ (hT3.ext e)) ?_))|(refine wNl hK ?_;clear hK K))|refine wG ?_|(refine wCR ?_;intro K hK)|fail)
      all_goals skip
      exact PX_retMV rfl rfl ((he.trans he2).trans he3) (hds2.kept (he3.keeps _)) (.inr rfl)
end Go.Proofs.YtfcioiobhpcngaaGreatDoor
end
