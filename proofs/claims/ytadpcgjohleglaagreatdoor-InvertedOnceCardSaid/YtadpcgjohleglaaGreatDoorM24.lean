import Derived.Test.YtadpcgjohleglaaGreatDoorM21
import Derived.Test.YtadpcgjohleglaaGreatDoorM22
import Derived.Test.YtadpcgjohleglaaGreatDoorM23
section
set_option linter.unusedSimpArgs false
set_option linter.unusedVariables false
set_option maxRecDepth 3000
namespace Go.Proofs.YtadpcgjohleglaaGreatDoor
open Go.LA Go.ArrP Go.RowKit
def akA : Nat → List Int
  | 0 => []
  | k + 1 => akA k ++ [(k : Int)]
theorem ahA : ∀ k, (akA k).length = k
  | 0 => rfl
  | k + 1 => by simp [akA, ahA k]
theorem agA {x : Int} : ∀ k, x ∈ akA k ↔ 0 ≤ x ∧ x < (k : Int)
  | 0 => by simp only [akA, List.not_mem_nil, false_iff]; omega
  | k + 1 => by
    simp only [akA, List.mem_append, agA k, List.mem_singleton]
    omega
theorem arA {ids : List Int} {k : Nat} (T : Nat) : cnt (sumP ids (k + 1)) T = cnt (sumP ids k) T + cnt (idP ids k) T := cnt_add T fun i _ => by
  have h1 := a1A (ids := ids) (x := i) (k + 1)
  have h2 := a1A (ids := ids) (x := i) k
  have h3 := idP_iff (ids := ids) (id := k) (x := i)
  obtain ⟨j, hj⟩ : ∃ j, j = ids.getD i 0 := ⟨_, rfl⟩
  rw [← hj] at h1 h2 h3
  by_cases c3 : idP ids k i = true
  · have a3 := h3.1 c3
    rw [if_pos (h1.2 ⟨a3.1, by omega, by omega⟩), if_pos c3, if_neg (fun h => by have := (h2.1 h).2.2; omega)]
  · rw [if_neg c3]
    by_cases c2 : sumP ids k i = true
    · have a2 := h2.1 c2
      rw [if_pos c2, if_pos (h1.2 ⟨a2.1, a2.2.1, by omega⟩)]
    · rw [if_neg c2, if_neg (fun h => by have a1 := h1.1 h; exact c2 (h2.2 ⟨a1.1, a1.2.1, by have : ¬ j = k := fun e => c3 (h3.2 ⟨a1.1, e⟩); omega⟩))]
theorem asA {p : Nat → Bool} {pre' pre : List U32} {u : U32} (h : pre = pre' ++ [u]) (hp : vU pre <+: listS p TOP) : ∃ x : Nat, u.1 = (x : Int) ∧ p x = true := by
  have h1 : u.1 ∈ vU pre := by rw [h]; simp [vU]
  have h2 := hp.subset h1
  obtain ⟨i, h3, h4, h5⟩ := (listS_mem _ _ _).1 h2
  exact ⟨i, h5, h4⟩
theorem rowP0 (ps : Nat → Nat → Bool) (id : Int) : rowP 0 ps id = fun _ => false := by unfold rowP; rw [if_neg (by omega)]
theorem amP0 (ps : Nat → Nat → Bool) (ys : List Int) : amP 0 ps ys ys.length = fun _ => false := by
  funext x
  refine acA fun h => ?_
  obtain ⟨j, h1, h2, h3, h4⟩ := (aeA _).1 h
  omega
theorem alA {k : IntKind} {w : World} {v : Value} {xs : List Int} (h : SlI k w v xs) : v.cells = #[v] := by
  obtain ⟨_, a, cap, rfl, -⟩ := h; rfl
set_option maxHeartbeats 4000000 in
theorem ionce_s (w : World) (hT : Tab w) {v : Value} {ids : List Int} (h : SlI .i64 w v ids) (many : Int) : Fc Tryz.prog 5 #[v, .int .i64 many] w (Ret w (.val (.bool true))) := by
  have hl := h.len
  have htop := TOP_eq
  have hvc := alA h
  refine Fc.ofM (args := [_, _]) Tryz.func5 rfl rfl Tryz.ntmps5 (Nat.le_of_ble_eq_true rfl) ?_
  refine CX_regN (ι := Nat × Nat) (fun i => ⟨123, []⟩) (fun i => [(0, .val v), (1, .val (.int .i64 many)), (2, .val (.pointer (some ⟨i.1, 0, none⟩))), (4, .val (.pointer (some ⟨i.2, 0, none⟩)))]) (fun i W => Ext w W ∧ W.heap[i.1]? = some (.cells #[v] 22 (0, 0)) ∧ w.heap.size ≤ i.2 ∧ W.heap[i.2]? = some (.cells #[.bool false] 4 (0, 0))) ?_ ?_
  · skip
    repeat' (first|(refine oLA ?_;first|refine LA_pass rfl ?_|refine LA_box rfl rfl ?_|(refine oD 4 ?_; refine LA_stop (hK _ _ (LX_pick 2 rfl (fun v2 w2 e2 h2 => LX_al rfl (Nat.le_of_ble_eq_true rfl) (fun _ => rfl) (fun bok w3 e3 hbok hb3 => ?_)))); clear hK K; obtain ⟨bx, hbx, rfl, hbx2⟩ := h2; refine LX_la (by kernel_rfl) (fun K hK => ?_))|refine wOp ?_|(refine wCm ?_ ?_<;>intro hc)|(refine wNl hK ?_;clear hK K))|refine wG ?_|(refine wCR ?_;intro K hK)|fail)
    all_goals skip
    rw [hvc] at hbx2
    exact PX_cutN (bx, bok) (fun w7 e7 => ⟨(e2.trans e3).trans e7, (e3.trans e7).block hbx2, Nat.le_trans e2.size hbok, e7.block hb3⟩) rfl (by repeat' (first | exact Sub.nil | refine Sub.val rfl (by first | with_reducible rfl | (congr 1; omega)) ?_ | refine Sub.same rfl ?_))
  rintro ⟨bx, bok⟩ w1 ⟨he, hbx, hok0, hbok⟩
  dsimp only at hbx hok0 hbok ⊢
  replace hT := hT.ext he
  have h1 := h.ext he
  by_cases hbig : 300 < (ids.length : Int)
  · skip
    repeat' (first|(refine oLA ?_;first|refine LA_pass rfl ?_|(refine oLt 22 ?_; refine LA_loadB (c := v) rfl (fun _ => rfl) rfl hbx rfl ?_)|(refine oLen ?_; refine LA_len rfl _ rfl rfl (HasI.val h1).c ?_)|(refine LA_stop (hK _ _ (LX_store1 rfl rfl rfl hbok (fun _ => rfl) (Nat.lt_succ_self 0) rfl rfl (fun w4 e4 => ?_))); clear hK K; dsimp only [LA.vals]; refine LX_la (by kernel_rfl) (fun K hK => ?_))|refine wOp ?_|(refine wCm ?_ ?_<;>intro hc)|(refine oCv ?_;first|(refine oC 22 ?_; refine LA_call0 (f := 22) rfl rfl  (.val (.bool true)) (by intro w e; exact aiA _ (hT.ext e)) ?_))|(refine wNl hK ?_;clear hK K))|refine wG ?_|(refine wCR ?_;intro K hK)|fail)
    all_goals skip
    all_goals exact PX_okM rfl rfl (fun _ => rfl) hbok hok0 he e4 (show DsOK _ [] _ from trivial) true
  by_cases hbig2 : 60 < many
  · skip
    repeat' (first|(refine oLA ?_;first|refine LA_pass rfl ?_|(refine oLt 22 ?_; refine LA_loadB (c := v) rfl (fun _ => rfl) rfl hbx rfl ?_)|(refine oLen ?_; refine LA_len rfl _ rfl rfl (HasI.val h1).c ?_)|(refine LA_stop (hK _ _ (LX_store1 rfl rfl rfl hbok (fun _ => rfl) (Nat.lt_succ_self 0) rfl rfl (fun w4 e4 => ?_))); clear hK K; dsimp only [LA.vals]; refine LX_la (by kernel_rfl) (fun K hK => ?_))|refine wOp ?_|(refine wCm ?_ ?_<;>intro hc)|(refine oCv ?_;first|(refine oC 22 ?_; refine LA_call0 (f := 22) rfl rfl  (.val (.bool true)) (by intro w e; exact aiA _ (hT.ext e)) ?_))|(refine wNl hK ?_;clear hK K))|refine wG ?_|(refine wCR ?_;intro K hK)|fail)
    all_goals skip
    all_goals exact PX_okM rfl rfl (fun _ => rfl) hbok hok0 he e4 (show DsOK _ [] _ from trivial) true
  cases hm : anA ids many with
  | false =>
    repeat' (first|(refine oLA ?_;first|refine LA_pass rfl ?_|(refine oLt 22 ?_; refine LA_loadB (c := v) rfl (fun _ => rfl) rfl hbx rfl ?_)|(refine oLen ?_; refine LA_len rfl _ rfl rfl (HasI.val h1).c ?_)|(refine LA_stop (hK _ _ (LX_store1 rfl rfl rfl hbok (fun _ => rfl) (Nat.lt_succ_self 0) rfl rfl (fun w4 e4 => ?_))); clear hK K; dsimp only [LA.vals]; refine LX_la (by kernel_rfl) (fun K hK => ?_))|refine wOp ?_|(refine wCm ?_ ?_<;>intro hc)|(refine oCv ?_;first|(refine oC 10 ?_; refine LA_call2 (f := 10) rfl rfl rfl rfl  (.tup2 (.val (.pointer none)) (.val (.int .i64 2))) (by intro u1 u2 w e hu1 hu2; (try obtain rfl : u1 = _ := hu1); (try obtain rfl : u2 = _ := hu2); exact ayA (h1.ext e) (hT.ext e) hm) ?_)|(refine oC 22 ?_; refine LA_call0 (f := 22) rfl rfl  (.val (.bool true)) (by intro w e; exact aiA _ (hT.ext e)) ?_))|(refine wNl hK ?_;clear hK K))|refine wG ?_|(refine wCR ?_;intro K hK)|fail)
    all_goals skip
    all_goals exact PX_okM rfl rfl (fun _ => rfl) hbok hok0 he e4 (show DsOK _ [] _ from trivial) true
  | true =>
    obtain ⟨m0, -, -, m3⟩ := (afA _ _).1 hm
    obtain ⟨n, rfl⟩ := Int.eq_ofNat_of_zero_le m0
    have hin : IdsIn ids n := IdsIn.of m3
    clear m0 m3
    repeat' (first|(refine oLA ?_;first|refine LA_pass rfl ?_|(refine oLt 22 ?_; refine LA_loadB (c := v) rfl (fun _ => rfl) rfl hbx rfl ?_)|(refine oLen ?_; refine LA_len rfl _ rfl rfl (HasI.val h1).c ?_)|refine wOp ?_|(refine wCm ?_ ?_<;>intro hc)|(refine oCv ?_;first|(refine oC 10 ?_; refine LA_call2 (f := 10) rfl rfl rfl rfl  (.tup2 (.pred (ixP tIv n fun i => idP ids i)) (.val (.int .i64 0))) (by intro u1 u2 w e hu1 hu2; (try obtain rfl : u1 = _ := hu1); (try obtain rfl : u2 = _ := hu2); exact axA (h1.ext e) (hT.ext e) hm) ?_))|(refine wNl hK ?_;clear hK K))|refine wG ?_|(refine wCR ?_;intro K hK)|fail)
    all_goals skip
    refine CX_pick 5 rfl (fun vx wx ex hX => ?_)
    replace hX : IX tIv n (fun i => idP ids i) wx vx := hX
    have hbxx := ex.block hbx
    have hbokx := ex.block hbok
    have hcn0 : cnt (sumP ids 0) TOP = 0 := azA fun x hx => by have := ((a1A _).1 hx).2; omega
    refine CX_loopN (ι := Nat × Value × List Deferred) (fun j => ⟨123, j.2.2⟩) (fun j => [(0, .val v), (1, .val (.int .i64 n)), (2, .val (.pointer (some ⟨bx, 0, none⟩))), (4, .val (.pointer (some ⟨bok, 0, none⟩))), (5, .val vx), (7, .val j.2.1), (8, .val (.int .i64 (cnt (sumP ids j.1) TOP : Nat))), (32, .val (.int .i64 n)), (33, .val (.int .i64 j.1))])
      (fun j W => Ext wx W ∧ j.1 ≤ n ∧ OwnI wx.heap.size tI6 .i64 W j.2.1 (akA j.1) ∧ DsOK w.heap.size j.2.2 W) (fun j => n - j.1)
      (fun w2 e2 => ⟨(0, nilS, []), rfl, ⟨e2, Nat.zero_le _, OwnI.nil, trivial⟩, by rw [hcn0]; exact (by repeat' (first | exact Sub.nil | refine Sub.val rfl (by first | with_reducible rfl | (congr 1; omega)) ?_ | refine Sub.same rfl ?_))⟩) ?_
    rintro ⟨k, va, ds⟩ w2 ⟨he2, hk0, ha, hds⟩
    dsimp only at hk0 ha hds ⊢
    have hll := ahA k
    have hle := arA (ids := ids) (k := k) TOP
    have hcl : cnt (sumP ids (k + 1)) TOP ≤ ids.length := by
      rw [← a8A (p := fun x => decide (x < ids.length)) (m := ids.length) (T := TOP) (fun x => decide_eq_true_iff) (by omega)]
      exact aaA (fun x hx => decide_eq_true ((a1A _).1 hx).1) _
    by_cases hk : k < n
    · have hrow : ∀ w', Ext wx w' → _ := fun w' e => a3A (B := TT) (.inr (hX.ext e)) (by omega) tt (k : Int)
      rw [a6A hk] at hrow
      obtain ⟨p, hp⟩ : ∃ p, p = idP ids k := ⟨_, rfl⟩
      rw [← hp] at hrow hle
      have hadd : ((cnt (sumP ids k) TOP : Nat) : Int) + (cnt p TOP : Nat) = (cnt (sumP ids (k + 1)) TOP : Nat) := by omega
      repeat' (first|(refine oLA ?_;first|refine LA_pass rfl ?_|(refine oD 9 ?_; refine LA_stop (hK _ _ (LX_var rfl rfl (Nat.le_of_ble_eq_true rfl) (fun _ => rfl) (fun _ => rfl) (fun _ => rfl) rfl int_cells (fun bi wi ei hbi hi0 => ?_))); clear hK K; refine LX_la (by kernel_rfl) (fun K hK => ?_))|(refine oD 37 ?_; refine LA_loadB (c := .int .i64 k) rfl (fun _ => rfl) rfl hi0 rfl ?_)|(refine oD 44 ?_; refine LA_loadB (c := .int .i64 k) rfl (fun _ => rfl) rfl hi0 rfl ?_)|(refine oD 42 ?_; refine LA_addF rfl rfl rfl (by dsimp only [fits]; omega) ?_; rw [hadd])|(refine oD 45 ?_; refine LA_one rfl atA rfl rfl ?_)|(refine oD 46 ?_; refine LA_stop (hK _ _ (LX_pick 10 rfl (fun v10 w10 e10 h10 => LX_appendL rfl (Nat.le_of_ble_eq_true rfl) atA rfl (OwnI.ext ha (ei.trans e10)) rfl HasC.pred (fun c hc => by rw [List.mem_singleton] at hc; subst hc; rfl) (by unfold maxLen; omega) (by omega) (fun va' w3 w4 e3 ho hf hlc => ?_)))); clear hK K; replace h10 : RSet TT TT w10 v10 p := h10; have hv10 := (rs_cells h10).1; refine LX_la (by kernel_rfl) (fun K hK => ?_))|(refine oD 49 ?_; refine LA_stop (hK _ _ (LX_pick 48 rfl (fun v48 w48 e48 h48 => ?_))); clear hK K; obtain ⟨b48, hb48, rfl, hh48⟩ := h48; refine LX_la (by kernel_rfl) (fun K hK => ?_); refine LA_binV (c := .bool false) rfl rfl rfl (fun _ => rfl) ?_)|refine wOp ?_|(refine wCm ?_ ?_<;>intro hc)|(refine oCv ?_;first|(refine oC 15 ?_; refine LA_call2 (f := 15) rfl rfl rfl rfl  (.pred (rsP TT TT p)) (by intro u1 u2 w e hu1 hu2; (try obtain rfl : u1 = _ := hu1); (try obtain rfl : u2 = _ := hu2); exact hrow _ (he2.trans (ei.trans e))) ?_)|(refine oC 23 ?_; refine LA_call1 (f := 23) rfl rfl rfl  (.val (.int .i64 (cnt p TOP : Nat))) (by intro u1 w e hu1; (try obtain rfl : u1 = _ := hu1); exact len_s (.inr hu1)) ?_)|(refine oC 24 ?_; refine LA_call1 (f := 24) rfl rfl rfl  (.pred (allP 0 v10)) (by intro u1 w e hu1; (try obtain rfl : u1 = _ := hu1); exact (all_c _ hv10).mono (ret_allP (Nat.zero_le _))) ?_))|(refine wNl hK ?_;clear hK K))|refine wG ?_|(refine wCR ?_;intro K hK)|fail)
      all_goals skip
      refine CX_pick 51 rfl (fun v51 w51 e51 h51 => ?_)
      obtain ⟨bb, hbb, rfl, hhb⟩ := h51
      have x51 : Ext w4 w51 := e48.trans e51
      have e23 : Ext w2 w3 := ei.trans (e10.trans e3)
      have x24 : Ext wx w4 := Fr.ext (he2.trans e23) hf (fun q hq => (Own.lt ha q hq).1)
      have h4 : RSet TT TT w4 v10 p := RSet.off (RSet.ext h10 e3) hf (fun q hq => by obtain ⟨cur, hc⟩ := own_type (Own.ext ha e23) hq; exact ⟨cur, _, hc, by unfold OffT; decide⟩)
      have hi4 := hf.at ((e10.trans e3).block hi0) (fun hq => by have := (Own.lt ha _ hq).2; omega)
      have ha4 : OwnI wx.heap.size tI6 .i64 w4 va' (akA (k + 1)) := by
        unfold OwnI akA; rw [List.map_append, List.length_append]
        exact Own.rebase ho (hlc.ge (fun q hq => (Own.lt ha q hq).1) (Nat.le_trans he2.size e23.size))
      have hds4 : DsOK w.heap.size ds w4 := hds.kept ((kp_fr (w0 := w) (bad := fun _ => true) ((Fr.of e23).trans (hf.mono fun q hq => hq)) (fun _ => (he.trans ex).trans x24) (fun q hq => by obtain ⟨cur, hc⟩ := own_type ha hq; exact ⟨cur, _, _, hc, rfl⟩)).2 _)
      have hT4 := hT.ext (ex.trans x24)
      have hsz : w.heap.size ≤ w4.heap.size := ((he.trans ex).trans x24).size
      have hbx4 := x24.block hbxx
      have hok4 := x24.block hbokx
      have hs4 := h1.ext (ex.trans x24)
      refine CX_range (α := U32) (p := 52) (M := cnt p TOP) (Kp := KpT w4 (fun _ => false)) (S := fun xs => vU xs = listS p TOP) (Sp := fun pre => vU pre <+: listS p TOP) (enc := fun x => .int .u32 x.1) (Nat.le_of_ble_eq_true rfl) rfl (run_call_func Tryz.func49 rfl rfl)
        (fun w' e => all_stops (w0 := w4) (A := TT) (B := TT) (.inr h4) (e.block hhb) hT4 (x51.trans e) rfl rfl) (fun h k => h.trans k) (fun h => KpT.ext h) (fun W l o o' hl ho hc _ => KpT.putObj o' (Nat.le_trans x51.size hl) ho hc)
        (fun pre W => Ext w4 W) (fun c pre W => c = .ret ∧ ∃ (pre' : List U32) (u : U32), pre = pre' ++ [u] ∧ ∀ x : Nat, u.1 = (x : Int) → p x = false)
        ?_ (fun c s W W' row hs _ _ => hs) (fun w' e => x51.trans e) (fun x => [(2, .val (.pointer (some ⟨bx, 0, none⟩))), (4, .val (.pointer (some ⟨bok, 0, none⟩))), (9, .val (.pointer (some ⟨bi, 0, none⟩))), (11, .val (.int .u32 x.1))]) ?_ ?_ ?_ ?_
      · rintro pre W W' row g1 hg hr
        exact kept_ext g1 x51.size hg (fun r e => (hr r e).1)
      · intro l u W
        refine CY_region asg_out (by kernel_rfl) (LX_la (by kernel_rfl) (fun K hK => LA_assignV rfl rfl (LA_nil (hK _ _ (LX_nil (PX_asg (Ext.refl _) (by repeat' (first | exact Sub.nil | refine Sub.val rfl (by first | with_reducible rfl | (congr 1; omega)) ?_ | refine Sub.same rfl ?_))))))))
      · rintro Bd l pre ⟨z, hz⟩ W hBd g1 hlen
        obtain ⟨x, rfl⟩ := Int.eq_ofNat_of_zero_le hz.1
        have hx32 := hz.2
        have hbxW := g1.block hbx4
        have hokW := g1.block hok4
        have hiW := g1.block hi4
        have hsW := hs4.ext g1
        dsimp only
        refine CY_block (CY_seq (CY_regionA (then_out (block_out ownPostG_out)) (by kernel_rfl) (by kernel_rfl) (by kernel_rfl) (fun K hK => ?_)))
        have hbad : ∀ W4, Ext W W4 → p x = false → ∀ w7, Ext (W4.setRow bok #[.bool false]) w7 → KeepsFrom Bd W w7 ∧ (Code.ret = .ret ∧ ∃ (pre' : List U32) (u : U32), pre ++ [⟨(x : Int), hz⟩] = pre' ++ [u] ∧ ∀ x : Nat, u.1 = (x : Int) → p x = false) := fun W4 e4 hpx w7 e7 => by
          have f1 : Fr (fun k => k = bok) W (W4.setRow bok #[.bool false]) := Fr.setRow (R := fun k => k = bok) (Fr.of e4) rfl _
          have f2 : Fr (fun k => k = bok) W w7 := f1.trans (Fr.of e7)
          refine ⟨(kp_fr (w0 := w) (bad := fun _ => true) f2 (fun hh => Fr.ext hh f2 (fun q hq => by subst hq; exact hok0)) (fun q hq => by subst hq; exact ⟨_, _, _, hokW, rfl⟩)).2 _, rfl, pre, ⟨(x : Int), hz⟩, rfl, fun y hy => ?_⟩
          obtain rfl : x = y := by have : (x : Int) = y := hy; omega
          exact hpx
        by_cases c1 : ids.length ≤ x
        · have hpx : p x = false := by rw [hp]; exact a7A c1
          repeat' (first|(refine oLA ?_;first|refine LA_pass rfl ?_|(refine oLt 22 ?_; refine LA_loadB (c := v) rfl (fun _ => rfl) rfl hbxW rfl ?_)|(refine oLen ?_; refine LA_len rfl _ rfl rfl (HasI.val hsW).c ?_)|refine wOp ?_|(refine wCm ?_ ?_<;>intro hc)|(refine wNl hK ?_;clear hK K))|refine wG ?_|(refine wCR ?_;intro K hK)|fail)
          all_goals skip
          refine PY_then (CY_condT rfl (CY_seq (CY_region (then_out (block_out ownPostG_out)) (by kernel_rfl) (LX_la (by kernel_rfl) (fun K hK => ?_)))))
          refine LA_stop (hK _ _ (LX_store1 rfl rfl rfl hokW (fun _ => rfl) (Nat.lt_succ_self 0) rfl rfl (fun W4 e4 => ?_)))
          exact LX_nil (PY_then (CY_ret (PX_blockR (PX_ownR (hbad W4 e4 hpx)))))
        · have c1' : x < ids.length := by omega
          have hpx := idP_iff (ids := ids) (id := k) (x := x)
          rw [← hp] at hpx
          obtain ⟨i0, hi0'⟩ : ∃ i, i = ids.getD x 0 := ⟨_, rfl⟩
          rw [← hi0'] at hpx
          by_cases c2 : i0 = (k : Int)
          · skip
            repeat' (first|(refine oLA ?_;first|refine LA_pass rfl ?_|(refine oD 55 ?_; refine LA_loadB (c := v) rfl (fun _ => rfl) rfl hbxW rfl ?_)|(refine oD 59 ?_; refine LA_loadB (c := v) rfl (fun _ => rfl) rfl hbxW rfl ?_)|(refine oD 63 ?_; refine LA_loadB (c := .int .i64 k) rfl (fun _ => rfl) rfl hiW rfl ?_)|(refine oD 61 ?_; refine LA_indexN rfl _ rfl (fun _ => rfl) rfl (HasI.val hsW) rfl c1' ?_; rw [← hi0'])|(refine oLen ?_; refine LA_len rfl _ rfl rfl (HasI.val hsW).c ?_)|refine wOp ?_|(refine wCm ?_ ?_<;>intro hc)|(refine wNl hK ?_;clear hK K))|refine wG ?_|(refine wCR ?_;intro K hK)|fail)
            all_goals skip
            exact PY_then (CY_condF rfl (CY_skip (PX_blockN (PX_ownN (fun w7 e7 => ⟨e7.keeps _, KpT.ext e7, g1.trans e7⟩)))))
          · have hpx' : p x = false := acA fun hh => c2 (hpx.1 hh).2
            repeat' (first|(refine oLA ?_;first|refine LA_pass rfl ?_|(refine oD 55 ?_; refine LA_loadB (c := v) rfl (fun _ => rfl) rfl hbxW rfl ?_)|(refine oD 59 ?_; refine LA_loadB (c := v) rfl (fun _ => rfl) rfl hbxW rfl ?_)|(refine oD 63 ?_; refine LA_loadB (c := .int .i64 k) rfl (fun _ => rfl) rfl hiW rfl ?_)|(refine oD 61 ?_; refine LA_indexN rfl _ rfl (fun _ => rfl) rfl (HasI.val hsW) rfl c1' ?_; rw [← hi0'])|(refine oLen ?_; refine LA_len rfl _ rfl rfl (HasI.val hsW).c ?_)|refine wOp ?_|(refine wCm ?_ ?_<;>intro hc)|(refine wNl hK ?_;clear hK K))|refine wG ?_|(refine wCR ?_;intro K hK)|fail)
            all_goals skip
            refine PY_then (CY_condT rfl (CY_seq (CY_region (then_out (block_out ownPostG_out)) (by kernel_rfl) (LX_la (by kernel_rfl) (fun K hK => ?_)))))
            refine LA_stop (hK _ _ (LX_store1 rfl rfl rfl hokW (fun _ => rfl) (Nat.lt_succ_self 0) rfl rfl (fun W4 e4 => ?_)))
            exact LX_nil (PY_then (CY_ret (PX_blockR (PX_ownR (hbad W4 e4 hpx')))))
      · rintro D us W hD hus g1 hDd
        clear hus hbb hhb hrow hp
        dsimp only [LA.vals]
        repeat' (first|(refine oLA ?_;first|refine LA_pass rfl ?_|refine wOp ?_|(refine wCm ?_ ?_<;>intro hc)|(refine wNl hK ?_;clear hK K))|refine wG ?_|(refine wCR ?_;intro K hK)|fail)
        all_goals skip
        exact PX_rndN (k + 1, va', { target := .collected D, args := #[] } :: ds) rfl (fun w5 e5 => ⟨x24.trans (g1.trans e5), hk, OwnI.ext ha4 (g1.trans e5), hds4.more (Ext.refl _) (Nat.le_trans hsz (Nat.le_trans x51.size hD)) (Nat.le_trans x51.size hD) ((g1.trans e5).keeps _) (e5.block hDd)⟩) (by dsimp only; omega) (by repeat' (first | exact Sub.nil | refine Sub.val rfl (by first | with_reducible rfl | (congr 1; omega)) ?_ | refine Sub.same rfl ?_))
      · rintro D c pre W hD hpre ⟨rfl, pre', u, hpu, hno⟩ hDd
        obtain ⟨x, hx1, hx2⟩ := asA hpu hpre
        rw [hno x hx1] at hx2; cases hx2
    · obtain rfl : k = n := by omega
      clear hle hcl hcn0
      have hcn : cnt (sumP ids k) TOP = ids.length := a8A (fun x => by
        rw [a1A]
        constructor
        · exact fun h => h.1
        · intro hx
          exact ⟨hx, hin x hx⟩) (by omega)
      rw [hcn]
      have x2 := he2
      have hX2 := hX.ext he2
      have hT2 := hT.ext (ex.trans he2)
      have hbx2 := he2.block hbxx
      have hok2 := he2.block hbokx
      have hs2 := h1.ext (ex.trans he2)
      have hex2 : Ext w w2 := (he.trans ex).trans he2
      have ha1 : ∀ w', Ext w2 w' → _ := fun w' e => aqA (.inr (hX2.ext e)) (by omega) (OwnI.slI (OwnI.ext ha e)) (hT2.ext e)
      have hpa : ∀ x, amP k (fun i => idP ids i) (akA k) (akA k).length x = true ↔ x < ids.length := fun x => by
        rw [am_id hin, agA]
        constructor
        · exact fun h => h.1
        · intro hx
          exact ⟨hx, hin x hx⟩
      obtain ⟨pa, hpa0⟩ : ∃ p, p = amP k (fun i => idP ids i) (akA k) (akA k).length := ⟨_, rfl⟩
      rw [← hpa0] at ha1 hpa
      clear hpa0
      have g1 : cnt pa TOP = ids.length := a8A hpa (by omega)
      have g2 : cnt pa (min ids.length TOP) = ids.length := by rw [Nat.min_eq_left (by omega)]; exact a8A hpa (Nat.le_refl _)
      have k1 : ∀ w' u, RSet TT TT w' u pa → _ := fun w' u hu => len_s (B := TT) (A := TT) (.inr hu)
      have k2 : ∀ w' u, RSet TT TT w' u pa → _ := fun w' u hu => rank_s (B := TT) (A := TT) (x := ids.length) (.inr hu) (by omega)
      rw [g1] at k1; rw [g2] at k2
      have k0 : ∀ w' u, RSet TT TT w' u (fun _ => false) → _ := fun w' u hu => len_s (B := TT) (A := TT) (.inr hu)
      rw [azA (p := fun _ => false) (fun _ h => by cases h)] at k0
      have kr : ∀ w' u, NIX tIv 0 (fun _ _ => false) w' u → _ := fun w' u hu => a3A (B := TT) hu (by omega) tt (0 : Int)
      have ka : ∀ w' u, Ext w2 w' → NIX tIv 0 (fun _ _ => false) w' u → _ := fun w' u e hu => aqA hu (by omega) (OwnI.slI (OwnI.ext ha e)) (hT2.ext e)
      rw [rowP0] at kr
      rw [amP0] at ka
      have kn : ∀ w' : World, NIX tIv 0 (fun _ _ => false) w' (.pointer none) := fun w' => .inl ⟨rfl, rfl⟩
      repeat' (first|(refine oLA ?_;first|refine LA_pass rfl ?_|(refine oLt 22 ?_; refine LA_loadB (c := v) rfl (fun _ => rfl) rfl (Ext.block ez hbx2) rfl ?_)|(refine oD 72 ?_; refine LA_len rfl _ rfl rfl (HasI.val (SlI.ext hs2 ez)).c ?_)|(refine oD 14 ?_; refine LA_stop (hK _ _ (LX_al rfl (Nat.le_of_ble_eq_true rfl) (fun _ => rfl) (fun bz wz ez hbz hz0 => ?_))); clear hK K; have hnz : NIX tIv 0 (fun _ _ => false) wz (.pointer (some ⟨bz, 0, none⟩)) := NIX.zero hz0; refine LX_la (by kernel_rfl) (fun K hK => ?_))|(refine oLen ?_; refine LA_len rfl _ rfl rfl (HasI.ownV (base := 0) (e := tI6) (k := .i64) (xs := []) OwnI.nil).c ?_; rw [List.length_nil])|(refine LA_stop (hK _ _ (LX_store1 rfl rfl rfl (Ext.block ez hok2) (fun _ => rfl) (Nat.lt_succ_self 0) rfl rfl (fun w4 e4 => ?_))); clear hK K; dsimp only [LA.vals]; refine LX_la (by kernel_rfl) (fun K hK => ?_))|refine wOp ?_|(refine wCm ?_ ?_<;>intro hc)|(refine oCv ?_;first|(refine oD 69 ?_; refine oC 21 ?_; refine LA_call2 (f := 21) rfl rfl rfl rfl  (.pred (rsP TT TT pa)) (by intro u1 u2 w e hu1 hu2; (try obtain rfl : u1 = _ := hu1); (try obtain rfl : u2 = _ := hu2); exact ha1 _ e) ?_)|(refine oD 76 ?_; refine oC 23 ?_; refine LA_call1 (f := 23) rfl rfl rfl  (.val (.int .i64 ids.length)) (by intro u1 w e hu1; (try obtain rfl : u1 = _ := hu1); exact k1 _ _ hu1) ?_)|(refine oC 25 ?_; refine LA_call2 (f := 25) rfl rfl rfl rfl  (.val (.int .i64 ids.length)) (by intro u1 u2 w e hu1 hu2; (try obtain rfl : u1 = _ := hu1); (try obtain rfl : u2 = _ := hu2); exact k2 _ _ hu1) ?_)|(refine oD 90 ?_; refine oC 26 ?_; refine LA_call1 (f := 26) rfl rfl rfl  (.val (.int .i64 (0 : Nat))) (by intro u1 w e hu1; (try obtain rfl : u1 = _ := hu1); exact a9A (kn _)) ?_)|(refine oD 91 ?_; refine oC 26 ?_; refine LA_call1 (f := 26) rfl rfl rfl  (.val (.int .i64 (0 : Nat))) (by intro u1 w e hu1; (try obtain rfl : u1 = _ := hu1); exact a9A (hnz.ext e)) ?_)|(refine oD 97 ?_; refine oC 15 ?_; refine LA_call2 (f := 15) rfl rfl rfl rfl  (.pred (rsP TT TT (fun _ => false))) (by intro u1 u2 w e hu1 hu2; (try obtain rfl : u1 = _ := hu1); (try obtain rfl : u2 = _ := hu2); exact kr _ _ (kn _)) ?_)|(refine oD 99 ?_; refine oC 15 ?_; refine LA_call2 (f := 15) rfl rfl rfl rfl  (.pred (rsP TT TT (fun _ => false))) (by intro u1 u2 w e hu1 hu2; (try obtain rfl : u1 = _ := hu1); (try obtain rfl : u2 = _ := hu2); exact kr _ _ (hnz.ext e)) ?_)|(refine oD 107 ?_; refine oC 21 ?_; refine LA_call2 (f := 21) rfl rfl rfl rfl  (.pred (rsP TT TT (fun _ => false))) (by intro u1 u2 w e hu1 hu2; (try obtain rfl : u1 = _ := hu1); (try obtain rfl : u2 = _ := hu2); exact ka _ _ (ez.trans e) (kn _)) ?_)|(refine oC 23 ?_; refine LA_call1 (f := 23) rfl rfl rfl  (.val (.int .i64 (0 : Nat))) (by intro u1 w e hu1; (try obtain rfl : u1 = _ := hu1); exact k0 _ _ hu1) ?_)|(refine oD 113 ?_; refine oC 27 ?_; refine LA_call1 (f := 27) rfl rfl rfl  (.val nilS) (by intro u1 w e hu1; (try obtain rfl : u1 = _ := hu1); exact b4A (kn _)) ?_)|(refine oD 115 ?_; refine oC 27 ?_; refine LA_call1 (f := 27) rfl rfl rfl  (.val nilS) (by intro u1 w e hu1; (try obtain rfl : u1 = _ := hu1); exact b4A (hnz.ext e)) ?_)|(refine oC 22 ?_; refine LA_call0 (f := 22) rfl rfl  (.val (.bool true)) (by intro w e; exact aiA _ (hT2.ext (ez.trans e))) ?_))|(refine wNl hK ?_;clear hK K))|refine wG ?_|(refine wCR ?_;intro K hK)|fail)
      all_goals skip
      exact PX_okM rfl rfl (fun _ => rfl) (Ext.block ez hok2) hok0 (hex2.trans ez) e4 (hds.kept (ez.keeps _)) true
end Go.Proofs.YtadpcgjohleglaaGreatDoor
end
