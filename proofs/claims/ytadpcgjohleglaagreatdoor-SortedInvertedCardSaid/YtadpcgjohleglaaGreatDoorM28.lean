import Derived.Test.YtadpcgjohleglaaGreatDoorProg
import Derived.Laws.Tables
import Derived.Test.YtadpcgjohleglaaGreatDoorM3
import Derived.Test.YtadpcgjohleglaaGreatDoorM23
section
set_option linter.unusedSimpArgs false
set_option linter.unusedVariables false
set_option maxRecDepth 3000
namespace Go.Proofs.YtadpcgjohleglaaGreatDoor.Sx
open Go.LA Go.RowKit Go.SrtP
def IdxI (w : World) (v : Value) (ends : List Int) : Prop := ∃ b sl, v = .pointer (some ⟨b, 0, none⟩) ∧ w.heap[b]? = some (.cells #[sl] 66 (0, 0)) ∧ SlI .i64 w sl ends
theorem IdxI.ext {w w' : World} {v : Value} {ends : List Int} (h : IdxI w v ends) (e : Ext w w') : IdxI w' v ends := by
  obtain ⟨b, sl, h1, h2, h3⟩ := h
  exact ⟨b, sl, h1, e.block h2, h3.ext e⟩
def idxI (ends : List Int) : AV := ⟨fun v w => IdxI w v ends, fun _ _ _ e h => h.ext e⟩
def IdxO (base : Nat) (w : World) (v : Value) (ends : List Int) : Prop := ∃ b sl, v = .pointer (some ⟨b, 0, none⟩) ∧ base ≤ b ∧ w.heap[b]? = some (.cells #[sl] 66 (0, 0)) ∧ OwnI base 3 .i64 w sl ends ∧ sl.ownBlock ≠ some b
theorem IdxO.ext {base : Nat} {w w' : World} {v : Value} {ends : List Int} (h : IdxO base w v ends) (e : Ext w w') : IdxO base w' v ends := by
  obtain ⟨b, sl, h1, h2, h3, h4, h5⟩ := h
  exact ⟨b, sl, h1, h2, e.block h3, h4.ext e, h5⟩
theorem IdxO.base {base base' : Nat} {w : World} {v : Value} {ends : List Int} (h : IdxO base w v ends) (hb : base' ≤ base) : IdxO base' w v ends := by
  obtain ⟨b, sl, h1, h2, h3, h4, h5⟩ := h
  exact ⟨b, sl, h1, Nat.le_trans hb h2, h3, Own.base h4 hb, h5⟩
theorem IdxO.i {base : Nat} {w : World} {v : Value} {ends : List Int} (h : IdxO base w v ends) : IdxI w v ends := by
  obtain ⟨b, sl, h1, h2, h3, h4, h5⟩ := h
  exact ⟨b, sl, h1, h3, h4.slI⟩
theorem IdxO.setRow {base c : Nat} {w : World} {v : Value} {ends : List Int} (h : IdxO base w v ends) (cur : Array Value) (hc : c < base) : IdxO base (w.setRow c cur) v ends := by
  obtain ⟨b, sl, h1, h2, h3, h4, h5⟩ := h
  exact ⟨b, sl, h1, h2, by rw [setRow_other _ _ _ _ (by omega)]; exact h3, Own.setRow h4 _ (fun q => by have := (Own.lt h4 c q).1; omega), h5⟩
def idxO (base : Nat) (ends : List Int) : AV := ⟨fun v w => IdxO base w v ends, fun _ _ _ e h => h.ext e⟩
theorem buA {w : World} {φ ψ : AV} {r : AD} (hφ : ∀ v w, φ.p v w → ψ.p v w) (en : Ending) (w' : World) (h : Ret w (.tup2 (.pred φ) r) en w') : Ret w (.tup2 (.pred ψ) r) en w' := by
  obtain ⟨v, h1, h2, x, y, h3, h4, h5⟩ := h
  exact ⟨v, h1, h2, x, y, h3, hφ x w' h4, h5⟩
theorem len_c (w : World) (v : Value) (ends : List Int) (h : IdxI w v ends) : Fc Tryz.prog 35 #[v] w (Ret w (.val (.int .i64 ends.length))) := by
  obtain ⟨b, sl, rfl, hb, hs⟩ := h
  refine Fc.of (args := [_]) Tryz.func35 rfl rfl Tryz.ntmps35 (Nat.le_of_ble_eq_true rfl) ?_
  repeat' (first|(refine oLA ?_;first|refine LA_pass rfl ?_|refine LA_binV (c := .bool false) rfl rfl rfl (fun _ => rfl) ?_|refine LA_nilCheck rfl rfl ?_|refine LA_fieldAddr rfl rfl (fun _ => rfl) ?_|refine LA_loadB rfl (fun _ => rfl) rfl hb rfl ?_|refine wOp ?_|(refine wCm ?_ ?_<;>intro hc)|(refine wNl hK ?_;clear hK K))|refine wG ?_|(refine wCR ?_;intro K hK)|(refine oPX ?_;first|exact PX_retE rfl rfl (Ext.refl _) rfl)|fail)
theorem brA (w : World) (v : Value) (ends : List Int) (h : IdxI w v ends) (id : Int) (h0 : 0 ≤ id) (hj : id ≤ ends.length) : Fc Tryz.prog 37 #[v, .int .i64 id] w (Ret w (.val (.int .i64 (beg ends id.toNat)))) := by
  obtain ⟨b, sl, rfl, hb, hs⟩ := h
  have hl := hs.len
  refine Fc.of (args := [_, _]) Tryz.func37 rfl rfl Tryz.ntmps37 (Nat.le_of_ble_eq_true rfl) ?_
  repeat' (first|(refine oLA ?_;first|refine LA_pass rfl ?_|refine LA_nilCheck rfl rfl ?_|refine LA_fieldAddr rfl rfl (fun _ => rfl) ?_|refine LA_loadB rfl (fun _ => rfl) rfl hb rfl ?_|refine wOp ?_|(refine wCm ?_ ?_<;>intro hc)|(refine wNl hK ?_;clear hK K))|refine wG ?_|(refine wCR ?_;intro K hK)|fail)
  · refine PX_retE rfl rfl (Ext.refl _) ?_
    simp only [beg]; rw [if_pos (by omega)]
  · refine PX_retE rfl rfl (Ext.refl _) ?_
    simp only [beg]; rw [if_neg (by omega)]
    congr 2; omega
def rowsS (ends : List Int) (id : Int) : Int × Int := if id < 0 ∨ ends.length ≤ id then (0, 0) else (beg ends id.toNat, ends.getD id.toNat 0)
theorem cbA (w : World) (v : Value) (ends : List Int) (h : IdxI w v ends) (id : Int) : Fc Tryz.prog 11 #[v, .int .i64 id] w (Ret w (.tup2 (.val (.int .i64 (rowsS ends id).1)) (.val (.int .i64 (rowsS ends id).2)))) := by
  have h' := h
  obtain ⟨b, sl, rfl, hb, hs⟩ := h'
  have hl := hs.len
  refine Fc.of (args := [_, _]) Tryz.func11 rfl rfl Tryz.ntmps11 (Nat.le_of_ble_eq_true rfl) ?_
  repeat' (first|(refine oLA ?_;first|refine LA_pass rfl ?_|refine LA_nilCheck rfl rfl ?_|refine LA_fieldAddr rfl rfl (fun _ => rfl) ?_|refine LA_loadB rfl (fun _ => rfl) rfl hb rfl ?_|refine wOp ?_|(refine wCm ?_ ?_<;>intro hc)|(refine oCv ?_;first|(refine oC 35 ?_; refine LA_call1 (f := 35) rfl rfl rfl  (.val (.int .i64 ends.length)) (by intro u1 w e hu1; (try obtain rfl : u1 = _ := hu1); exact len_c _ _ _ (h.ext e)) ?_)|(refine oC 37 ?_; refine LA_call2 (f := 37) rfl rfl rfl rfl  (.val (.int .i64 (beg ends id.toNat))) (by intro u1 u2 w e hu1 hu2; (try obtain rfl : u1 = _ := hu1); (try obtain rfl : u2 = _ := hu2); exact brA _ _ _ (h.ext e) _ (by omega) (by omega)) ?_))|(refine wNl hK ?_;clear hK K))|refine wG ?_|(refine wCR ?_;intro K hK)|fail)
  all_goals
    refine PX_retE2 rfl rfl rfl (Ext.refl _) ?_ ?_ <;> simp only [rowsS]
    all_goals first | rw [if_pos (by omega)] | rw [if_neg (by omega)]
def agA (ends : List Int) (lo hi : Int) : Int × Int := if min hi (ends.length : Int) ≤ max lo 0 then (0, 0) else (beg ends (max lo 0).toNat, ends.getD (min hi (ends.length : Int) - 1).toNat 0)
theorem bqA (w : World) (v : Value) (ends : List Int) (h : IdxI w v ends) (lo hi : Int) : Fc Tryz.prog 34 #[v, .int .i64 lo, .int .i64 hi] w (Ret w (.tup2 (.val (.int .i64 (agA ends lo hi).1)) (.val (.int .i64 (agA ends lo hi).2)))) := by
  have h' := h
  obtain ⟨b, sl, rfl, hb, hs⟩ := h'
  have hl := hs.len
  refine Fc.of (args := [_, _, _]) Tryz.func34 rfl rfl Tryz.ntmps34 (Nat.le_of_ble_eq_true rfl) ?_
  repeat' (first|(refine oLA ?_;first|refine LA_pass rfl ?_|refine LA_nilCheck rfl rfl ?_|refine LA_fieldAddr rfl rfl (fun _ => rfl) ?_|refine LA_loadB rfl (fun _ => rfl) rfl hb rfl ?_|refine LA_max2 rfl rfl rfl ?_|refine LA_min2 rfl rfl rfl ?_|refine wOp ?_|(refine wCm ?_ ?_<;>intro hc)|(refine oCv ?_;first|(refine oC 35 ?_; refine LA_call1 (f := 35) rfl rfl rfl  (.val (.int .i64 ends.length)) (by intro u1 w e hu1; (try obtain rfl : u1 = _ := hu1); exact len_c _ _ _ (h.ext e)) ?_)|(refine oC 37 ?_; refine LA_call2 (f := 37) rfl rfl rfl rfl  (.val (.int .i64 (beg ends (max lo 0).toNat))) (by intro u1 u2 w e hu1 hu2; (try obtain rfl : u1 = _ := hu1); (try obtain rfl : u2 = _ := hu2); exact brA _ _ _ (h.ext e) _ (by omega) (by omega)) ?_))|(refine wNl hK ?_;clear hK K))|refine wG ?_|(refine wCR ?_;intro K hK)|fail)
  all_goals
    refine PX_retE2 rfl rfl rfl (Ext.refl _) ?_ ?_ <;> simp only [agA]
    all_goals first | rw [if_pos (by omega)] | rw [if_neg (by omega)]
end Go.Proofs.YtadpcgjohleglaaGreatDoor.Sx
end
section
set_option linter.unusedSimpArgs false
set_option linter.unusedVariables false
set_option maxRecDepth 3000
namespace Go.Proofs.YtadpcgjohleglaaGreatDoor.Sx
open Go.LA Go.RowKit Go.SrtP
theorem cfA (w : World) : (Instr.build 66 #[]).run Tryz.prog w = .ok (.agg #[.slice none 0 0]) w := run_build w _ _ _ (by kernel_rfl)
def ofR (o : Option (List Int)) : AD := match o with
  | some ends => .tup2 (.pred (idxI ends)) (.val (.int .i64 0))
  | none => .tup2 (.val (.pointer none)) (.val (.int .i64 2))
def ofO (base : Nat) (o : Option (List Int)) : AD := match o with
  | some ends => .tup2 (.pred (idxO base ends)) (.val (.int .i64 0))
  | none => .tup2 (.val (.pointer none)) (.val (.int .i64 2))
theorem c7A {w : World} {base : Nat} {o : Option (List Int)} (en : Ending) (w' : World) (h : Ret w (ofO base o) en w') : Ret w (ofR o) en w' := by
  cases o with
  | none => exact h
  | some es => exact buA (fun _ _ h => IdxO.i h) en w' h
theorem c4A : El Tryz.prog 22 3 (.int .i64 0) 1 8 := ⟨rfl, rfl, rfl, by decide⟩
set_option maxHeartbeats 2000000 in
theorem of_o (w : World) (v : Value) (ids : List Int) (many : Int) (h : SlI .i64 w v ids) : Fc Tryz.prog 9 #[v, .int .i64 many] w (Ret w (ofO w.heap.size (SrtP.ofS ids many))) := by
  have hl := h.len
  refine Fc.of (args := [_, _]) Tryz.func9 rfl rfl Tryz.ntmps9 (Nat.le_of_ble_eq_true rfl) ?_
  repeat' (first|(refine oLA ?_;first|refine LA_pass rfl ?_|refine LA_nilCheck rfl rfl ?_|refine LA_fieldAddr rfl rfl (fun _ => rfl) ?_|refine LA_alloc rfl (fun _ => rfl) ?_|refine LA_build0 (c := .agg #[.slice none 0 0]) rfl cfA ?_|refine LA_box rfl rfl ?_|(refine LA_stop (hK _ _ (LX_pick 21 rfl (fun v9 w9 e9 h9 => ?_))); clear hK K; obtain ⟨b, hb0, rfl, hb⟩ := h9; have hh9 := h.ext e9; refine LX_la (by kernel_rfl) (fun K hK => ?_))|refine wOp ?_|(refine wCm ?_ ?_<;>intro hc)|(refine wNl hK ?_;clear hK K))|refine wG ?_|(refine wCR ?_;intro K hK)|fail)
  · rw [show SrtP.ofS ids many = none by simp only [SrtP.ofS]; rw [if_pos (by omega)]]; exact PX_retE2 rfl rfl rfl (Ext.refl _) rfl rfl
  · rw [show SrtP.ofS ids many = none by simp only [SrtP.ofS]; rw [if_pos (by omega)]]; exact PX_retE2 rfl rfl rfl (Ext.refl _) rfl rfl
  · rw [show SrtP.ofS ids many = none by simp only [SrtP.ofS]; rw [if_pos (by omega)]]; exact PX_retE2 rfl rfl rfl (Ext.refl _) rfl rfl
  · have hbs := (Array.getElem?_eq_some_iff.1 hb).1
    refine CX_loopV (ι := Nat × List Int × Value) (fun i => [(1, .val (.int .i64 many)), (6, .val (.pointer (some ⟨b, 0, none⟩))), (22, .val v), (23, .val (.int .i64 ids.length)), (24, .val (.int .i64 i.1))])
      (fun i w' => Ext w w' ∧ w9.heap.size ≤ w'.heap.size ∧ i.1 ≤ ids.length ∧ asA many ids i.1 = some i.2.1 ∧ w'.heap[b]? = some (.cells #[i.2.2] 66 (0, 0)) ∧ OwnI w9.heap.size 3 .i64 w' i.2.2 i.2.1)
      (fun i => ids.length - i.1) (fun w2 e2 => ⟨(0, [], .slice none 0 0), ⟨e9.trans e2, e2.size, Nat.zero_le _, rfl, e2.block hb, OwnI.nil⟩, (by repeat' (first | exact Sub.nil | refine Sub.val rfl (by first | with_reducible rfl | (congr 1; omega)) ?_ | refine Sub.same rfl ?_))⟩) ?_
    rintro ⟨k, es, sl⟩ w1 ⟨he, hsz, hk, hr, hbl, ho⟩
    dsimp only at hk hr hbl ho ⊢
    have h1 := h.ext he
    have hlen := baA hr
    repeat' (first|(refine oLA ?_;first|refine LA_pass rfl ?_|refine LA_nilCheck rfl rfl ?_|refine LA_fieldAddr (a' := ⟨b, 0, none⟩) rfl rfl (fun _ => rfl) ?_|refine LA_loadB (c := sl) rfl (fun _ => rfl) rfl hbl rfl ?_|refine LA_one rfl c4A rfl rfl ?_|(refine LA_stop (hK _ _ (LX_append rfl (by decide) c4A rfl ho rfl HasC.pred (by simp [Value.oneCell']) (by unfold maxLen; omega) (by omega) hsz (fun v' w2 w3 he2 ho3 hg3 => ?_))); clear hK K; have ho4 : OwnI w9.heap.size 3 .i64 w3 v' (es ++ [(k : Int) + 1]) := (by unfold OwnI; simpa using ho3); have hb3 := (hg3.block b (by have := he2.size; omega) (fun q => by have := (Own.lt ho b q.symm).1; omega)).trans (he2.block hbl); have x3 : Ext w w3 := (he.trans he2).grown hg3 (fun q hq => by have := (Own.lt ho q hq).1; have := e9.size; omega); have s3 := he2.size; have s4 := hg3.size; dsimp only [vals]; refine LX_la (by kernel_rfl) (fun K hK => ?_))|(refine LA_stop (hK _ _ (LX_store1 rfl rfl rfl hb3 (fun _ => rfl) (Nat.lt_succ_self 0) (OwnI.cells ho4) (OwnI.one ho4) (fun w4 e4 => ?_))); clear hK K; dsimp only [vals]; refine LX_la (by kernel_rfl) (fun K hK => ?_))|(obtain ⟨gb, cap, cur, rfl, hgb, hgc, hgn, hgm, hgs, hgt⟩ := ho.row (by omega); refine LA_indexS (s := 1) rfl rfl (fun _ => rfl) rfl rfl (by omega) (by omega) ?_)|(refine LA_stop (hK _ _ (LX_store1 (o := 0 + (ids.getD k 0).toNat * 1) rfl rfl rfl hgc (fun _ => rfl) (by omega) rfl rfl (fun w4 e4 => ?_))); clear hK K; dsimp only [vals]; refine LX_la (by kernel_rfl) (fun K hK => ?_))|refine wOp ?_|(refine wCm ?_ ?_<;>intro hc)|(refine wNl hK ?_;clear hK K))|refine wG ?_|(refine wCR ?_;intro K hK)|fail)
    · rename_i hc1 hc2 hc3
      refine PX_rndV (k + 1, es ++ [(k : Int) + 1], v') (fun w5 e5 => ⟨((x3.trans e4).setRow hb0 _).trans e5, ?_, ?_, ?_, e5.block (setRow_heap w4 b _ _ _ (0, 0) (e4.block hb3)), ?_⟩) ?_ (by repeat' (first | exact Sub.nil | refine Sub.val rfl (by first | with_reducible rfl | (congr 1; omega)) ?_ | refine Sub.same rfl ?_))
      · have h5 := e5.size; have h6 := e4.size; simp at h5; omega
      · dsimp only; omega
      · dsimp only; simp only [asA, hr, Option.bind_some, stepS]; rw [if_pos (by omega)]
      · exact OwnI.ext (Own.setRow (OwnI.ext ho4 e4) _ (fun q => by have := (Own.lt ho4 b q).1; omega)) e5
      · dsimp only; omega
    · rw [atA (k := k + 1) (by omega) (by simp only [asA, hr, Option.bind_some, stepS]; rw [if_neg (by omega), if_neg (by omega)])]; exact PX_retE2 rfl rfl rfl he rfl rfl
    · refine PX_rndV (k + 1, es.set (ids.getD k 0).toNat ((k : Int) + 1), .slice (some ⟨gb, 0, none⟩) es.length cap) (fun w5 e5 => ⟨((he.trans e4).setRow (by have := e9.size; omega) _).trans e5, ?_, ?_, ?_, ?_, ?_⟩) ?_ (by repeat' (first | exact Sub.nil | refine Sub.val rfl (by first | with_reducible rfl | (congr 1; omega)) ?_ | refine Sub.same rfl ?_))
      · have h5 := e5.size; have h6 := e4.size; simp at h5; omega
      · dsimp only; omega
      · dsimp only; simp only [asA, hr, Option.bind_some, stepS]; rw [if_neg (by omega), if_pos (by omega)]
      · refine e5.block ?_
        rw [setRow_other _ _ _ _ (by omega)]
        exact e4.block hbl
      · have hh := OwnI.set hgb (e4.block hgc) hgn hgm hgs hgt (ids.getD k 0).toNat (by omega) ((k : Int) + 1)
        have e0 : 0 + (ids.getD k 0).toNat * 1 = (ids.getD k 0).toNat := by omega
        rw [e0] at e5
        exact OwnI.ext hh e5
      · dsimp only; omega
    · rw [atA (k := k + 1) (by omega) (by simp only [asA, hr, Option.bind_some, stepS]; rw [if_neg (by omega), if_neg (by omega)])]; exact PX_retE2 rfl rfl rfl he rfl rfl
    · rw [atA (k := k + 1) (by omega) (by simp only [asA, hr, Option.bind_some, stepS]; rw [if_neg (by omega), if_neg (by omega)])]; exact PX_retE2 rfl rfl rfl he rfl rfl
    · obtain rfl : k = ids.length := by omega
      rw [show SrtP.ofS ids many = none by simp only [SrtP.ofS]; rw [if_neg (by omega), hr]; simp only [Option.bind_some]; rw [if_neg (by omega)]]; exact PX_retE2 rfl rfl rfl he rfl rfl
    · obtain rfl : k = ids.length := by omega
      rw [show SrtP.ofS ids many = some es by simp only [SrtP.ofS]; rw [if_neg (by omega), hr]; simp only [Option.bind_some]; rw [if_pos (by omega)]]
      refine PX_ret2 rfl (fun x y w5 e5 hx hy => ⟨_, rfl, he.trans e5, x, y, rfl, ?_, hy⟩)
      obtain rfl : x = _ := hx
      exact ⟨b, sl, rfl, hb0, e5.block hbl, Own.base (OwnI.ext ho e5) e9.size, fun q => by have := (Own.lt ho b q).1; omega⟩
theorem of_c (w : World) (v : Value) (ids : List Int) (many : Int) (h : SlI .i64 w v ids) : Fc Tryz.prog 9 #[v, .int .i64 many] w (Ret w (ofR (SrtP.ofS ids many))) := (of_o w v ids many h).mono c7A
theorem of_at {w : World} {v : Value} {ids : List Int} {many : Int} (h : SlI .i64 w v ids) {o : Option (List Int)} (ho : SrtP.ofS ids many = o) : Fc Tryz.prog 9 #[v, .int .i64 many] w (Ret w (ofR o)) := ho ▸ of_c w v ids many h
end Go.Proofs.YtadpcgjohleglaaGreatDoor.Sx
end
section
set_option linter.unusedSimpArgs false
set_option linter.unusedVariables false
set_option maxRecDepth 3000
namespace Go.Proofs.YtadpcgjohleglaaGreatDoor.Sx
open Go.LA Go.RowKit Go.SrtP
theorem rows_at {w : World} {v : Value} {ends : List Int} (h : IdxI w v ends) {id a b : Int} (hr : rowsS ends id = (a, b)) : Fc Tryz.prog 11 #[v, .int .i64 id] w (Ret w (.tup2 (.val (.int .i64 a)) (.val (.int .i64 b)))) := by
  have := cbA w v ends h id
  rwa [hr] at this
theorem bhA {w : World} {v : Value} {ends : List Int} (h : IdxI w v ends) {lo hi a b : Int} (hr : agA ends lo hi = (a, b)) : Fc Tryz.prog 34 #[v, .int .i64 lo, .int .i64 hi] w (Ret w (.tup2 (.val (.int .i64 a)) (.val (.int .i64 b)))) := by
  have := bqA w v ends h lo hi
  rwa [hr] at this
set_option maxHeartbeats 2000000 in
theorem known_c (w : World) : Fc Tryz.prog 8 #[] w (Ret w (.val (.bool true))) := by
  refine Fc.of (args := []) Tryz.func8 rfl rfl Tryz.ntmps8 (Nat.le_of_ble_eq_true rfl) ?_
  repeat' (first|(refine oLA ?_;first|refine LA_pass rfl ?_|refine LA_litI 3 .i64 [0, 0, 1] rfl (fun _ => rfl) (fun _ => by kernel_rfl) rfl (by decide) ?_|refine LA_litI 3 .i64 [0, 2] rfl (fun _ => rfl) (fun _ => by kernel_rfl) rfl (by decide) ?_|refine wOp ?_|(refine wCm ?_ ?_<;>intro hc)|(refine oCv ?_;first|(refine oC 9 ?_; refine LA_call2 (f := 9) rfl rfl rfl rfl  (.tup2 (.pred (idxI [2, 3])) (.val (.int .i64 0))) (by intro u1 u2 w e hu1 hu2; (try obtain rfl : u1 = _ := hu1); (try obtain rfl : u2 = _ := hu2); exact of_at (ids := [0, 0, 1]) (o := some [2, 3]) (OwnI.slI hu1) (by decide)) ?_)|(refine oC 9 ?_; refine LA_call2 (f := 9) rfl rfl rfl rfl  (.tup2 (.val (.pointer none)) (.val (.int .i64 2))) (by intro u1 u2 w e hu1 hu2; (try obtain rfl : u1 = _ := hu1); (try obtain rfl : u2 = _ := hu2); exact of_at (ids := [0, 2]) (o := none) (OwnI.slI hu1) (by decide)) ?_)|(refine oC 11 ?_; refine LA_call2 (f := 11) rfl rfl rfl rfl  (.tup2 (.val (.int .i64 2)) (.val (.int .i64 3))) (by intro u1 u2 w e hu1 hu2; (try obtain rfl : u1 = _ := hu1); (try obtain rfl : u2 = _ := hu2); exact rows_at hu1 (by decide)) ?_)|(refine oC 34 ?_; refine LA_call3 (f := 34) rfl rfl rfl rfl rfl  (.tup2 (.val (.int .i64 0)) (.val (.int .i64 2))) (by intro u1 u2 u3 w e hu1 hu2 hu3; (try obtain rfl : u1 = _ := hu1); (try obtain rfl : u2 = _ := hu2); (try obtain rfl : u3 = _ := hu3); exact bhA hu1 (by decide)) ?_)|(refine oC 35 ?_; refine LA_call1 (f := 35) rfl rfl rfl  (.val (.int .i64 2)) (by intro u1 w e hu1; (try obtain rfl : u1 = _ := hu1); exact len_c _ _ _ hu1) ?_))|(refine wNl hK ?_;clear hK K))|refine wG ?_|(refine wCR ?_;intro K hK)|(refine oPX ?_;first|exact PX_retE rfl rfl (Ext.refl _) rfl)|fail)
end Go.Proofs.YtadpcgjohleglaaGreatDoor.Sx
end
