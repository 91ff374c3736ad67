import Derived.Test.YtjiacignpmabcaaDoorC18
import Derived.Test.YtjiacignpmabcaaDoorC14

set_option linter.unusedSimpArgs false
set_option linter.unusedVariables false
set_option maxRecDepth 3000
namespace Go.LA
open Go.RowKit
section
variable {P : Program} {l : List Oper} {wb : World} {K : List Oper → Env → Prop} {rest : List Oper} {E : Env} {d : Tmp} {ty t t' : TypeId} {pos : String} {after : Array Edge} {g : Option (Nat × Bool)} {x y : Operand} {k : IntKind}
/-- An array out of four parts that are known by predicates. -/
theorem LA_build4P {x0 x1 x2 x3 : Operand} {φ0 φ1 φ2 φ3 : AV} (Ψ : AV) {j0 j1 j2 j3 : Nat} (hg : gdec l E g = some true) (h0 : opE E x0 = .pred φ0) (h1 : opE E x1 = .pred φ1) (h2 : opE E x2 = .pred φ2) (h3 : opE E x3 = .pred φ3)
    (hr : ∀ v0 v1 v2 v3 w, φ0.p v0 w → φ1.p v1 w → φ2.p v2 w → φ3.p v3 w → ∃ c, (Instr.build t #[(j0, v0), (j1, v1), (j2, v2), (j3, v3)]).run P w = .ok c w ∧ Ψ.p c w)
    (h : LA P l wb K rest ((d, .pred Ψ) :: E)) : LA P l wb K (⟨some d, .build t #[(j0, x0), (j1, x1), (j2, x2), (j3, x3)], ty, pos, after, g⟩ :: rest) E :=
  LA_of _ hg (fun a w he hh => by
    have e0 := hh x0 (by simp [Op.operands])
    have e1 := hh x1 (by simp [Op.operands])
    have e2 := hh x2 (by simp [Op.operands])
    have e3 := hh x3 (by simp [Op.operands])
    rw [h0] at e0; rw [h1] at e1; rw [h2] at e2; rw [h3] at e3; simp only [AD.ok] at e0 e1 e2 e3
    obtain ⟨c, hc, hp⟩ := hr _ _ _ _ _ e0 e1 e2 e3
    simp only [execOp, List.map_toArray, List.map_cons, List.map_nil, Sem.run_bind, hc, Result.andThen_ok, Sem.run_pure]
    exact ⟨Ext.refl _, hp⟩) h
end
end Go.LA
namespace Go.Proofs.YtjiacignpmabcaaDoor
open Go.LA Go.ArrP Go.RowKit
/-! ### ContainerPairs -/
abbrev t4C : Nat := 47
/-- Four containers in a row. -/
def fourA (s : Nat → Nat → Bool) : AV := ⟨fun v w => ∃ a : Nat → Array Value, v = .agg (a 0 ++ a 1 ++ a 2 ++ a 3) ∧ ∀ j, j < 4 → (a j).size = 4 ∧ Cn TT w (.agg (a j)) (s j) (kindP (s j)),
  fun _ _ _ e ⟨a, h1, h2⟩ => ⟨a, h1, fun j hj => ⟨(h2 j hj).1, (h2 j hj).2.ext e⟩⟩⟩
theorem lays_one' {w : World} {p : Nat → Bool} {kk : Int} {cs : Array Value} (h : Cn TT w (.agg cs) p kk) : ∀ u ∈ cs.toList, u.oneCell' = true := fun u hu =>
  (lays_cn.shape _ _ h).elim fun c h => by obtain ⟨h1, -, h2⟩ := h; cases h1; exact h2 u hu
theorem lays_four (s : Nat → Nat → Bool) : Lays (fourA s) 16 t4C :=
  ⟨fun v w h => by
    obtain ⟨a, rfl, h2⟩ := h
    refine ⟨_, rfl, by simp [(h2 0 (by decide)).1, (h2 1 (by decide)).1, (h2 2 (by decide)).1, (h2 3 (by decide)).1], fun u hu => ?_⟩
    simp only [Array.toList_append, List.mem_append] at hu
    rcases hu with ((hu | hu) | hu) | hu
    · exact lays_one' (h2 0 (by decide)).2 u hu
    · exact lays_one' (h2 1 (by decide)).2 u hu
    · exact lays_one' (h2 2 (by decide)).2 u hu
    · exact lays_one' (h2 3 (by decide)).2 u hu,
   fun v w b cur j cs h hb => by
    obtain ⟨a, rfl, h2⟩ := h
    exact ⟨a, rfl, fun j hj => ⟨(h2 j hj).1, (h2 j hj).2.setRow hb ⟨by decide, by decide, by decide⟩ cs⟩⟩⟩
theorem four_at {a : Nat → Array Value} (h : ∀ j, j < 4 → (a j).size = 4) {i o : Nat} (hi : i < 4) (ho : o < 4) : (a 0 ++ a 1 ++ a 2 ++ a 3)[i * 4 + o]? = (a i)[o]? := by
  have h0 := h 0 (by decide); have h1 := h 1 (by decide); have h2 := h 2 (by decide); have h3 := h 3 (by decide)
  have hc : i = 0 ∨ i = 1 ∨ i = 2 ∨ i = 3 := by omega
  have s2 : (a 0 ++ a 1).size = 8 := by rw [Array.size_append]; omega
  have s3 : (a 0 ++ a 1 ++ a 2).size = 12 := by rw [Array.size_append]; omega
  rcases hc with rfl | rfl | rfl | rfl
  · rw [Array.getElem?_append_left (by omega), Array.getElem?_append_left (by omega), Array.getElem?_append_left (by omega), Nat.zero_mul, Nat.zero_add]
  · rw [Array.getElem?_append_left (by omega), Array.getElem?_append_left (by omega), Array.getElem?_append_right (by omega), h0, show 1 * 4 + o - 4 = o by omega]
  · rw [Array.getElem?_append_left (by omega), Array.getElem?_append_right (by omega), s2, show 2 * 4 + o - 8 = o by omega]
  · rw [Array.getElem?_append_right (by omega), s3, show 3 * 4 + o - 12 = o by omega]
theorem VarC.oth {A : Nat → Prop} {w : World} {b b' : Nat} {cur cs cs' : Array Value} {p : Nat → Bool} {kk : Int} {e : TypeId} {j : Nat × Nat} (h : VarC A w b cs p kk) (hb : w.heap[b']? = some (.cells cur e j)) (he : tC ≠ e ∧ 29 ≠ e ∧ 66 ≠ e ∧ 70 ≠ e) : VarC A (w.setRow b' cs') b cs p kk :=
  ⟨setRow_keep cs' h.hb (fun hh => by subst hh; rw [h.hb] at hb; simp only [Option.some.injEq, Obj.cells.injEq] at hb; exact he.1 hb.2.1), h.hn, h.hc.setRow hb he.2 cs'⟩
def bP (p q : Nat → Bool) (j : Nat) : Nat → Bool := fun i => bothF ((j : Int) + 1) (p i) (q i)
theorem bP0 (p q : Nat → Bool) (i : Nat) : two (fun x y => x && y) p q i = bP p q 0 i := by unfold bP bothF two; simp
theorem bP1 (p q : Nat → Bool) (i : Nat) : two (fun x y => x || y) p q i = bP p q 1 i := by unfold bP bothF two; simp
theorem bP2 (p q : Nat → Bool) (i : Nat) : two (fun x y => x && !y) p q i = bP p q 2 i := by unfold bP bothF two; simp
theorem bP3 (p q : Nat → Bool) (i : Nat) : two (fun x y => !(x == y)) p q i = bP p q 3 i := by unfold bP bothF two; simp
theorem cn_four {w : World} {v0 v1 v2 v3 : Value} {p q : Nat → Bool} (h0 : Cn TT w v0 (two (fun x y => x && y) p q) (kindP (two (fun x y => x && y) p q))) (h1 : Cn TT w v1 (two (fun x y => x || y) p q) (kindP (two (fun x y => x || y) p q)))
    (h2 : Cn TT w v2 (two (fun x y => x && !y) p q) (kindP (two (fun x y => x && !y) p q))) (h3 : Cn TT w v3 (two (fun x y => !(x == y)) p q) (kindP (two (fun x y => !(x == y)) p q))) :
    ∃ c, (Instr.build t4C #[(0, v0), (1, v1), (2, v2), (3, v3)]).run Tryd.prog w = .ok c w ∧ (fourA (bP p q)).p c w := by
  have g0 : Cn TT w v0 (bP p q 0) (kindP (bP p q 0)) := by rw [← kindP_congr (fun i _ => bP0 p q i)]; exact h0.congr (by rw [← bP0]; exact h0.1) (fun i _ => bP0 p q i)
  have g1 : Cn TT w v1 (bP p q 1) (kindP (bP p q 1)) := by rw [← kindP_congr (fun i _ => bP1 p q i)]; exact h1.congr (by rw [← bP1]; exact h1.1) (fun i _ => bP1 p q i)
  have g2 : Cn TT w v2 (bP p q 2) (kindP (bP p q 2)) := by rw [← kindP_congr (fun i _ => bP2 p q i)]; exact h2.congr (by rw [← bP2]; exact h2.1) (fun i _ => bP2 p q i)
  have g3 : Cn TT w v3 (bP p q 3) (kindP (bP p q 3)) := by rw [← kindP_congr (fun i _ => bP3 p q i)]; exact h3.congr (by rw [← bP3]; exact h3.1) (fun i _ => bP3 p q i)
  obtain ⟨k0, a0, a1, a2, rfl, -⟩ := g0.parts
  obtain ⟨k1, b0, b1, b2, rfl, -⟩ := g1.parts
  obtain ⟨k2, c0, c1, c2, rfl, -⟩ := g2.parts
  obtain ⟨k3, d0, d1, d2, rfl, -⟩ := g3.parts
  refine ⟨.agg #[.int .u8 k0, a0, a1, a2, .int .u8 k1, b0, b1, b2, .int .u8 k2, c0, c1, c2, .int .u8 k3, d0, d1, d2], by kernel_rfl, fun j => match j with | 0 => #[.int .u8 k0, a0, a1, a2] | 1 => #[.int .u8 k1, b0, b1, b2] | 2 => #[.int .u8 k2, c0, c1, c2] | _ => #[.int .u8 k3, d0, d1, d2], rfl, fun j hj => ?_⟩
  have hc : j = 0 ∨ j = 1 ∨ j = 2 ∨ j = 3 := by omega
  rcases hc with rfl | rfl | rfl | rfl
  · exact ⟨rfl, g0⟩
  · exact ⟨rfl, g1⟩
  · exact ⟨rfl, g2⟩
  · exact ⟨rfl, g3⟩
set_option maxHeartbeats 16000000 in
theorem cpairs_c (w : World) (va vb : Value) (xs ys : List Int) (xv lo hi : Int) (h1 : SlI .u16 w va xs) (h2 : SlI .u16 w vb ys) (l1 : Low xs) (l2 : Low ys) (hxv : 0 ≤ xv ∧ xv < 65536) (hlo : -9223372036854775808 ≤ lo ∧ lo < 9223372036854775808) (hhi : -9223372036854775808 ≤ hi ∧ hi < 9223372036854775808) (hT : Tab w) :
    Fc Tryd.prog 5 #[va, vb, .int .u16 xv, .int .i64 lo, .int .i64 hi] w (Ret w (.val (.bool true))) := by
  have n1 := h1.len
  have n2 := h2.len
  obtain ⟨x, rfl⟩ : ∃ x : Nat, xv = (x : Int) := ⟨xv.toNat, by omega⟩
  have hx : x < 65536 := by omega
  have hp := memb_top l1
  have hq := memb_top l2
  obtain ⟨p, hpp⟩ : ∃ p, p = memb xs := ⟨_, rfl⟩
  obtain ⟨q, hqq⟩ : ∃ q, q = memb ys := ⟨_, rfl⟩
  have m1 : ∀ w' (k : Int), Ext w w' → (k = 1 ∨ k = 2 ∨ k = 3) → Fc Tryd.prog 24 #[va, .int .u8 k] w' (Ret w' (.tup3 (.pred (cnP TT (memb xs) k)) (.pred (mkI w'.heap.size tM (memb xs))) (.val (.bool true)))) := fun w' k e hk => make3_c (h1.ext e) l1 hk
  have m2 : ∀ w' (k : Int), Ext w w' → (k = 1 ∨ k = 2 ∨ k = 3) → Fc Tryd.prog 24 #[vb, .int .u8 k] w' (Ret w' (.tup3 (.pred (cnP TT (memb ys) k)) (.pred (mkI w'.heap.size tM (memb ys))) (.val (.bool true)))) := fun w' k e hk => make3_c (h2.ext e) l2 hk
  rw [← hpp] at m1 hp; rw [← hqq] at m2 hq
  clear hpp hqq hxv
  have kF : kindP (flipM p lo hi) = kindP (flp p lo hi) := kindP_congr fun i hi' => flp_flipM p lo hi hi'
  have lF : listS (flipM p lo hi) 65536 = listS (flp p lo hi) 65536 := listS_congr 65536 fun i hi' => flp_flipM p lo hi hi'
  obtain ⟨pX, hpX⟩ : ∃ pX : Nat → Bool, pX = fun j => if j = x then true else p j := ⟨_, rfl⟩
  have hXe : ∀ i, pX i = addP p x i := fun i => by
    rw [hpX]; unfold addP
    by_cases h : i = x
    · simp [h]
    · simp [h]
  have kX : kindP pX = kindP (addP p x) := kindP_congr fun i _ => hXe i
  have lX : listS pX 65536 = listS (addP p x) 65536 := listS_congr 65536 fun i _ => hXe i
  have gF : Hide (listS (flipM p lo hi) 65536 = listS (flp p lo hi) 65536) := ⟨lF⟩
  have gX : Hide (listS pX 65536 = listS (addP p x) 65536) := ⟨lX⟩
  have ghX : Hide (pX = fun j => if j = x then true else p j) := ⟨hpX⟩
  clear lF lX hpX hXe
  refine Fc.of (args := [_, _, _, _, _]) Tryd.func5 rfl rfl Tryd.ntmps5 (Nat.le_of_ble_eq_true rfl) ?_
  repeat' (first
   |(refine oLA ?_;first
   |refine LA_pass rfl ?_|(refine wOpB ?_;try dsimp only [Int.reduceToNat, Int.reducePow])|refine wOp ?_|(refine wOpD ?_;try dsimp only [Int.reduceToNat, Int.toNat_natCast])|(refine LA_cmp rfl rfl rfl rfl (fun hc => ?_) (fun hc => ?_)<;>dsimp only [cmpP] at hc)|(refine oCv ?_;first
   |(refine oC 7 ?_; refine LA_call0 (f := 7) rfl rfl  (.val (.bool true)) (by intro w e; exact cknown_c _ (hT.ext e)) ?_))|(refine LA_nil (hK [] _ (LX_nil ?_));clear hK K)|(refine LA_nil (hK _ ?_);clear hK K))
   |(refine oCX ?_;first
   |refine wCX ?_|(refine wCR ?_;intro K hK))
   |(refine oPX ?_;first
   |refine wPX ?_
   |exact PX_retE rfl rfl (Ext.refl _) rfl)
   |(refine oLX ?_;first
   |refine LX_nil ?_))
  refine CX_loopV (ι := Nat) (fun k => [(0, .val va), (1, .val vb), (2, .val (.int .u16 (x : Int))), (3, .val (.int .i64 lo)), (4, .val (.int .i64 hi)), (11, .val (.int .u8 (k : Int)))]) (fun k w' => Ext w w' ∧ k ≤ 9) (fun k => 9 - k) (fun w2 e2 => ⟨0, ⟨e2, by decide⟩, (by repeat' (first | exact Sub.nil | refine Sub.val rfl (by first | with_reducible rfl | (congr 1; omega)) ?_ | refine Sub.same rfl ?_))⟩) ?_
  rintro k w1 ⟨he, hk⟩
  have hT1 := hT.ext he
  by_cases hk9 : k < 9
  · obtain ⟨k1, hk1⟩ : ∃ k1 : Int, k1 = 1 + (k : Int) / 3 := ⟨_, rfl⟩
    obtain ⟨k2, hk2⟩ : ∃ k2 : Int, k2 = 1 + (k : Int) % 3 := ⟨_, rfl⟩
    repeat' (first
     |(refine oLA ?_;first
     |refine LA_pass rfl ?_
     |(refine oD 42 ?_; refine oC 24 ?_; refine LA_call2 (f := 24) rfl rfl rfl rfl  (.tup3 (.pred (cnP TT p k1)) (.pred (mkI w1.heap.size tM p)) (.val (.bool true))) (by intro u1 u2 w e hu1 hu2; (try obtain rfl : u1 = _ := hu1); (try obtain rfl : u2 = _ := hu2); exact hk1 ▸ (m1 _ _ (he.trans e) (by omega)).mono (ret_mk3 e.size)) ?_)
     |(refine oD 12 ?_; refine LA_stop (hK _ _ (LX_varK (q := 43) (φ := cnP TT p k1) (n := 4) rfl rfl (by decide) rfl rfl lays_cn (fun _ => rfl) rfl (fun _ => rfl) (fun b12 c12 w12 e12 hb12 hh12 hn12 hc12 => ?_))); clear hK K)|(refine wOpB ?_;try dsimp only [Int.reduceToNat, Int.reducePow])|refine wOp ?_|(refine wOpD ?_;try dsimp only [Int.reduceToNat, Int.toNat_natCast])|(refine LA_cmp rfl rfl rfl rfl (fun hc => ?_) (fun hc => ?_)<;>dsimp only [cmpP] at hc)|(refine LA_nil (hK [] _ (LX_nil ?_));clear hK K)|(refine LA_nil (hK _ ?_);clear hK K))
     |(refine oCX ?_;first
     |refine wCX ?_|(refine wCR ?_;intro K hK))
     |(refine oPX ?_;first
     |refine wPX ?_)
     |(refine oLX ?_;first
     |refine LX_nil ?_))
    have V12 : VarC TT w12 b12 c12 _ _ := ⟨hh12, hn12, hc12⟩
    refine LX_la (by kernel_rfl) (fun K hK => ?_)
    repeat' (first
     |(refine oLA ?_;first
     |refine LA_pass rfl ?_
     |(refine oD 51 ?_; refine oC 24 ?_; refine LA_call2 (f := 24) rfl rfl rfl rfl  (.tup3 (.pred (cnP TT q k2)) (.pred (mkI w1.heap.size tM q)) (.val (.bool true))) (by intro u1 u2 w e hu1 hu2; (try obtain rfl : u1 = _ := hu1); (try obtain rfl : u2 = _ := hu2); exact hk2 ▸ (m2 _ _ (he.trans (e12.trans e)) (by omega)).mono (ret_mk3 (e12.trans e).size)) ?_)
     |(refine oD 15 ?_; refine LA_stop (hK _ _ (LX_varK (q := 52) (φ := cnP TT q k2) (n := 4) rfl rfl (by decide) rfl rfl lays_cn (fun _ => rfl) rfl (fun _ => rfl) (fun b15 c15 w15 e15 hb15 hh15 hn15 hc15 => ?_))); clear hK K)|(refine wOpB ?_;try dsimp only [Int.reduceToNat, Int.reducePow])|refine wOp ?_|(refine wOpD ?_;try dsimp only [Int.reduceToNat, Int.toNat_natCast])|(refine LA_cmp rfl rfl rfl rfl (fun hc => ?_) (fun hc => ?_)<;>dsimp only [cmpP] at hc)|(refine LA_nil (hK [] _ (LX_nil ?_));clear hK K)|(refine LA_nil (hK _ ?_);clear hK K))
     |(refine oCX ?_;first
     |refine wCX ?_|(refine wCR ?_;intro K hK))
     |(refine oPX ?_;first
     |refine wPX ?_)
     |(refine oLX ?_;first
     |refine LX_nil ?_))
    have V15 : VarC TT w15 b15 c15 _ _ := ⟨hh15, hn15, hc15⟩
    replace V12 := V12.ext e15
    refine LX_la (by kernel_rfl) (fun K hK => ?_)
    repeat' (first
     |(refine oLA ?_;first
     |refine LA_pass rfl ?_
     |(refine oD 55 ?_; refine LA_stop (hK _ _ (LX_pick 13 rfl (fun v13 wa ea h13 => LX_pick 16 rfl (fun v16 wb eb h16 => ?_)))); clear hK K)|(refine wOpB ?_;try dsimp only [Int.reduceToNat, Int.reducePow])|refine wOp ?_|(refine wOpD ?_;try dsimp only [Int.reduceToNat, Int.toNat_natCast])|(refine LA_cmp rfl rfl rfl rfl (fun hc => ?_) (fun hc => ?_)<;>dsimp only [cmpP] at hc)|(refine LA_nil (hK [] _ (LX_nil ?_));clear hK K)|(refine LA_nil (hK _ ?_);clear hK K))
     |(refine oCX ?_;first
     |refine wCX ?_|(refine wCR ?_;intro K hK))
     |(refine oPX ?_;first
     |refine wPX ?_)
     |(refine oLX ?_;first
     |refine LX_nil ?_))
    have h16 : MkI w1.heap.size tM wb v16 q := h16
    replace h13 : MkI w1.heap.size tM wb v13 p := MkI.ext h13 eb
    obtain ⟨bm, rfl, hbm, hm⟩ := h13
    have e0 := he.trans (e12.trans (e15.trans (ea.trans eb)))
    have Tb := hT.ext e0
    replace V12 := V12.ext (ea.trans eb)
    replace V15 := V15.ext (ea.trans eb)
    refine LX_la (by kernel_rfl) (fun K hK => ?_)
    repeat' (first
     |(refine oLA ?_;first
     |refine LA_pass rfl ?_
     |(refine oLd ?_; refine LA_loadK rfl V12.hb V12.hn rfl (fun _ => rfl) (fun _ => rfl) ?_)
     |(refine oLd ?_; refine LA_loadK rfl V15.hb V15.hn rfl (fun _ => rfl) (fun _ => rfl) ?_)
     |(refine LA_build4P (fourA (bP p q)) rfl rfl rfl rfl rfl (fun v0 v1 v2 v3 w' g0 g1 g2 g3 => cn_four g0 g1 g2 g3) ?_)
     |(refine oAl ?_; refine LA_alloc rfl (fun _ => rfl) ?_)
     |(refine oSt ?_; refine LA_stop (hK _ _ rfl (LX_pick 18 rfl (fun v18 wc ec h18 => ?_))); clear hK K)|(refine wOpB ?_;try dsimp only [Int.reduceToNat, Int.reducePow])|refine wOp ?_|(refine wOpD ?_;try dsimp only [Int.reduceToNat, Int.toNat_natCast])|(refine LA_cmp rfl rfl rfl rfl (fun hc => ?_) (fun hc => ?_)<;>dsimp only [cmpP] at hc)|(refine oCv ?_;first
     |(refine oC 22 ?_; refine LA_call2 (f := 22) rfl rfl rfl rfl  (.pred (cnP TT (two (fun x y => x && y) p q) (kindP (two (fun x y => x && y) p q)))) (by intro u1 u2 w e hu1 hu2; (try obtain rfl : u1 = _ := hu1); (try obtain rfl : u2 = _ := hu2); exact cand_c (V12.hc.ext e) (V15.hc.ext e) (Tb.ext e) tt) ?_)
     |(refine oC 23 ?_; refine LA_call2 (f := 23) rfl rfl rfl rfl  (.pred (cnP TT (two (fun x y => x || y) p q) (kindP (two (fun x y => x || y) p q)))) (by intro u1 u2 w e hu1 hu2; (try obtain rfl : u1 = _ := hu1); (try obtain rfl : u2 = _ := hu2); exact cor_c (V12.hc.ext e) (V15.hc.ext e) (Tb.ext e) tt) ?_)
     |(refine oC 25 ?_; refine LA_call2 (f := 25) rfl rfl rfl rfl  (.pred (cnP TT (two (fun x y => x && !y) p q) (kindP (two (fun x y => x && !y) p q)))) (by intro u1 u2 w e hu1 hu2; (try obtain rfl : u1 = _ := hu1); (try obtain rfl : u2 = _ := hu2); exact candnot_c (V12.hc.ext e) (V15.hc.ext e) (Tb.ext e) tt) ?_)
     |(refine oC 26 ?_; refine LA_call2 (f := 26) rfl rfl rfl rfl  (.pred (cnP TT (two (fun x y => !(x == y)) p q) (kindP (two (fun x y => !(x == y)) p q)))) (by intro u1 u2 w e hu1 hu2; (try obtain rfl : u1 = _ := hu1); (try obtain rfl : u2 = _ := hu2); exact cxor_c (V12.hc.ext e) (V15.hc.ext e) (Tb.ext e) tt) ?_))|(refine LA_nil (hK [] _ (LX_nil ?_));clear hK K)|(refine LA_nil (hK _ ?_);clear hK K))
     |(refine oCX ?_;first
     |refine CX_regionS 14 rfl (by kernel_rfl) (by kernel_rfl) (fun K hK => ?_)
     |refine wCX ?_|(refine wCR ?_;intro K hK))
     |(refine oPX ?_;first
     |refine wPX ?_)
     |(refine oLX ?_;first
     |refine LX_nil ?_))
    obtain ⟨b18, hb18, rfl, h18⟩ := h18
    refine LX_storeK (q := 73) (φ := fourA (bP p q)) (n := 16) rfl rfl rfl h18 rfl (lays_four _) (fun _ => rfl) (fun c18 wd ed hn18 hf18 hbd => ?_)
    have x18 := setRow_heap wd b18 _ c18 _ (0, 0) hbd
    have f18 := (lays_four (bP p q)).stays _ _ _ _ _ c18 hf18 hbd
    replace V12 := (V12.ext (ec.trans ed)).oth (cs' := c18) hbd ⟨by decide, by decide, by decide, by decide⟩
    replace V15 := (V15.ext (ec.trans ed)).oth (cs' := c18) hbd ⟨by decide, by decide, by decide, by decide⟩
    have hm' := (show MkI w1.heap.size tM wb _ p from ⟨bm, rfl, hbm, hm⟩).ext (ec.trans ed) |>.setRow hbd (by decide) c18
    replace h16 := (h16.ext (ec.trans ed)).setRow hbd (by decide) c18
    have hb18w : w.heap.size ≤ b18 := by have := e0.size; omega
    have eE := (e0.trans (ec.trans ed)).setRow hb18w c18
    clear hm hbd h18
    obtain ⟨wE, hwE⟩ : ∃ wE, wE = wd.setRow b18 c18 := ⟨_, rfl⟩
    rw [← hwE] at x18 f18 V12 V15 hm' h16 eE ⊢
    clear hwE
    have TE := hT.ext eE
    obtain ⟨a, ha, hf⟩ := f18
    cases ha
    have hsz : ∀ j, j < 4 → (a j).size = 4 := fun j hj => (hf j hj).1
    repeat' (first
     |(refine oLA ?_;first
     |refine LA_pass rfl ?_|(refine wOpB ?_;try dsimp only [Int.reduceToNat, Int.reducePow])|refine wOp ?_|(refine wOpD ?_;try dsimp only [Int.reduceToNat, Int.toNat_natCast])|(refine LA_cmp rfl rfl rfl rfl (fun hc => ?_) (fun hc => ?_)<;>dsimp only [cmpP] at hc)|(refine LA_nil (hK [] _ (LX_nil ?_));clear hK K)|(refine LA_nil (hK _ ?_);clear hK K))
     |(refine oCX ?_;first
     |refine wCX ?_|(refine wCR ?_;intro K hK))
     |(refine oPX ?_;first
     |refine wPX ?_)
     |(refine oLX ?_;first
     |refine LX_nil ?_))
    refine CX_loop (ι := Nat) (fun i => [(0, .val va), (1, .val vb), (2, .val (.int .u16 (x : Int))), (3, .val (.int .i64 lo)), (4, .val (.int .i64 hi)), (11, .val (.int .u8 (k : Int))), (12, .val (.pointer (some ⟨b12, 0, none⟩))), (13, .val (.pointer (some ⟨bm, 0, none⟩))), (15, .val (.pointer (some ⟨b15, 0, none⟩))), (16, .val v16), (18, .val (.pointer (some ⟨b18, 0, none⟩))), (74, .val (.int .i64 (i : Int)))]) (fun i => i ≤ 4) (fun i => 4 - i) 0 (by decide) (by repeat' (first | exact Sub.nil | refine Sub.val rfl (by first | with_reducible rfl | (congr 1; omega)) ?_ | refine Sub.same rfl ?_)) ?_
    rintro i hi4
    by_cases hi : i < 4
    · have hCi := (hf i hi).2
      obtain ⟨kd, pa, pw, pr, hai, -⟩ := hCi.parts
      have hai' : a i = #[.int .u8 kd, pa, pw, pr] := by injection hai
      rw [hai'] at hCi
      have hcell : ∀ (j : Nat) (c : Value), ([.int .u8 kd, pa, pw, pr] : List Value)[j]? = some c → wE.cell? ((⟨b18, 0 + i * 4, none⟩ : Addr).add j) = some c := fun j c hj => by
        have hj4 : j < 4 := (List.getElem?_eq_some_iff.1 hj).1
        rw [Addr.add_lit, cell_of_row wE b18 _ _ _ (0, 0) x18, Nat.zero_add, four_at hsz hi hj4, hai']
        simpa using hj
      obtain ⟨kB, hkB⟩ : ∃ kB, kB = kindP (bP p q i) := ⟨_, rfl⟩
      obtain ⟨B, hB⟩ : ∃ B, B = bP p q i := ⟨_, rfl⟩
      have Fb : ∀ w', Ext wE w' → Fc Tryd.prog 27 #[.pointer (some ⟨bm, 0, none⟩), v16, .int .i64 ((i : Int) + 1)] w' (Ret w' (.pred (mkI w'.heap.size tM B))) := fun w' e => hB ▸ mboth_c w' _ _ _ _ p q ((i : Int) + 1) (hm'.ext e) (h16.ext e)
      rw [← hkB, ← hB] at hCi
      rw [← hB] at hkB
      repeat' (first
       |(refine oLA ?_;first
       |refine LA_pass rfl ?_
       |(refine oI ?_; refine LA_indexArr (n := 4) (s := 4) rfl rfl (fun _ => rfl) rfl rfl i rfl (by omega) ?_)
       |(refine oLd ?_; refine LA_loadA4 rfl (fun _ => rfl) (fun _ => rfl) rfl hcell ?_)|(refine wOpB ?_;try dsimp only [Int.reduceToNat, Int.reducePow])|refine wOp ?_|(refine wOpD ?_;try dsimp only [Int.reduceToNat, Int.toNat_natCast])|(refine LA_cmp rfl rfl rfl rfl (fun hc => ?_) (fun hc => ?_)<;>dsimp only [cmpP] at hc)|(refine oCv ?_;first
       |(refine oC 27 ?_; refine LA_call3 (f := 27) rfl rfl rfl rfl rfl  (.pred (mkI wE.heap.size tM B)) (by intro u1 u2 u3 w e hu1 hu2 hu3; (try obtain rfl : u1 = _ := hu1); (try obtain rfl : u2 = _ := hu2); (try obtain rfl : u3 = _ := hu3); exact (Fb _ e).mono (ret_mk e.size)) ?_)
       |(refine oC 13 ?_; refine LA_call1 (f := 13) rfl rfl rfl  (.val (.int .u8 kB)) (by intro u1 w e hu1; (try obtain rfl : u1 = _ := hu1); exact kind_c (hCi.ext e)) ?_)
       |(refine oC 28 ?_; refine LA_call1 (f := 28) rfl rfl rfl  (.val (.int .u8 kB)) (by intro u1 w e hu1; (try obtain rfl : u1 = _ := hu1); exact hkB ▸ rkind_c hu1) ?_)
       |(refine oC 15 ?_; refine LA_call1 (f := 15) rfl rfl rfl  (.pred (ownI wE.heap.size 29 .u16 (listS B 65536))) (by intro u1 w e hu1; (try obtain rfl : u1 = _ := hu1); exact (array_c (hCi.ext e) (TE.ext e)).mono (ret_base e.size)) ?_)
       |(refine oC 11 ?_; refine LA_call1 (f := 11) rfl rfl rfl  (.pred (ownI wE.heap.size 29 .u16 (listS B 65536))) (by intro u1 w e hu1; (try obtain rfl : u1 = _ := hu1); exact (mlist_c _ _ _ B hu1).mono (ret_base e.size)) ?_)
       |(refine oC 14 ?_; refine LA_call2 (f := 14) rfl rfl rfl rfl  (.val (.bool true)) (by intro u1 u2 w e hu1 hu2; (try obtain rfl : u1 = _ := hu1); (try obtain rfl : u2 = _ := hu2); exact ret_true (same_c _ _ _ (listS B 65536) (listS B 65536) (OwnI.slI hu1) (OwnI.slI hu2)) (decide_eq_true rfl)) ?_))|(refine LA_nil (hK [] _ (LX_nil ?_));clear hK K)|(refine LA_nil (hK _ ?_);clear hK K))
       |(refine oCX ?_;first
       |refine wCX ?_|(refine wCR ?_;intro K hK))
       |(refine oPX ?_;first
       |refine wPX ?_)
       |(refine oLX ?_;first
       |refine LX_nil ?_))
      exact PX_rnd (i + 1) (by omega) (by omega) (by repeat' (first | exact Sub.nil | refine Sub.val rfl (by first | with_reducible rfl | (congr 1; omega)) ?_ | refine Sub.same rfl ?_))
    · obtain rfl : i = 4 := by omega
      clear hi hi4 hf hsz x18
      repeat' (first
       |(refine oLA ?_;first
       |refine LA_backN ?_|refine LA_backV rfl ?_|refine LA_backP (fun _ _ _ h => h) ?_|refine LA_pass rfl ?_
       |(refine oLd ?_; refine LA_loadK rfl V12.hb V12.hn rfl (fun _ => rfl) (fun _ => rfl) ?_)
       |(refine oAl ?_; refine LA_alloc rfl (fun _ => rfl) ?_)|(refine wOpB ?_;try dsimp only [Int.reduceToNat, Int.reducePow])|refine wOp ?_|(refine wOpD ?_;try dsimp only [Int.reduceToNat, Int.toNat_natCast])|(refine LA_cmp rfl rfl rfl rfl (fun hc => ?_) (fun hc => ?_)<;>dsimp only [cmpP] at hc)|(refine oCv ?_;first
       |(refine oC 16 ?_; refine LA_call3 (f := 16) rfl rfl rfl rfl rfl  (.pred (cnP TT (flp p lo hi) (kindP (flp p lo hi)))) (by intro u1 u2 u3 w e hu1 hu2 hu3; (try obtain rfl : u1 = _ := hu1); (try obtain rfl : u2 = _ := hu2); (try obtain rfl : u3 = _ := hu3); exact flip_c (V12.hc.ext e) (TE.ext e) tt lo hi hlo hhi) ?_)
       |(refine oC 8 ?_; refine LA_call2 (f := 8) rfl rfl rfl rfl  (.pred (cnP TT (addP p x) (kindP (addP p x)))) (by intro u1 u2 w e hu1 hu2; (try obtain rfl : u1 = _ := hu1); (try obtain rfl : u2 = _ := hu2); exact cwith_c (V12.hc.ext e) (TE.ext e) tt hx) ?_))|(refine LA_nil (hK [] _ (LX_nil ?_));clear hK K)|(refine LA_nil (hK _ ?_);clear hK K))
       |(refine oCX ?_;first
       |refine CX_phases [7, 9, 10] (by kernel_rfl) (by kernel_rfl) (by kernel_rfl) (Phase_cons ?_)
       |refine wCX ?_|(refine wCR ?_;intro K hK))
       |(refine oPX ?_;first
       |refine wPX ?_)
       |(refine oLX ?_;first
       |refine LX_nil ?_)
       |(refine oLP ?_;first
       |refine wLP ?_|refine LP_now (by decide +kernel) ?_|refine LP_float (by decide +kernel) rfl ?_|refine LP_nil ?_))
      refine MX_alloc rfl (fun _ => rfl) (fun w21 e21 => ⟨(22, .pred (ptrQ (fun b => w21.heap.size ≠ b ∧ wE.heap.size ≤ b) _ tC)) :: _, keep_cons (fun u hu => by obtain ⟨b, hb, rfl, hh⟩ := hu; exact ⟨b, by have := blk_lt hh; exact ⟨by omega, hb⟩, rfl, (Ext.alloc _ _).block hh⟩) (mono_keep (Ext.alloc _ _)), ?_⟩)
      have eA := e21.trans (Ext.alloc w21 (.cells (Value.agg #[.int .u8 0, .slice none 0 0, .slice none 0 0, .slice none 0 0]).cells tC))
      have h21 := heap_alloc_new w21 (.cells (Value.agg #[.int .u8 0, .slice none 0 0, .slice none 0 0, .slice none 0 0]).cells tC)
      have hsA : (w21.alloc (.cells (Value.agg #[.int .u8 0, .slice none 0 0, .slice none 0 0, .slice none 0 0]).cells tC)).heap.size = w21.heap.size + 1 := by simp
      obtain ⟨wA, hwA⟩ : ∃ wA, wA = w21.alloc (.cells (Value.agg #[.int .u8 0, .slice none 0 0, .slice none 0 0, .slice none 0 0]).cells tC) := ⟨_, rfl⟩
      obtain ⟨b21, hb21⟩ : ∃ b21, b21 = w21.heap.size := ⟨_, rfl⟩
      have hb21e : w.heap.size ≤ b21 := hb21 ▸ (eE.trans e21).size
      have l12 := V12.lt
      have l15 := V15.lt
      have n21 : b12 ≠ b21 ∧ b15 ≠ b21 := ⟨by have := (V12.ext e21).lt; omega, by have := (V15.ext e21).lt; omega⟩
      rw [← hwA] at eA hsA ⊢
      rw [← hwA, ← hb21] at h21
      rw [← hb21] at hsA
      rw [← hb21]
      clear hwA
      replace V12 := V12.ext eA
      replace V15 := V15.ext eA
      replace hm' := hm'.ext eA
      replace h16 := h16.ext eA
      have TA := TE.ext eA
      refine Phase_cons ?_
      repeat' (first
       |(refine oLA ?_;first
       |refine LA_backN ?_|refine LA_backV rfl ?_|refine LA_backP (fun _ _ _ h => h) ?_|refine LA_pass rfl ?_
       |(refine oLd ?_; refine LA_loadK rfl V12.hb V12.hn rfl (fun _ => rfl) (fun _ => rfl) ?_)
       |(refine oAl ?_; refine LA_allocQ (fun b => b21 ≠ b ∧ wE.heap.size ≤ b) (fun b hb => ⟨by omega, by have := eA.size; omega⟩) rfl (fun _ => rfl) ?_)|(refine wOpB ?_;try dsimp only [Int.reduceToNat, Int.reducePow])|refine wOp ?_|(refine wOpD ?_;try dsimp only [Int.reduceToNat, Int.toNat_natCast])|(refine LA_cmp rfl rfl rfl rfl (fun hc => ?_) (fun hc => ?_)<;>dsimp only [cmpP] at hc)|(refine oCv ?_;first
       |(refine oC 16 ?_; refine LA_call3 (f := 16) rfl rfl rfl rfl rfl  (.pred (cnP TT (flp p lo hi) (kindP (flp p lo hi)))) (by intro u1 u2 u3 w e hu1 hu2 hu3; (try obtain rfl : u1 = _ := hu1); (try obtain rfl : u2 = _ := hu2); (try obtain rfl : u3 = _ := hu3); exact flip_c (V12.hc.ext e) (TA.ext e) tt lo hi hlo hhi) ?_)
       |(refine oC 8 ?_; refine LA_call2 (f := 8) rfl rfl rfl rfl  (.pred (cnP TT (addP p x) (kindP (addP p x)))) (by intro u1 u2 w e hu1 hu2; (try obtain rfl : u1 = _ := hu1); (try obtain rfl : u2 = _ := hu2); exact cwith_c (V12.hc.ext e) (TA.ext e) tt hx) ?_))|(refine LA_nil (hK [] _ (LX_nil ?_));clear hK K)|(refine LA_nil (hK _ ?_);clear hK K))
       |(refine oCX ?_;first
       |refine wCX ?_|(refine wCR ?_;intro K hK))
       |(refine oPX ?_;first
       |refine wPX ?_)
       |(refine oLX ?_;first
       |refine LX_nil ?_)
       |(refine oLP ?_;first
       |refine wLP ?_|refine LP_now (by decide +kernel) ?_|refine LP_float (by decide +kernel) rfl ?_|refine LP_nil ?_))
      refine MX_pick 103 rfl (look_op (by simp [Op.operands])) rfl (fun v103 w22 e22 h103 => ?_)
      obtain ⟨c21, rfl, hn21, -⟩ := lays_cn.shape _ _ h103
      refine MX_put (n := 4) rfl rfl rfl (e22.block h21) hn21 rfl (fun _ => rfl) (lays_one' h103) (fun w23 e23 => ⟨_, keep_cons (t0 := 106) (r := .pred (cnP TT (addP p x) (kindP (addP p x)))) (fun u hu => Cn.setRow hu (e23.block (e22.block h21)) ⟨by decide, by decide, by decide⟩ _) (keep_cons (t0 := 22) (r := .pred (ptrQ (fun b => b21 ≠ b ∧ wE.heap.size ≤ b) (Value.agg #[.int .u8 0, .slice none 0 0, .slice none 0 0, .slice none 0 0]).cells tC)) (fun u hu => by obtain ⟨b, hb, rfl, hh⟩ := hu; exact ⟨b, hb, rfl, setRow_keep _ hh (fun h => hb.1 h.symm)⟩) (fun t u h => vals_keep t u h)), ?_⟩)
      have hx21 := e23.block (e22.block h21)
      have V21 := VarC.set hx21 hn21 (Cn.ext h103 e23)
      have e23' := e22.trans e23
      replace V12 := (V12.ext e23').other (cs' := c21) hx21 n21.1
      replace V15 := (V15.ext e23').other (cs' := c21) hx21 n21.2
      replace hm' := (hm'.ext e23').setRow hx21 (by decide) c21
      replace h16 := (h16.ext e23').setRow hx21 (by decide) c21
      have eB := ((eE.trans eA).trans e23').setRow hb21e c21
      obtain ⟨wB, hwB⟩ : ∃ wB, wB = w23.setRow b21 c21 := ⟨_, rfl⟩
      rw [← hwB] at V12 V15 V21 hm' h16 eB ⊢
      clear hwB
      refine Phase_cons ?_
      repeat' (first
       |(refine oLA ?_;first
       |refine LA_backN ?_|refine LA_backV rfl ?_|refine LA_backP (fun _ _ _ h => h) ?_|refine LA_pass rfl ?_|(refine wOpB ?_;try dsimp only [Int.reduceToNat, Int.reducePow])|refine wOp ?_|(refine wOpD ?_;try dsimp only [Int.reduceToNat, Int.toNat_natCast])|(refine LA_cmp rfl rfl rfl rfl (fun hc => ?_) (fun hc => ?_)<;>dsimp only [cmpP] at hc)|(refine LA_nil (hK [] _ (LX_nil ?_));clear hK K)|(refine LA_nil (hK _ ?_);clear hK K))
       |(refine oCX ?_;first
       |refine wCX ?_|(refine wCR ?_;intro K hK))
       |(refine oPX ?_;first
       |refine wPX ?_)
       |(refine oLX ?_;first
       |refine LX_nil ?_)
       |(refine oLP ?_;first
       |refine wLP ?_|refine LP_now (by decide +kernel) ?_|refine LP_float (by decide +kernel) rfl ?_|refine LP_nil ?_))
      refine MX_pick 22 rfl (look_op (by simp [Op.operands])) rfl (fun v22 w24 e24 h22 => MX_pick 106 rfl (look_op (by simp [Op.operands])) rfl (fun v106 w25 e25 h106 => ?_))
      obtain ⟨b22, ⟨hne, hb22⟩, rfl, h22⟩ := h22
      obtain ⟨c22, rfl, hn22, -⟩ := lays_cn.shape _ _ h106
      refine MX_put (n := 4) rfl rfl rfl (e25.block h22) hn22 rfl (fun _ => rfl) (lays_one' h106) (fun w26 e26 => ⟨_, fun t u h => vals_keep t u h, ?_⟩)
      have hx22 := e26.block (e25.block h22)
      have e26' := e24.trans (e25.trans e26)
      have V22 := VarC.set hx22 hn22 (Cn.ext h106 e26)
      replace V12 := (V12.ext e26').other (cs' := c22) hx22 (by omega)
      replace V15 := (V15.ext e26').other (cs' := c22) hx22 (by omega)
      replace V21 := (V21.ext e26').other (cs' := c22) hx22 hne
      replace hm' := (hm'.ext e26').setRow hx22 (by decide) c22
      replace h16 := (h16.ext e26').setRow hx22 (by decide) c22
      have eC := (eB.trans e26').setRow (by have := eE.size; omega : w.heap.size ≤ b22) c22
      obtain ⟨wC, hwC⟩ : ∃ wC, wC = w26.setRow b22 c22 := ⟨_, rfl⟩
      rw [← hwC] at V12 V15 V21 V22 hm' h16 eC ⊢
      clear hwC h22 hx22 hx21 h21
      have TC := hT.ext eC
      obtain ⟨F, hF⟩ : ∃ F, F = flp p lo hi := ⟨_, rfl⟩
      obtain ⟨kF', hkF⟩ : ∃ kF, kF = kindP F := ⟨_, rfl⟩
      rw [← hF, ← hkF] at V21
      rw [← hF, ← hkF] at kF
      rw [← hF] at gF
      obtain ⟨G, hG⟩ : ∃ G, G = addP p x := ⟨_, rfl⟩
      obtain ⟨kG, hkG⟩ : ∃ kG, kG = kindP G := ⟨_, rfl⟩
      rw [← hG, ← hkG] at V22
      rw [← hG, ← hkG] at kX
      rw [← hG] at gX
      have hmC : wC.heap[bm]? = some (.cells (marks p) tM (0, 0)) := by obtain ⟨b', g1, -, g2⟩ := hm'; cases g1; exact g2
      have hset : (marks p).setIfInBounds (0 + x * 1) (.bool true) = marks pX := by rw [show 0 + x * 1 = x by omega, marks_set p true hx, ghX.out]
      refine Phase_nil ?_
      repeat' (first
       |(refine oLA ?_;first
       |refine LA_backN ?_|refine LA_backV rfl ?_|refine LA_backP (fun _ _ _ h => h) ?_|refine LA_pass rfl ?_
       |(refine oLd ?_; refine LA_loadK rfl V12.hb V12.hn rfl (fun _ => rfl) (fun _ => rfl) ?_)
       |(refine oLd ?_; refine LA_loadK rfl V15.hb V15.hn rfl (fun _ => rfl) (fun _ => rfl) ?_)
       |(refine oLd ?_; refine LA_loadK rfl V21.hb V21.hn rfl (fun _ => rfl) (fun _ => rfl) ?_)
       |(refine oD 112 ?_; refine oC 13 ?_; refine LA_call1 (f := 13) rfl rfl rfl  (.val (.int .u8 kF')) (by intro u1 w e hu1; (try obtain rfl : u1 = _ := hu1); exact kind_c (V21.hc.ext e)) ?_)
       |(refine oD 114 ?_; refine oC 28 ?_; refine LA_call1 (f := 28) rfl rfl rfl  (.val (.int .u8 kF')) (by intro u1 w e hu1; (try obtain rfl : u1 = _ := hu1); exact kF ▸ rkind_c hu1) ?_)
       |(refine oD 118 ?_; refine oC 15 ?_; refine LA_call1 (f := 15) rfl rfl rfl  (.pred (ownI wC.heap.size 29 .u16 (listS F 65536))) (by intro u1 w e hu1; (try obtain rfl : u1 = _ := hu1); exact (array_c (V21.hc.ext e) (TC.ext e)).mono (ret_base e.size)) ?_)
       |(refine oD 120 ?_; refine oC 11 ?_; refine LA_call1 (f := 11) rfl rfl rfl  (.pred (ownI wC.heap.size 29 .u16 (listS F 65536))) (by intro u1 w e hu1; (try obtain rfl : u1 = _ := hu1); exact gF.out ▸ (mlist_c _ _ _ _ hu1).mono (ret_base e.size)) ?_)
       |(refine oD 121 ?_; refine oC 14 ?_; refine LA_call2 (f := 14) rfl rfl rfl rfl  (.val (.bool true)) (by intro u1 u2 w e hu1 hu2; (try obtain rfl : u1 = _ := hu1); (try obtain rfl : u2 = _ := hu2); exact ret_true (same_c _ _ _ (listS F 65536) (listS F 65536) (OwnI.slI hu1) (OwnI.slI hu2)) (decide_eq_true rfl)) ?_)
       |(refine oD 125 ?_; refine oC 15 ?_; refine LA_call1 (f := 15) rfl rfl rfl  (.pred (ownI wC.heap.size 29 .u16 (listS p 65536))) (by intro u1 w e hu1; (try obtain rfl : u1 = _ := hu1); exact (array_c (V12.hc.ext e) (TC.ext e)).mono (ret_base e.size)) ?_)
       |(refine oD 127 ?_; refine oC 11 ?_; refine LA_call1 (f := 11) rfl rfl rfl  (.pred (ownI wC.heap.size 29 .u16 (listS p 65536))) (by intro u1 w e hu1; (try obtain rfl : u1 = _ := hu1); exact (mlist_c _ _ _ _ (hm'.ext e)).mono (ret_base e.size)) ?_)
       |(refine oD 128 ?_; refine oC 14 ?_; refine LA_call2 (f := 14) rfl rfl rfl rfl  (.val (.bool true)) (by intro u1 u2 w e hu1 hu2; (try obtain rfl : u1 = _ := hu1); (try obtain rfl : u2 = _ := hu2); exact ret_true (same_c _ _ _ (listS p 65536) (listS p 65536) (OwnI.slI hu1) (OwnI.slI hu2)) (decide_eq_true rfl)) ?_)
       |(refine oD 132 ?_; refine oC 15 ?_; refine LA_call1 (f := 15) rfl rfl rfl  (.pred (ownI wC.heap.size 29 .u16 (listS q 65536))) (by intro u1 w e hu1; (try obtain rfl : u1 = _ := hu1); exact (array_c (V15.hc.ext e) (TC.ext e)).mono (ret_base e.size)) ?_)
       |(refine oD 134 ?_; refine oC 11 ?_; refine LA_call1 (f := 11) rfl rfl rfl  (.pred (ownI wC.heap.size 29 .u16 (listS q 65536))) (by intro u1 w e hu1; (try obtain rfl : u1 = _ := hu1); exact (mlist_c _ _ _ _ (h16.ext e)).mono (ret_base e.size)) ?_)
       |(refine oD 135 ?_; refine oC 14 ?_; refine LA_call2 (f := 14) rfl rfl rfl rfl  (.val (.bool true)) (by intro u1 u2 w e hu1 hu2; (try obtain rfl : u1 = _ := hu1); (try obtain rfl : u2 = _ := hu2); exact ret_true (same_c _ _ _ (listS q 65536) (listS q 65536) (OwnI.slI hu1) (OwnI.slI hu2)) (decide_eq_true rfl)) ?_)
       |refine LA_nilCheck rfl rfl ?_
       |(refine oD 141 ?_; refine LA_indexArr (n := 65536) (s := 1) rfl rfl (fun _ => rfl) rfl rfl x rfl hx ?_)
       |(refine oSt ?_; refine LA_stop (hK _ _ (LX_store1 rfl rfl rfl hmC (fun _ => rfl) (by rw [marks_size]; omega) rfl rfl (fun w27 e27 => ?_))); clear hK K; rw [hset])|(refine wOpB ?_;try dsimp only [Int.reduceToNat, Int.reducePow])|refine wOp ?_|(refine wOpD ?_;try dsimp only [Int.reduceToNat, Int.toNat_natCast])|(refine LA_cmp rfl rfl rfl rfl (fun hc => ?_) (fun hc => ?_)<;>dsimp only [cmpP] at hc)|(refine oCv ?_;first
       |(refine oC 29 ?_; refine LA_call3 (f := 29) rfl rfl rfl rfl rfl  (.pred (mkI wC.heap.size tM (flipM p lo hi))) (by intro u1 u2 u3 w e hu1 hu2 hu3; (try obtain rfl : u1 = _ := hu1); (try obtain rfl : u2 = _ := hu2); (try obtain rfl : u3 = _ := hu3); exact (rflip_c _ _ _ p lo hi (hm'.ext e)).mono (ret_mk e.size)) ?_))|(refine LA_nil (hK [] _ (LX_nil ?_));clear hK K)|(refine LA_nil (hK _ ?_);clear hK K))
       |(refine oCX ?_;first
       |refine wCX ?_|(refine wCR ?_;intro K hK))
       |(refine oPX ?_;first
       |refine wPX ?_)
       |(refine oLX ?_;first
       |refine LX_nil ?_)
       |(refine oLP ?_;first
       |refine wLP ?_|refine LP_now (by decide +kernel) ?_|refine LP_float (by decide +kernel) rfl ?_|refine LP_nil ?_))
      have hbmD := e27.block hmC
      have hmD : MkI w1.heap.size tM (w27.setRow bm (marks pX)) (.pointer (some ⟨bm, 0, none⟩)) pX := ⟨bm, rfl, hbm, setRow_heap _ _ _ _ _ (0, 0) hbmD⟩
      replace V22 := (V22.ext e27).oth (cs' := marks pX) hbmD ⟨by decide, by decide, by decide, by decide⟩
      have eD := (eC.trans e27).setRow (by have := he.size; omega : w.heap.size ≤ bm) (marks pX)
      have TD := hT.ext eD
      repeat' (first
       |(refine oLA ?_;first
       |refine LA_pass rfl ?_
       |(refine oLd ?_; refine LA_loadK rfl V22.hb V22.hn rfl (fun _ => rfl) (fun _ => rfl) ?_)
       |(refine oD 143 ?_; refine oC 13 ?_; refine LA_call1 (f := 13) rfl rfl rfl  (.val (.int .u8 kG)) (by intro u1 w e hu1; (try obtain rfl : u1 = _ := hu1); exact kind_c (V22.hc.ext e)) ?_)
       |(refine oD 145 ?_; refine oC 28 ?_; refine LA_call1 (f := 28) rfl rfl rfl  (.val (.int .u8 kG)) (by intro u1 w e hu1; (try obtain rfl : u1 = _ := hu1); exact kX ▸ rkind_c (hmD.ext e)) ?_)
       |(refine oD 149 ?_; refine oC 15 ?_; refine LA_call1 (f := 15) rfl rfl rfl  (.pred (ownI w27.heap.size 29 .u16 (listS G 65536))) (by intro u1 w e hu1; (try obtain rfl : u1 = _ := hu1); exact (array_c (V22.hc.ext e) (TD.ext e)).mono (ret_base (by have := e.size; simpa using this))) ?_)
       |(refine oD 151 ?_; refine oC 11 ?_; refine LA_call1 (f := 11) rfl rfl rfl  (.pred (ownI w27.heap.size 29 .u16 (listS G 65536))) (by intro u1 w e hu1; (try obtain rfl : u1 = _ := hu1); exact gX.out ▸ (mlist_c _ _ _ _ (hmD.ext e)).mono (ret_base (by have := e.size; simpa using this))) ?_)|(refine wOpB ?_;try dsimp only [Int.reduceToNat, Int.reducePow])|refine wOp ?_|(refine wOpD ?_;try dsimp only [Int.reduceToNat, Int.toNat_natCast])|(refine LA_cmp rfl rfl rfl rfl (fun hc => ?_) (fun hc => ?_)<;>dsimp only [cmpP] at hc)|(refine oCv ?_;first
       |(refine oC 14 ?_; refine LA_call2 (f := 14) rfl rfl rfl rfl  (.val (.bool true)) (by intro u1 u2 w e hu1 hu2; (try obtain rfl : u1 = _ := hu1); (try obtain rfl : u2 = _ := hu2); exact ret_true (same_c _ _ _ (listS G 65536) (listS G 65536) (OwnI.slI hu1) (OwnI.slI hu2)) (decide_eq_true rfl)) ?_))|(refine LA_nil (hK [] _ (LX_nil ?_));clear hK K)|(refine LA_nil (hK _ ?_);clear hK K))
       |(refine oCX ?_;first
       |refine wCX ?_|(refine wCR ?_;intro K hK))
       |(refine oPX ?_;first
       |refine wPX ?_)
       |(refine oLX ?_;first
       |refine LX_nil ?_))
      all_goals skip
      exact PX_rndV (k + 1) (fun w5 e5 => ⟨eD.trans e5, by omega⟩) (by omega) (by repeat' (first | exact Sub.nil | refine Sub.val rfl (by first | with_reducible rfl | (congr 1; omega)) ?_ | refine Sub.same rfl ?_))
  · obtain rfl : k = 9 := by omega
    repeat' (first
     |(refine oLA ?_;first
     |refine LA_pass rfl ?_|(refine wOpB ?_;try dsimp only [Int.reduceToNat, Int.reducePow])|refine wOp ?_|(refine wOpD ?_;try dsimp only [Int.reduceToNat, Int.toNat_natCast])|(refine LA_cmp rfl rfl rfl rfl (fun hc => ?_) (fun hc => ?_)<;>dsimp only [cmpP] at hc)|(refine oCv ?_;first
     |(refine oC 7 ?_; refine LA_call0 (f := 7) rfl rfl  (.val (.bool true)) (by intro w e; exact cknown_c _ (hT1.ext e)) ?_))|(refine LA_nil (hK [] _ (LX_nil ?_));clear hK K)|(refine LA_nil (hK _ ?_);clear hK K))
     |(refine oCX ?_;first
     |refine wCX ?_|(refine wCR ?_;intro K hK))
     |(refine oPX ?_;first
     |refine wPX ?_
     |exact PX_retE rfl rfl he rfl)
     |(refine oLX ?_;first
     |refine LX_nil ?_))
end Go.Proofs.YtjiacignpmabcaaDoor
