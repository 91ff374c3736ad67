import Derived.Test.YtjiacignpmabcaaDoorC18
import Derived.Test.YtjiacignpmabcaaDoorC14

set_option linter.unusedSimpArgs false
set_option linter.unusedVariables false
set_option maxRecDepth 3000
namespace Go.Proofs.YtjiacignpmabcaaDoor
open Go.LA Go.ArrP Go.RowKit
/-! ### ContainerLaws -/
theorem samec_c {w : World} {u v : Value} {p q : Nat → Bool} {kp kq : Int} (h1 : Cn TT w u p kp) (h2 : Cn TT w v q kq) (hk : kp = kq) (he : ∀ i, i < 65536 → p i = q i) : Fc Tryd.prog 30 #[u, v] w (Ret w (.val (.bool true))) := by
  subst hk
  have hw := wordsOf_congr he
  have hk1 : ∀ w', Ext w w' → _ := fun w' e => kind_c (h1.ext e)
  have hk2 : ∀ w', Ext w w' → _ := fun w' e => kind_c (h2.ext e)
  have hw1 : ∀ w', Ext w w' → _ := fun w' e => cwords_c (h1.ext e)
  have hw2 : ∀ w', Ext w w' → _ := fun w' e => cwords_c (h2.ext e)
  rw [hw] at hw1
  obtain ⟨kd, va, vw, vr, rfl, -, -, -, -, k1, k2, -⟩ := h1.parts
  obtain ⟨kd', va', vw', vr', rfl, -, -, -, -, k1', k2', -⟩ := h2.parts
  refine Fc.of (args := [_, _]) Tryd.func30 rfl rfl Tryd.ntmps30 (Nat.le_of_ble_eq_true rfl) ?_
  repeat' (first
   |(refine oLA ?_;first
   |refine LA_pass rfl ?_
   |(refine oBx ?_; refine LA_box4 rfl rfl ?_)
   |(refine oLd ?_; refine LA_load4 rfl (fun _ => rfl) (fun _ => rfl) rfl ?_)
   |(refine oD 6 ?_; refine oC 13 ?_; refine LA_call1 (f := 13) rfl rfl rfl  (.val (.int .u8 kp)) (by intro u1 w e hu1; (try obtain rfl : u1 = _ := hu1); exact hk1 _ e) ?_)
   |(refine oD 8 ?_; refine oC 13 ?_; refine LA_call1 (f := 13) rfl rfl rfl  (.val (.int .u8 kp)) (by intro u1 w e hu1; (try obtain rfl : u1 = _ := hu1); exact hk2 _ e) ?_)
   |(refine oD 12 ?_; refine oC 32 ?_; refine LA_call1 (f := 32) rfl rfl rfl  (.pred (ownI w.heap.size 66 .u64 (wordsOf q))) (by intro u1 w e hu1; (try obtain rfl : u1 = _ := hu1); exact (hw1 _ e).mono (ret_base e.size)) ?_)
   |(refine oD 14 ?_; refine oC 32 ?_; refine LA_call1 (f := 32) rfl rfl rfl  (.pred (ownI w.heap.size 66 .u64 (wordsOf q))) (by intro u1 w e hu1; (try obtain rfl : u1 = _ := hu1); exact (hw2 _ e).mono (ret_base e.size)) ?_)|(refine wOpB ?_;try dsimp only [Int.reduceToNat, Int.reducePow])|refine wOp ?_|(refine wOpD ?_;try dsimp only [Int.reduceToNat, Int.toNat_natCast])|(refine LA_cmp rfl rfl rfl rfl (fun hc => ?_) (fun hc => ?_)<;>dsimp only [cmpP] at hc)|(refine oCv ?_;first
   |(refine oC 31 ?_; refine LA_call2 (f := 31) rfl rfl rfl rfl  (.val (.bool true)) (by intro u1 u2 w e hu1 hu2; (try obtain rfl : u1 = _ := hu1); (try obtain rfl : u2 = _ := hu2); exact ret_true (wsame_c _ _ _ (wordsOf q) (wordsOf q) (OwnI.slI hu1) (OwnI.slI hu2)) (decide_eq_true rfl)) ?_))|(refine LA_nil (hK [] _ (LX_nil ?_));clear hK K)|(refine LA_nil (hK _ ?_);clear hK K))
   |(refine oCX ?_;first
   |refine wCX ?_|(refine wCR ?_;intro K hK))
   |(refine oPX ?_;first
   |refine wPX ?_
   |exact PX_retE rfl rfl (Ext.refl _) rfl)
   |(refine oLX ?_;first
   |refine LX_nil ?_))
  all_goals skip
def nP (p : Nat → Bool) : Nat → Bool := flp p 0 65536
theorem nP_at (p : Nat → Bool) {i : Nat} (h : i < 65536) : nP p i = !p i := flip_in (Int.natCast_nonneg i) (lt16 h) h
theorem notc_c {w : World} {u : Value} {p : Nat → Bool} {kp : Int} (h1 : Cn TT w u p kp) (hT : Tab w) : Fc Tryd.prog 33 #[u] w (Ret w (.pred (cnP TT (nP p) (kindP (nP p))))) := by
  have hf : ∀ w', Ext w w' → _ := fun w' e => flip_c (h1.ext e) (hT.ext e) tt 0 65536 (by decide) (by decide)
  obtain ⟨kd, va, vw, vr, rfl, -, -, -, -, k1, k2, -⟩ := h1.parts
  refine Fc.of (args := [_]) Tryd.func33 rfl rfl Tryd.ntmps33 (Nat.le_of_ble_eq_true rfl) ?_
  repeat' (first
   |(refine oLA ?_;first
   |refine LA_pass rfl ?_
   |(refine oBx ?_; refine LA_box4 rfl rfl ?_)
   |(refine oLd ?_; refine LA_load4 rfl (fun _ => rfl) (fun _ => rfl) rfl ?_)
   |(refine oAl ?_; refine LA_alloc rfl (fun _ => rfl) ?_)
   |(refine LA_stop (hK _ _ (LX_put (φ := cnP TT (nP p) (kindP (nP p))) (w0 := w) rfl rfl rfl lays_cn (fun v' w' e hv => hv) rfl (fun _ => rfl) (Ext.refl _) (fun w' e' => ?_))); clear hK K)|(refine wOpB ?_;try dsimp only [Int.reduceToNat, Int.reducePow])|refine wOp ?_|(refine wOpD ?_;try dsimp only [Int.reduceToNat, Int.toNat_natCast])|(refine LA_cmp rfl rfl rfl rfl (fun hc => ?_) (fun hc => ?_)<;>dsimp only [cmpP] at hc)|(refine oCv ?_;first
   |(refine oC 16 ?_; refine LA_call3 (f := 16) rfl rfl rfl rfl rfl  (.pred (cnP TT (nP p) (kindP (nP p)))) (by intro u1 u2 u3 w e hu1 hu2 hu3; (try obtain rfl : u1 = _ := hu1); (try obtain rfl : u2 = _ := hu2); (try obtain rfl : u3 = _ := hu3); exact hf _ e) ?_))|(refine LA_nil (hK [] _ (LX_nil ?_));clear hK K)|(refine LA_nil (hK _ ?_);clear hK K))
   |(refine oCX ?_;first
   |refine wCX ?_|(refine wCR ?_;intro K hK))
   |(refine oPX ?_;first
   |refine wPX ?_
   |exact PX_retC rfl rfl rfl rfl rfl (by assumption))
   |(refine oLX ?_;first
   |refine LX_nil ?_))
  all_goals skip
def aP (p q : Nat → Bool) : Nat → Bool := two (fun x y => x && y) p q
def oP' (p q : Nat → Bool) : Nat → Bool := two (fun x y => x || y) p q
def rP (p q : Nat → Bool) : Nat → Bool := two (fun x y => x && !y) p q
def xP (p q : Nat → Bool) : Nat → Bool := two (fun x y => !(x == y)) p q
theorem law1 (p q r : Nat → Bool) (i : Nat) (hi : i < 65536) : aP p (oP' q r) i = oP' (aP p q) (aP p r) i := by
  unfold aP oP' two; cases p i <;> cases q i <;> cases r i <;> rfl
theorem law2 (p q : Nat → Bool) (i : Nat) (hi : i < 65536) : nP (oP' p q) i = aP (nP p) (nP q) i := by
  show _ = (nP p i && nP q i)
  rw [nP_at _ hi, nP_at _ hi, nP_at _ hi]; unfold oP' two; cases p i <;> cases q i <;> rfl
theorem law3 (p q r : Nat → Bool) (i : Nat) (hi : i < 65536) : xP (xP p q) r i = xP p (xP q r) i := by
  unfold xP two; cases p i <;> cases q i <;> cases r i <;> rfl
theorem law4 (p q : Nat → Bool) (i : Nat) (hi : i < 65536) : rP p q i = aP p (nP q) i := by
  show _ = (p i && nP q i)
  rw [nP_at _ hi]; unfold rP two; cases p i <;> cases q i <;> rfl
set_option maxHeartbeats 8000000 in
theorem claws_c (w : World) (va vb vc : Value) (xs ys zs : List Int) (kd : Int) (h1 : SlI .u16 w va xs) (h2 : SlI .u16 w vb ys) (h3 : SlI .u16 w vc zs) (l1 : Low xs) (l2 : Low ys) (l3 : Low zs) (hkd : 0 ≤ kd ∧ kd < 256) (hT : Tab w) :
    Fc Tryd.prog 6 #[va, vb, vc, .int .u8 kd] w (Ret w (.val (.bool true))) := by
  have n1 := h1.len
  have n2 := h2.len
  have n3 := h3.len
  obtain ⟨p, hp⟩ : ∃ p, p = memb xs := ⟨_, rfl⟩
  obtain ⟨q, hq⟩ : ∃ q, q = memb ys := ⟨_, rfl⟩
  obtain ⟨r, hr⟩ : ∃ r, r = memb zs := ⟨_, rfl⟩
  have m1 : ∀ w' (k : Int), Ext w w' → (k = 1 ∨ k = 2 ∨ k = 3) → Fc Tryd.prog 24 #[va, .int .u8 k] w' (Ret w' (.tup3 (.pred (cnP TT (memb xs) k)) (.pred (mkI w'.heap.size tM (memb xs))) (.val (.bool true)))) := fun w' k e hk => make3_c (h1.ext e) l1 hk
  have m2 : ∀ w' (k : Int), Ext w w' → (k = 1 ∨ k = 2 ∨ k = 3) → Fc Tryd.prog 24 #[vb, .int .u8 k] w' (Ret w' (.tup3 (.pred (cnP TT (memb ys) k)) (.pred (mkI w'.heap.size tM (memb ys))) (.val (.bool true)))) := fun w' k e hk => make3_c (h2.ext e) l2 hk
  have m3 : ∀ w' (k : Int), Ext w w' → (k = 1 ∨ k = 2 ∨ k = 3) → Fc Tryd.prog 24 #[vc, .int .u8 k] w' (Ret w' (.tup3 (.pred (cnP TT (memb zs) k)) (.pred (mkI w'.heap.size tM (memb zs))) (.val (.bool true)))) := fun w' k e hk => make3_c (h3.ext e) l3 hk
  rw [← hp] at m1; rw [← hq] at m2; rw [← hr] at m3
  clear hp hq hr
  obtain ⟨k1, hk1⟩ : ∃ k1, k1 = 1 + kd % 3 := ⟨_, rfl⟩
  obtain ⟨k2, hk2⟩ : ∃ k2, k2 = 1 + kd / 3 % 3 := ⟨_, rfl⟩
  obtain ⟨k3, hk3⟩ : ∃ k3, k3 = 1 + kd / 9 % 3 := ⟨_, rfl⟩
  refine Fc.of (args := [_, _, _, _]) Tryd.func6 rfl rfl Tryd.ntmps6 (Nat.le_of_ble_eq_true rfl) ?_
  repeat' (first
   |(refine oLA ?_;first
   |refine LA_pass rfl ?_
   |(refine oD 39 ?_; refine oC 24 ?_; refine LA_call2 (f := 24) rfl rfl rfl rfl  (.tup3 (.pred (cnP TT p k1)) (.pred (mkI w.heap.size tM p)) (.val (.bool true))) (by intro u1 u2 w e hu1 hu2; (try obtain rfl : u1 = _ := hu1); (try obtain rfl : u2 = _ := hu2); exact hk1 ▸ (m1 _ _ e (by omega)).mono (ret_mk3 e.size)) ?_)
   |(refine oD 9 ?_; refine LA_stop (hK _ _ (LX_varK (q := 40) (φ := cnP TT p k1) (n := 4) rfl rfl (by decide) rfl rfl lays_cn (fun _ => rfl) rfl (fun _ => rfl) (fun b9 c9 w9 e9 hb9 hh9 hn9 hc9 => ?_))); clear hK K)|(refine wOpB ?_;try dsimp only [Int.reduceToNat, Int.reducePow])|refine wOp ?_|(refine wOpD ?_;try dsimp only [Int.reduceToNat, Int.toNat_natCast])|(refine LA_cmp rfl rfl rfl rfl (fun hc => ?_) (fun hc => ?_)<;>dsimp only [cmpP] at hc)|(refine oCv ?_;first
   |(refine oC 7 ?_; refine LA_call0 (f := 7) rfl rfl  (.val (.bool true)) (by intro w e; exact cknown_c _ (hT.ext e)) ?_))|(refine LA_nil (hK [] _ (LX_nil ?_));clear hK K)|(refine LA_nil (hK _ ?_);clear hK K))
   |(refine oCX ?_;first
   |refine wCX ?_|(refine wCR ?_;intro K hK))
   |(refine oPX ?_;first
   |refine wPX ?_
   |exact PX_retE rfl rfl (Ext.refl _) rfl)
   |(refine oLX ?_;first
   |refine LX_nil ?_))
  have V9 : VarC TT w9 b9 c9 _ _ := ⟨hh9, hn9, hc9⟩
  refine LX_la (by kernel_rfl) (fun K hK => ?_)
  repeat' (first
   |(refine oLA ?_;first
   |refine LA_pass rfl ?_
   |(refine oD 49 ?_; refine oC 24 ?_; refine LA_call2 (f := 24) rfl rfl rfl rfl  (.tup3 (.pred (cnP TT q k2)) (.pred (mkI w.heap.size tM q)) (.val (.bool true))) (by intro u1 u2 w e hu1 hu2; (try obtain rfl : u1 = _ := hu1); (try obtain rfl : u2 = _ := hu2); exact hk2 ▸ (m2 _ _ (e9.trans e) (by omega)).mono (ret_mk3 (e9.trans e).size)) ?_)
   |(refine oD 12 ?_; refine LA_stop (hK _ _ (LX_varK (q := 50) (φ := cnP TT q k2) (n := 4) rfl rfl (by decide) rfl rfl lays_cn (fun _ => rfl) rfl (fun _ => rfl) (fun b12 c12 w12 e12 hb12 hh12 hn12 hc12 => ?_))); clear hK K)|(refine wOpB ?_;try dsimp only [Int.reduceToNat, Int.reducePow])|refine wOp ?_|(refine wOpD ?_;try dsimp only [Int.reduceToNat, Int.toNat_natCast])|(refine LA_cmp rfl rfl rfl rfl (fun hc => ?_) (fun hc => ?_)<;>dsimp only [cmpP] at hc)|(refine LA_nil (hK [] _ (LX_nil ?_));clear hK K)|(refine LA_nil (hK _ ?_);clear hK K))
   |(refine oCX ?_;first
   |refine wCX ?_|(refine wCR ?_;intro K hK))
   |(refine oPX ?_;first
   |refine wPX ?_)
   |(refine oLX ?_;first
   |refine LX_nil ?_))
  have V12 : VarC TT w12 b12 c12 _ _ := ⟨hh12, hn12, hc12⟩
  refine LX_la (by kernel_rfl) (fun K hK => ?_)
  repeat' (first
   |(refine oLA ?_;first
   |refine LA_pass rfl ?_
   |(refine oD 59 ?_; refine oC 24 ?_; refine LA_call2 (f := 24) rfl rfl rfl rfl  (.tup3 (.pred (cnP TT r k3)) (.pred (mkI w.heap.size tM r)) (.val (.bool true))) (by intro u1 u2 w e hu1 hu2; (try obtain rfl : u1 = _ := hu1); (try obtain rfl : u2 = _ := hu2); exact hk3 ▸ (m3 _ _ ((e9.trans e12).trans e) (by omega)).mono (ret_mk3 ((e9.trans e12).trans e).size)) ?_)
   |(refine oD 15 ?_; refine LA_stop (hK _ _ (LX_varK (q := 60) (φ := cnP TT r k3) (n := 4) rfl rfl (by decide) rfl rfl lays_cn (fun _ => rfl) rfl (fun _ => rfl) (fun b15 c15 w15 e15 hb15 hh15 hn15 hc15 => ?_))); clear hK K)|(refine wOpB ?_;try dsimp only [Int.reduceToNat, Int.reducePow])|refine wOp ?_|(refine wOpD ?_;try dsimp only [Int.reduceToNat, Int.toNat_natCast])|(refine LA_cmp rfl rfl rfl rfl (fun hc => ?_) (fun hc => ?_)<;>dsimp only [cmpP] at hc)|(refine LA_nil (hK [] _ (LX_nil ?_));clear hK K)|(refine LA_nil (hK _ ?_);clear hK K))
   |(refine oCX ?_;first
   |refine wCX ?_|(refine wCR ?_;intro K hK))
   |(refine oPX ?_;first
   |refine wPX ?_)
   |(refine oLX ?_;first
   |refine LX_nil ?_))
  have V15 : VarC TT w15 b15 c15 _ _ := ⟨hh15, hn15, hc15⟩
  have e0 := e9.trans (e12.trans e15)
  have T := hT.ext e0
  replace V9 := V9.ext (e12.trans e15)
  replace V12 := V12.ext e15
  refine LX_la (by kernel_rfl) (fun K hK => ?_)
  repeat' (first
   |(refine oLA ?_;first
   |refine LA_pass rfl ?_
   |(refine oLd ?_; refine LA_loadK rfl V9.hb V9.hn rfl (fun _ => rfl) (fun _ => rfl) ?_)
   |(refine oLd ?_; refine LA_loadK rfl V12.hb V12.hn rfl (fun _ => rfl) (fun _ => rfl) ?_)
   |(refine oLd ?_; refine LA_loadK rfl V15.hb V15.hn rfl (fun _ => rfl) (fun _ => rfl) ?_)
   |(refine oD 77 ?_; refine oC 23 ?_; refine LA_call2 (f := 23) rfl rfl rfl rfl  (.pred (cnP TT (oP' q r) (kindP (oP' q r)))) (by intro u1 u2 w e hu1 hu2; (try obtain rfl : u1 = _ := hu1); (try obtain rfl : u2 = _ := hu2); exact cor_c (V12.hc.ext e) (V15.hc.ext e) (T.ext e) tt) ?_)
   |(refine oD 78 ?_; refine oC 22 ?_; refine LA_call2 (f := 22) rfl rfl rfl rfl  (.pred (cnP TT (aP p (oP' q r)) (kindP (aP p (oP' q r))))) (by intro u1 u2 w e hu1 hu2; (try obtain rfl : u1 = _ := hu1); (try obtain rfl : u2 = _ := hu2); exact cand_c (V9.hc.ext e) hu2 (T.ext e) tt) ?_)
   |(refine oD 81 ?_; refine oC 22 ?_; refine LA_call2 (f := 22) rfl rfl rfl rfl  (.pred (cnP TT (aP p q) (kindP (aP p q)))) (by intro u1 u2 w e hu1 hu2; (try obtain rfl : u1 = _ := hu1); (try obtain rfl : u2 = _ := hu2); exact cand_c (V9.hc.ext e) (V12.hc.ext e) (T.ext e) tt) ?_)
   |(refine oD 84 ?_; refine oC 22 ?_; refine LA_call2 (f := 22) rfl rfl rfl rfl  (.pred (cnP TT (aP p r) (kindP (aP p r)))) (by intro u1 u2 w e hu1 hu2; (try obtain rfl : u1 = _ := hu1); (try obtain rfl : u2 = _ := hu2); exact cand_c (V9.hc.ext e) (V15.hc.ext e) (T.ext e) tt) ?_)
   |(refine oD 85 ?_; refine oC 23 ?_; refine LA_call2 (f := 23) rfl rfl rfl rfl  (.pred (cnP TT (oP' (aP p q) (aP p r)) (kindP (oP' (aP p q) (aP p r))))) (by intro u1 u2 w e hu1 hu2; (try obtain rfl : u1 = _ := hu1); (try obtain rfl : u2 = _ := hu2); exact cor_c hu1 hu2 (T.ext e) tt) ?_)
   |(refine oD 92 ?_; refine oC 23 ?_; refine LA_call2 (f := 23) rfl rfl rfl rfl  (.pred (cnP TT (oP' p q) (kindP (oP' p q)))) (by intro u1 u2 w e hu1 hu2; (try obtain rfl : u1 = _ := hu1); (try obtain rfl : u2 = _ := hu2); exact cor_c (V9.hc.ext e) (V12.hc.ext e) (T.ext e) tt) ?_)
   |(refine oD 100 ?_; refine oC 22 ?_; refine LA_call2 (f := 22) rfl rfl rfl rfl  (.pred (cnP TT (aP (nP p) (nP q)) (kindP (aP (nP p) (nP q))))) (by intro u1 u2 w e hu1 hu2; (try obtain rfl : u1 = _ := hu1); (try obtain rfl : u2 = _ := hu2); exact cand_c hu1 hu2 (T.ext e) tt) ?_)
   |(refine oD 107 ?_; refine oC 26 ?_; refine LA_call2 (f := 26) rfl rfl rfl rfl  (.pred (cnP TT (xP p q) (kindP (xP p q)))) (by intro u1 u2 w e hu1 hu2; (try obtain rfl : u1 = _ := hu1); (try obtain rfl : u2 = _ := hu2); exact cxor_c (V9.hc.ext e) (V12.hc.ext e) (T.ext e) tt) ?_)
   |(refine oD 109 ?_; refine oC 26 ?_; refine LA_call2 (f := 26) rfl rfl rfl rfl  (.pred (cnP TT (xP (xP p q) r) (kindP (xP (xP p q) r)))) (by intro u1 u2 w e hu1 hu2; (try obtain rfl : u1 = _ := hu1); (try obtain rfl : u2 = _ := hu2); exact cxor_c hu1 (V15.hc.ext e) (T.ext e) tt) ?_)
   |(refine oD 113 ?_; refine oC 26 ?_; refine LA_call2 (f := 26) rfl rfl rfl rfl  (.pred (cnP TT (xP q r) (kindP (xP q r)))) (by intro u1 u2 w e hu1 hu2; (try obtain rfl : u1 = _ := hu1); (try obtain rfl : u2 = _ := hu2); exact cxor_c (V12.hc.ext e) (V15.hc.ext e) (T.ext e) tt) ?_)
   |(refine oD 114 ?_; refine oC 26 ?_; refine LA_call2 (f := 26) rfl rfl rfl rfl  (.pred (cnP TT (xP p (xP q r)) (kindP (xP p (xP q r))))) (by intro u1 u2 w e hu1 hu2; (try obtain rfl : u1 = _ := hu1); (try obtain rfl : u2 = _ := hu2); exact cxor_c (V9.hc.ext e) hu2 (T.ext e) tt) ?_)
   |(refine oD 121 ?_; refine oC 25 ?_; refine LA_call2 (f := 25) rfl rfl rfl rfl  (.pred (cnP TT (rP p q) (kindP (rP p q)))) (by intro u1 u2 w e hu1 hu2; (try obtain rfl : u1 = _ := hu1); (try obtain rfl : u2 = _ := hu2); exact candnot_c (V9.hc.ext e) (V12.hc.ext e) (T.ext e) tt) ?_)
   |(refine oD 126 ?_; refine oC 22 ?_; refine LA_call2 (f := 22) rfl rfl rfl rfl  (.pred (cnP TT (aP p (nP q)) (kindP (aP p (nP q))))) (by intro u1 u2 w e hu1 hu2; (try obtain rfl : u1 = _ := hu1); (try obtain rfl : u2 = _ := hu2); exact cand_c (V9.hc.ext e) hu2 (T.ext e) tt) ?_)|(refine wOpB ?_;try dsimp only [Int.reduceToNat, Int.reducePow])|refine wOp ?_|(refine wOpD ?_;try dsimp only [Int.reduceToNat, Int.toNat_natCast])|(refine LA_cmp rfl rfl rfl rfl (fun hc => ?_) (fun hc => ?_)<;>dsimp only [cmpP] at hc)|(refine oCv ?_;first
   |(refine oD 86 ?_; refine LA_call2 (f := 30) rfl rfl rfl rfl (.val (.bool true)) (by intro u1 u2 w e hu1 hu2; exact samec_c hu1 hu2 (kindP_congr (law1 p q r)) (law1 p q r)) ?_)
   |(refine oD 93 ?_; refine LA_call1 (f := 33) rfl rfl rfl (.pred (cnP TT (nP (oP' p q)) (kindP (nP (oP' p q))))) (by intro u1 w e hu1; exact notc_c hu1 (T.ext e)) ?_)
   |(refine oD 96 ?_; refine LA_call1 (f := 33) rfl rfl rfl (.pred (cnP TT (nP (p)) (kindP (nP (p))))) (by intro u1 w e hu1; obtain rfl : u1 = _ := hu1; exact notc_c (V9.hc.ext e) (T.ext e)) ?_)
   |(refine oD 99 ?_; refine LA_call1 (f := 33) rfl rfl rfl (.pred (cnP TT (nP (q)) (kindP (nP (q))))) (by intro u1 w e hu1; obtain rfl : u1 = _ := hu1; exact notc_c (V12.hc.ext e) (T.ext e)) ?_)
   |(refine oD 101 ?_; refine LA_call2 (f := 30) rfl rfl rfl rfl (.val (.bool true)) (by intro u1 u2 w e hu1 hu2; exact samec_c hu1 hu2 (kindP_congr (law2 p q)) (law2 p q)) ?_)
   |(refine oD 115 ?_; refine LA_call2 (f := 30) rfl rfl rfl rfl (.val (.bool true)) (by intro u1 u2 w e hu1 hu2; exact samec_c hu1 hu2 (kindP_congr (law3 p q r)) (law3 p q r)) ?_)
   |(refine oD 125 ?_; refine LA_call1 (f := 33) rfl rfl rfl (.pred (cnP TT (nP (q)) (kindP (nP (q))))) (by intro u1 w e hu1; obtain rfl : u1 = _ := hu1; exact notc_c (V12.hc.ext e) (T.ext e)) ?_)
   |(refine oD 127 ?_; refine LA_call2 (f := 30) rfl rfl rfl rfl (.val (.bool true)) (by intro u1 u2 w e hu1 hu2; exact samec_c hu1 hu2 (kindP_congr (law4 p q)) (law4 p q)) ?_)
   |(refine oC 7 ?_; refine LA_call0 (f := 7) rfl rfl  (.val (.bool true)) (by intro w e; exact cknown_c _ (T.ext e)) ?_))|(refine LA_nil (hK [] _ (LX_nil ?_));clear hK K)|(refine LA_nil (hK _ ?_);clear hK K))
   |(refine oCX ?_;first
   |refine wCX ?_|(refine wCR ?_;intro K hK))
   |(refine oPX ?_;first
   |refine wPX ?_
   |exact PX_retE rfl rfl e0 rfl)
   |(refine oLX ?_;first
   |refine LX_nil ?_))
  all_goals skip
end Go.Proofs.YtjiacignpmabcaaDoor
