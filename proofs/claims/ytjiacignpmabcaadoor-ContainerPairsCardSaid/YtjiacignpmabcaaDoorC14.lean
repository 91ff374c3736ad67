import Derived.Test.YtjiacignpmabcaaDoorC13

set_option linter.unusedSimpArgs false
set_option linter.unusedVariables false
set_option maxRecDepth 3000
namespace Go.Proofs.YtjiacignpmabcaaDoor
open Go.LA Go.ArrP Go.RowKit
variable {A : Nat → Prop}
section
variable {P : Program} {l : List Oper} {wb : World} {K : List Oper → Env → Prop} {rest : List Oper} {E : Env} {d : Tmp} {ty t : TypeId} {pos : String} {after : Array Edge} {g : Option (Nat × Bool)} {x : Operand}
theorem LA_loadA4 {c0 c1 c2 c3 : Value} {p : Addr} (hg : gdec l E g = some true) (ht : ∀ w, (isAgg t).run P w = .ok true w) (hs : ∀ w, (sizeOf t).run P w = .ok 4 w) (hx : opE E x = .val (.pointer (some p))) (hc : ∀ (j : Nat) (c : Value), ([c0, c1, c2, c3] : List Value)[j]? = some c → wb.cell? (p.add j) = some c)
    (h : LA P l wb K rest ((d, .val (.agg #[c0, c1, c2, c3])) :: E)) : LA P l wb K (⟨some d, .load t x, ty, pos, after, g⟩ :: rest) E :=
  LA_of _ hg (OB_val fun a w he hh => by
    have h1 := hh x (by simp [Op.operands])
    rw [hx] at h1; simp only [AD.ok] at h1
    have hl := run_loadCells_list (P := P) w p [c0, c1, c2, c3] (fun j v hj => he.cell (hc j v hj))
    simp only [List.length_cons, List.length_nil, Nat.zero_add, Nat.reduceAdd] at hl
    simp only [execOp, h1, Instr.loadAt, Instr.sureAddr, loadVar, Sem.run_bind, Sem.run_pure, Result.andThen_ok, ht, if_true, hs, hl]) h
end
theorem andnot1_c {w : World} {a : Value} {c0 c1 c2 c3 : Value} {q : Nat → Bool} {ko : Int} {x : Nat} (hc : (ptrC [c0, c1, c2, c3]).p a w) (ho : Cn A w (.agg #[c0, c1, c2, c3]) q ko) (hx : x < 65536) :
    Fc Tryd.prog 58 #[.int .u16 x, a] w (Ret w (.val (.bool (!q x)))) := by
  have h0 : ∀ w', Ext w w' → _ := fun w' e => has_c (ho.ext e) hx
  obtain ⟨p0, rfl, hc⟩ := hc
  refine Fc.of (args := [_, _]) Tryd.func58 rfl rfl Tryd.ntmps58 (Nat.le_of_ble_eq_true rfl) ?_
  repeat' (first
   |(refine oLA ?_;first
   |refine LA_pass rfl ?_
   |(refine oLd ?_; refine LA_loadA4 rfl (fun _ => rfl) (fun _ => rfl) rfl hc ?_)|(refine wOpB ?_;try dsimp only [Int.reduceToNat, Int.reducePow])|refine wOp ?_|(refine wOpD ?_;try dsimp only [Int.reduceToNat, Int.toNat_natCast])|(refine LA_cmp rfl rfl rfl rfl (fun hc => ?_) (fun hc => ?_)<;>dsimp only [cmpP] at hc)|(refine oCv ?_;first
   |(refine oC 34 ?_; refine LA_call2 (f := 34) rfl rfl rfl rfl  (.val (.bool (q x))) (by intro u1 u2 w e hu1 hu2; (try obtain rfl : u1 = _ := hu1); (try obtain rfl : u2 = _ := hu2); exact h0 _ e) ?_))|(refine LA_nil (hK [] _ (LX_nil ?_));clear hK K)|(refine LA_nil (hK _ ?_);clear hK K))
   |(refine oCX ?_;first
   |refine wCX ?_|(refine wCR ?_;intro K hK))
   |(refine oPX ?_;first
   |refine wPX ?_
   |exact PX_retE rfl rfl (Ext.refl _) rfl)
   |(refine oLX ?_;first
   |refine LX_nil ?_))
  all_goals skip
theorem tells_not {w : World} {u : Value} {c0 c1 c2 c3 : Value} {q : Nat → Bool} {ko : Int} (ho : Cn A w (.agg #[c0, c1, c2, c3]) q ko) (hu : (holds 58 (.pred (ptrC [c0, c1, c2, c3]))).p u w) : Tells w u (fun i => !q i) := by
  obtain ⟨c, rfl, hc⟩ := hu
  exact fun w' e x hx => Clb.of1 (andnot1_c ((ptrC [c0, c1, c2, c3]).mono _ _ _ e hc) (ho.ext e) hx)
set_option maxHeartbeats 2000000 in
theorem candnot_c {w : World} {vc vo : Value} {p q : Nat → Bool} {kc ko : Int} (hc : Cn A w vc p kc) (ho : Cn A w vo q ko) (hT : Tab w) (hA : Fsh A w) :
    Fc Tryd.prog 25 #[vc, vo] w (Ret w (.pred (cnP A (two (fun x y => x && !y) p q) (kindP (two (fun x y => x && !y) p q))))) := by
  have hr : two (fun x y => x && !y) p q 65536 = false := by unfold two; rw [hc.1, ho.1]; rfl
  have hdo : ∀ w', Ext w w' → _ := fun w' e => do_c (hc.ext e) (ho.ext e) (does_AndNot hc.1 ho.1) hr (hT.ext e) (hA.ext e)
  have hk1 : ∀ w', Ext w w' → _ := fun w' e => kind_c (hc.ext e)
  have hk2 : ∀ w', Ext w w' → _ := fun w' e => kind_c (ho.ext e)
  have e1 : (fun i => p i && !q i) = two (fun x y => x && !y) p q := rfl
  obtain ⟨r, hrr⟩ : ∃ r, r = two (fun x y => x && !y) p q := ⟨_, rfl⟩
  rw [← hrr] at hr hdo e1 ⊢
  by_cases hk : kc = 1
  · obtain ⟨kd', va', vw', vr', rfl, -, -, -, -, k1', k2', -⟩ := ho.parts
    obtain ⟨hp, ⟨-, kd, va, hkd, rfl, h1⟩ | ⟨h9, -⟩ | ⟨h9, -⟩⟩ := hc
    · have hs : ∀ w' u, Ext w w' → (holds 58 (.pred (ptrC [.int .u8 kd', va', vw', vr']))).p u w' → _ := fun w' u e hu => sift_c (q := fun i => !q i) (h1.ext e).slI hp (tells_not (ho.ext e) hu) (hT.ext e) (hA.ext e)
      rw [e1] at hs
      refine Fc.of (args := [_, _]) Tryd.func25 rfl rfl Tryd.ntmps25 (Nat.le_of_ble_eq_true rfl) ?_
      repeat' (first
       |(refine oLA ?_;first
       |refine LA_pass rfl ?_
       |refine wRcv ?_
       |(refine LA_holds rfl rfl ?_)
       |refine LA_alloc rfl (fun _ => rfl) ?_
       |refine LA_build3 (c := .agg #[.func (.func 59) #[] #[], .func (.func 60) #[] #[], .func (.func 61) #[] #[]]) rfl rfl rfl rfl (fun _ => by kernel_rfl) ?_
       |(refine LA_stop (hK _ _ (LX_put (φ := cnP A r (kindP r)) (w0 := w) rfl rfl rfl lays_cn (fun v' w' e hv => hv) rfl (fun _ => rfl) (Ext.refl _) (fun w' e' => ?_))); clear hK K)|(refine wOpB ?_;try dsimp only [Int.reduceToNat, Int.reducePow])|refine wOp ?_|(refine wOpD ?_;try dsimp only [Int.reduceToNat, Int.toNat_natCast])|(refine LA_cmp rfl rfl rfl rfl (fun hc => ?_) (fun hc => ?_)<;>dsimp only [cmpP] at hc)|(refine oCv ?_;first
       |(refine oC 48 ?_; refine LA_call2 (f := 48) rfl rfl rfl rfl (.pred (cnP A r (kindP r))) (by intro u1 u2 w' e hu1 hu2; obtain rfl : u1 = _ := hu1; exact hs w' _ e hu2) ?_)
       |(refine oC 13 ?_; refine oD 6 ?_; refine LA_call1 (f := 13) rfl rfl rfl _ (by intro u1 w' e hu1; obtain rfl : u1 = _ := hu1; exact hk1 w' e) ?_)
       |(refine oC 13 ?_; refine oD 998 ?_; refine LA_call1 (f := 13) rfl rfl rfl _ (by intro u1 w' e hu1; obtain rfl : u1 = _ := hu1; exact hk2 w' e) ?_)
       |(refine oC 52 ?_; refine LA_call3 (f := 52) rfl rfl rfl rfl rfl (.pred (cnP A r (kindP r))) (by intro u1 u2 u3 w' e hu1 hu2 hu3; obtain rfl : u1 = _ := hu1; obtain rfl : u2 = _ := hu2; obtain rfl : u3 = _ := hu3; exact hdo w' e) ?_))|(refine LA_nil (hK [] _ (LX_nil ?_));clear hK K)|(refine LA_nil (hK _ ?_);clear hK K))
       |(refine oCX ?_;first
       |refine wCX ?_|(refine wCR ?_;intro K hK))
       |(refine oPX ?_;first
       |refine wPX ?_
       |exact PX_retC rfl rfl rfl rfl rfl (by assumption))
       |(refine oLX ?_;first
       |refine LX_nil ?_))
      all_goals skip

    · omega
    · omega
  · obtain ⟨kd, va, vw, vr, rfl, -, -, -, -, k1, k2, -⟩ := hc.parts
    obtain ⟨kd', va', vw', vr', rfl, -, -, -, -, k1', k2', -⟩ := ho.parts
    have hs : True := trivial
    · skip
      refine Fc.of (args := [_, _]) Tryd.func25 rfl rfl Tryd.ntmps25 (Nat.le_of_ble_eq_true rfl) ?_
      repeat' (first
       |(refine oLA ?_;first
       |refine LA_pass rfl ?_
       |refine wRcv ?_
       |(refine LA_holds rfl rfl ?_)
       |refine LA_alloc rfl (fun _ => rfl) ?_
       |refine LA_build3 (c := .agg #[.func (.func 59) #[] #[], .func (.func 60) #[] #[], .func (.func 61) #[] #[]]) rfl rfl rfl rfl (fun _ => by kernel_rfl) ?_
       |(refine LA_stop (hK _ _ (LX_put (φ := cnP A r (kindP r)) (w0 := w) rfl rfl rfl lays_cn (fun v' w' e hv => hv) rfl (fun _ => rfl) (Ext.refl _) (fun w' e' => ?_))); clear hK K)|(refine wOpB ?_;try dsimp only [Int.reduceToNat, Int.reducePow])|refine wOp ?_|(refine wOpD ?_;try dsimp only [Int.reduceToNat, Int.toNat_natCast])|(refine LA_cmp rfl rfl rfl rfl (fun hc => ?_) (fun hc => ?_)<;>dsimp only [cmpP] at hc)|(refine oCv ?_;first
       |(refine oC 48 ?_; refine LA_call2 (f := 48) rfl rfl rfl rfl (.pred (cnP A r (kindP r))) (by intro u1 u2 w' e hu1 hu2; obtain rfl : u1 = _ := hu1; exact hs w' _ e hu2) ?_)
       |(refine oC 13 ?_; refine oD 6 ?_; refine LA_call1 (f := 13) rfl rfl rfl _ (by intro u1 w' e hu1; obtain rfl : u1 = _ := hu1; exact hk1 w' e) ?_)
       |(refine oC 13 ?_; refine oD 998 ?_; refine LA_call1 (f := 13) rfl rfl rfl _ (by intro u1 w' e hu1; obtain rfl : u1 = _ := hu1; exact hk2 w' e) ?_)
       |(refine oC 52 ?_; refine LA_call3 (f := 52) rfl rfl rfl rfl rfl (.pred (cnP A r (kindP r))) (by intro u1 u2 u3 w' e hu1 hu2 hu3; obtain rfl : u1 = _ := hu1; obtain rfl : u2 = _ := hu2; obtain rfl : u3 = _ := hu3; exact hdo w' e) ?_))|(refine LA_nil (hK [] _ (LX_nil ?_));clear hK K)|(refine LA_nil (hK _ ?_);clear hK K))
       |(refine oCX ?_;first
       |refine wCX ?_|(refine wCR ?_;intro K hK))
       |(refine oPX ?_;first
       |refine wPX ?_
       |exact PX_retC rfl rfl rfl rfl rfl (by assumption))
       |(refine oLX ?_;first
       |refine LX_nil ?_))
      all_goals skip

end Go.Proofs.YtjiacignpmabcaaDoor
