import Derived.Test.YtbabdbiolofjdaaA4
set_option linter.unusedSimpArgs false
set_option linter.unusedVariables false
namespace Go.Proofs.Ytbabdbiolofjdaa
open Go.LA Go.ArrP Go.RowKit

theorem build4 {v0 v1 v2 v3 : Value} (h0 : v0.cells = #[v0]) (h1 : v1.cells = #[v1]) (h2 : v2.cells = #[v2]) (h3 : v3.cells = #[v3]) (w : World) :
    (Instr.build 25 #[(0, v0), (1, v1), (2, v2), (3, v3)]).run Try.prog w = .ok (.agg #[v0, v1, v2, v3]) w := by
  have hz : (zeroValue 25).run Try.prog w = .ok (.agg #[.slice none 0 0, .slice none 0 0, .slice none 0 0, .slice none 0 0]) w := rfl
  have hu : (underlying 25).run Try.prog w = .ok (.array 4 22) w := rfl
  have hs : (sizeOf 22).run Try.prog w = .ok 1 w := rfl
  simp only [Instr.build, Sem.run_bind, hz, hu, hs, Result.andThen_ok]
  simp [Instr.fill, h0, h1, h2, h3, show ∀ cs, (Value.agg cs).cells = cs from fun _ => rfl]

/-- Four rows of numbers, each in memory of its own. -/
def four (base e : Nat) (k : IntKind) (l1 l2 l3 l4 : List Int) : AV := ⟨fun v w => ∃ v1 v2 v3 v4 m1 m2 m3, v = .agg #[v1, v2, v3, v4] ∧ OwnI base e k w v1 l1 ∧ OwnI m1 e k w v2 l2 ∧ OwnI m2 e k w v3 l3 ∧ OwnI m3 e k w v4 l4 ∧
    (∀ b, v1.ownBlock = some b → b < m1) ∧ (∀ b, v2.ownBlock = some b → b < m2) ∧ (∀ b, v3.ownBlock = some b → b < m3) ∧ base ≤ m1 ∧ m1 ≤ m2 ∧ m2 ≤ m3,
  fun _ _ _ x ⟨v1, v2, v3, v4, m1, m2, m3, h0, h1, h2, h3, h4, r⟩ => ⟨v1, v2, v3, v4, m1, m2, m3, h0, h1.ext x, h2.ext x, h3.ext x, h4.ext x, r⟩⟩

theorem calls_c (w : World) (va vb : Value) (xs ys : List Int) (ha : SlI .u16 w va xs) (hb : SlI .u16 w vb ys) (hlen : xs.length + ys.length ≤ 70368744177663) :
    Fc Try.prog 10 #[va, vb] w (Ret w (.pred (four w.heap.size 29 .u16 (mergeS fAnd xs ys) (mergeS fOr xs ys) (mergeS fNot xs ys) (mergeS fXor xs ys)))) := by
  refine Fc.of (args := [_, _]) Try.func10 rfl rfl Try.ntmps10 (Nat.le_of_ble_eq_true rfl) ?_
  repeat' (first
    | (show LA _ _ _ _ _ _; first
      | refine LA_pass rfl ?_
      | refine LA_alloc rfl (fun _ => rfl) ?_
      | (refine LA_stop (hK _ _ (LX_pick 4 rfl (fun v4 w4 e4 h4 => ?_))); clear hK K; have x4 := e4; have ha4 := ha.ext x4; have hb4 := hb.ext x4; refine LX_la (by kernel_rfl) (fun K hK => ?_))
      | (refine LA_stop (hK _ _ (LX_pick 7 rfl (fun v7 w7 e7 h7 => ?_))); clear hK K; have x7 := x4.trans e7; have ha7 := ha.ext x7; have hb7 := hb.ext x7; refine LX_la (by kernel_rfl) (fun K hK => ?_))
      | (refine LA_stop (hK _ _ (LX_pick 10 rfl (fun v10 w10 e10 h10 => ?_))); clear hK K; have x10 := x7.trans e10; have ha10 := ha.ext x10; have hb10 := hb.ext x10; refine LX_la (by kernel_rfl) (fun K hK => ?_))
      | (refine LA_stop (hK _ _ (LX_pick 13 rfl (fun v13 w13 e13 h13 => ?_))); clear hK K; have x13 := x10.trans e13; have ha13 := ha.ext x13; have hb13 := hb.ext x13; refine LX_la (by kernel_rfl) (fun K hK => ?_))
      | (refine LA_stop (hK _ _ (LX_pick 16 rfl (fun v16 w16 e16 h16 => ?_))); clear hK K; have x16 := x13.trans e16; have ha16 := ha.ext x16; have hb16 := hb.ext x16; refine LX_la (by kernel_rfl) (fun K hK => ?_))
      | (obtain ⟨b, hb0, rfl, hb1⟩ := h4; refine LA_build4 rfl rfl rfl rfl rfl (build4 (OwnI.cells h7) (OwnI.cells h10) (OwnI.cells h13) (OwnI.cells h16)) ?_)
      | (refine LA_stop (hK _ _ (LX_storeAll rfl rfl rfl (((e7.trans e10).trans (e13.trans e16)).block hb1) (fun _ => rfl) rfl ?_ (fun w2 e2 => ?_))); clear hK K)
      | (show LA _ _ _ _ (⟨_, .move _, _, _, _, _⟩ :: _) _; first
          | refine LA_moveV rfl rfl ?_
          | refine LA_moveP rfl rfl ?_
          | refine LA_moveT rfl rfl ?_
          | refine LA_moveU rfl rfl ?_)
      | (show LA _ _ _ _ (⟨_, .assign _, _, _, _, _⟩ :: _) _; first
          | refine LA_assignV rfl rfl ?_
          | refine LA_assignP rfl rfl ?_
          | refine LA_assignT rfl rfl ?_)
      | (show LA _ _ _ _ (⟨_, .pick _ _ _, _, _, _, _⟩ :: _) _; first
          | refine LA_pickTV rfl rfl rfl ?_
          | refine LA_pickFV rfl rfl rfl ?_)
      | (show LA _ _ _ _ (⟨_, .unOp .not _ _, _, _, _, _⟩ :: _) _; first
          | refine LA_notT rfl rfl ?_
          | refine LA_notF rfl rfl ?_
          | refine LA_not rfl rfl ?_)
      | (show LA _ _ _ _ (⟨_, .extract _ _, _, _, _, _⟩ :: _) _; first
          | refine LA_ext0 rfl rfl ?_
          | refine LA_ext1 rfl rfl ?_
          | refine LA_ext30 rfl rfl ?_
          | refine LA_ext31 rfl rfl ?_
          | refine LA_ext32 rfl rfl ?_)
      | (show LA _ _ _ _ (⟨_, .binOp .add _ _ _ _, _, _, _, _⟩ :: _) _; first
          | refine LA_addF rfl rfl rfl (by dsimp only [fits]; omega) ?_
          | refine LA_addW rfl rfl rfl ?_)
      | (show LA _ _ _ _ (⟨_, .binOp .sub _ _ _ _, _, _, _, _⟩ :: _) _; first
          | refine LA_subF rfl rfl rfl (by dsimp only [fits]; omega) ?_
          | refine LA_subW rfl rfl rfl ?_)
      | (show LA _ _ _ _ (⟨_, .binOp .mul _ _ _ _, _, _, _, _⟩ :: _) _; first
          | refine LA_mulF rfl rfl rfl (by dsimp only [fits]; omega) ?_
          | refine LA_mulW rfl rfl rfl ?_)
      | (show LA _ _ _ _ (⟨_, .binOp .quo _ _ _ _, _, _, _, _⟩ :: _) _; first
          | refine LA_quo rfl rfl rfl (by omega) (by omega) (by dsimp only [fits]; omega) ?_)
      | (show LA _ _ _ _ (⟨_, .binOp .rem _ _ _ _, _, _, _, _⟩ :: _) _; first
          | refine LA_rem rfl rfl rfl (by omega) (by omega) (by dsimp only [fits]; omega) ?_)
      | (show LA _ _ _ _ (⟨_, .binOp .shr _ _ _ _, _, _, _, _⟩ :: _) _; first
          | (refine LA_shr rfl rfl rfl (by omega) (by dsimp only [IntKind.bits]; omega) ?_; try dsimp only [Int.reduceToNat, Int.reducePow]))
      | (show LA _ _ _ _ (⟨_, .binOp .shl _ _ _ _, _, _, _, _⟩ :: _) _; first
          | (refine LA_shl rfl rfl rfl (by omega) (by dsimp only [IntKind.bits]; omega) ?_; try dsimp only [Int.reduceToNat, Int.reducePow]))
      | (show LA _ _ _ _ (⟨_, .binOp _ _ _ _ _, _, _, _, _⟩ :: _) _; first
          | refine LA_cmpT rfl rfl rfl rfl (by first | (dsimp only [cmpP]; done) | (dsimp only [cmpP]; omega)) ?_
          | refine LA_cmpF rfl rfl rfl rfl (by dsimp only [cmpP]; omega) ?_
          | (refine LA_cmp rfl rfl rfl rfl (fun hc => ?_) (fun hc => ?_) <;> dsimp only [cmpP] at hc)
          | refine LA_boolEqT rfl rfl rfl rfl (by first | rfl | assumption) ?_
          | refine LA_boolEqF rfl rfl rfl rfl (by first | assumption | decide) ?_
          | refine LA_boolEq rfl rfl rfl rfl ?_
          | refine LA_boolNeT rfl rfl rfl rfl (by first | assumption | decide) ?_
          | refine LA_boolNeF rfl rfl rfl rfl (by first | rfl | assumption) ?_
          | refine LA_boolNe rfl rfl rfl rfl ?_)
      | (show LA _ _ _ _ (⟨_, .indexAddr _ _ _, _, _, _, _⟩ :: _) _; first
          | refine LA_indexN rfl _ rfl (fun _ => rfl) rfl (by first | exact HasI.val (by assumption) | exact HasI.pred | exact HasI.own | exact HasI.ownV (by assumption)) rfl (by omega) ?_
          | (refine LA_index rfl _ rfl (fun _ => rfl) rfl (by first | exact HasI.val (by assumption) | exact HasI.pred | exact HasI.own | exact HasI.ownV (by assumption)) rfl (by omega) (by omega) ?_; try dsimp only [Int.reduceToNat]))
      | (show LA _ _ _ _ (⟨_, .load _ _, _, _, _, _⟩ :: _) _; first
          | refine LA_load rfl (fun _ => rfl) rfl ?_)
      | (show LA _ _ _ _ (⟨_, .convert _ _ _, _, _, _, _⟩ :: _) _; first
          | refine LA_convF rfl rfl rfl rfl (by dsimp only [fits]; omega) ?_
          | refine LA_conv rfl rfl rfl rfl ?_)
      | (show LA _ _ _ _ (⟨_, .slice _ _ _ _ _, _, _, _, _⟩ :: _) _; first
          | (refine LA_sliceL rfl _ rfl rfl (by first | exact (HasI.val (by assumption)).c | exact HasI.pred.c | exact HasC.val (by assumption) | exact HasC.pred | exact HasI.own.c | exact HasC.own | exact (HasI.ownV (by assumption)).c | exact HasC.ownV (by assumption)) rfl (by omega) (by omega) (by exact fun _ => rfl) ?_; try dsimp only [Int.reduceToNat, Int.toNat_natCast])
          | (refine LA_sliceH rfl _ rfl rfl (by first | exact (HasI.val (by assumption)).c | exact HasI.pred.c | exact HasC.val (by assumption) | exact HasC.pred | exact HasI.own.c | exact HasC.own | exact (HasI.ownV (by assumption)).c | exact HasC.ownV (by assumption)) rfl (by omega) (by omega) (by exact fun _ => rfl) ?_; try dsimp only [Int.reduceToNat, Int.toNat_natCast])
          | (refine LA_sliceLH rfl _ rfl rfl (by first | exact (HasI.val (by assumption)).c | exact HasI.pred.c | exact HasC.val (by assumption) | exact HasC.pred | exact HasI.own.c | exact HasC.own | exact (HasI.ownV (by assumption)).c | exact HasC.ownV (by assumption)) rfl rfl (by omega) (by omega) (by omega) (by exact fun _ => rfl) ?_; try dsimp only [Int.reduceToNat, Int.toNat_natCast]))
      | (show LA _ _ _ _ (⟨_, .call ⟨.builtin .len, _, _⟩, _, _, _, _⟩ :: _) _; first
          | refine LA_len rfl _ rfl rfl (by first | exact (HasI.val (by assumption)).c | exact HasI.pred.c | exact HasC.val (by assumption) | exact HasC.pred | exact HasI.own.c | exact HasC.own | exact (HasI.ownV (by assumption)).c | exact HasC.ownV (by assumption)) ?_)
      | (show LA _ _ _ _ (⟨_, .call ⟨.value _, _, _⟩, _, _, _, _⟩ :: _) _; first
          | (show LA _ _ _ _ (⟨_, .call ⟨.value (.func 14), _, _⟩, _, _, _, _⟩ :: _) _; refine LA_call2 (f := 14) rfl rfl rfl rfl  (.pred (ownI _ 29 .u16 (mergeS fAnd xs ys))) (by intro u1 u2 w e hu1 hu2; (try obtain rfl : u1 = _ := hu1); (try obtain rfl : u2 = _ := hu2); exact (and_c _ _ _ xs ys (by first | exact hu1 | exact hu2 | exact hu3 | exact hu4 | exact hu5 | exact OwnI.slI hu1 | exact OwnI.slI hu2 | exact OwnI.slI hu3 | exact SlI.ext (by assumption) e | exact OwnI.slI (OwnI.ext (by assumption) e)) (by first | exact hu1 | exact hu2 | exact hu3 | exact hu4 | exact hu5 | exact OwnI.slI hu1 | exact OwnI.slI hu2 | exact OwnI.slI hu3 | exact SlI.ext (by assumption) e | exact OwnI.slI (OwnI.ext (by assumption) e)) hlen).mono (ret_base e.size)) ?_)
          | (show LA _ _ _ _ (⟨_, .call ⟨.value (.func 13), _, _⟩, _, _, _, _⟩ :: _) _; refine LA_call2 (f := 13) rfl rfl rfl rfl  (.pred (ownI _ 29 .u16 (mergeS fOr xs ys))) (by intro u1 u2 w e hu1 hu2; (try obtain rfl : u1 = _ := hu1); (try obtain rfl : u2 = _ := hu2); exact (or_c _ _ _ xs ys (by first | exact hu1 | exact hu2 | exact hu3 | exact hu4 | exact hu5 | exact OwnI.slI hu1 | exact OwnI.slI hu2 | exact OwnI.slI hu3 | exact SlI.ext (by assumption) e | exact OwnI.slI (OwnI.ext (by assumption) e)) (by first | exact hu1 | exact hu2 | exact hu3 | exact hu4 | exact hu5 | exact OwnI.slI hu1 | exact OwnI.slI hu2 | exact OwnI.slI hu3 | exact SlI.ext (by assumption) e | exact OwnI.slI (OwnI.ext (by assumption) e)) hlen).mono (ret_base e.size)) ?_)
          | (show LA _ _ _ _ (⟨_, .call ⟨.value (.func 16), _, _⟩, _, _, _, _⟩ :: _) _; refine LA_call2 (f := 16) rfl rfl rfl rfl  (.pred (ownI _ 29 .u16 (mergeS fNot xs ys))) (by intro u1 u2 w e hu1 hu2; (try obtain rfl : u1 = _ := hu1); (try obtain rfl : u2 = _ := hu2); exact (andnot_c _ _ _ xs ys (by first | exact hu1 | exact hu2 | exact hu3 | exact hu4 | exact hu5 | exact OwnI.slI hu1 | exact OwnI.slI hu2 | exact OwnI.slI hu3 | exact SlI.ext (by assumption) e | exact OwnI.slI (OwnI.ext (by assumption) e)) (by first | exact hu1 | exact hu2 | exact hu3 | exact hu4 | exact hu5 | exact OwnI.slI hu1 | exact OwnI.slI hu2 | exact OwnI.slI hu3 | exact SlI.ext (by assumption) e | exact OwnI.slI (OwnI.ext (by assumption) e)) hlen).mono (ret_base e.size)) ?_)
          | (show LA _ _ _ _ (⟨_, .call ⟨.value (.func 15), _, _⟩, _, _, _, _⟩ :: _) _; refine LA_call2 (f := 15) rfl rfl rfl rfl  (.pred (ownI _ 29 .u16 (mergeS fXor xs ys))) (by intro u1 u2 w e hu1 hu2; (try obtain rfl : u1 = _ := hu1); (try obtain rfl : u2 = _ := hu2); exact (xor_c _ _ _ xs ys (by first | exact hu1 | exact hu2 | exact hu3 | exact hu4 | exact hu5 | exact OwnI.slI hu1 | exact OwnI.slI hu2 | exact OwnI.slI hu3 | exact SlI.ext (by assumption) e | exact OwnI.slI (OwnI.ext (by assumption) e)) (by first | exact hu1 | exact hu2 | exact hu3 | exact hu4 | exact hu5 | exact OwnI.slI hu1 | exact OwnI.slI hu2 | exact OwnI.slI hu3 | exact SlI.ext (by assumption) e | exact OwnI.slI (OwnI.ext (by assumption) e)) hlen).mono (ret_base e.size)) ?_))
      | (refine LA_nil (hK [] _ (LX_nil ?_)); clear hK K)
      | (refine LA_nil (hK _ ?_); clear hK K))
    | (show CX _ _ _ _ _ _; first
      | refine CX_seq ?_
      | refine CX_skip ?_
      | refine CX_block ?_
      | refine CX_exit ?_
      | refine CX_ret ?_
      | refine CX_condT rfl ?_
      | refine CX_condF rfl ?_
      | refine CX_region (by kernel_rfl) (fun K hK => ?_)
      | refine CX_regionA (by kernel_rfl) (by kernel_rfl) (fun K hK => ?_)
      | refine CX_label ?_
      | refine CX_scope ?_)
    | (show PX _ _ _ _ _; first
      | refine PX_then ?_
      | refine PX_thenX ?_
      | refine PX_thenR ?_
      | refine PX_blockN ?_
      | refine PX_blockR ?_
      | refine PX_blockX ?_
      | refine PX_blockO (by decide) ?_
      | refine PX_scopeN ?_
      | refine PX_scopeR ?_
      | refine PX_scopeX ?_)
    | (show LX _ _ _ _ _ _ _; first
      | refine LX_nil ?_))
  · exact (fun u hu => by
      simp only [Value.cells, List.mem_cons, List.not_mem_nil, or_false] at hu
      rcases hu with rfl | rfl | rfl | rfl
      · exact OwnI.one h7
      · exact OwnI.one h10
      · exact OwnI.one h13
      · exact OwnI.one h16)
  · have hlt : b < w4.heap.size := (Array.getElem?_eq_some_iff.1 hb1).1
    have o7 : OwnI w4.heap.size 29 .u16 w2 v7 _ := OwnI.ext h7 (((e10.trans e13).trans e16).trans e2)
    have o10 : OwnI w7.heap.size 29 .u16 w2 v10 _ := OwnI.ext h10 ((e13.trans e16).trans e2)
    have o13 : OwnI w10.heap.size 29 .u16 w2 v13 _ := OwnI.ext h13 (e16.trans e2)
    have o16 : OwnI w13.heap.size 29 .u16 w2 v16 _ := OwnI.ext h16 e2
    have s7 := e7.size; have s10 := e10.size; have s13 := e13.size; have s16 := e16.size; have s2 := e2.size
    refine PX_retB (P := Try.prog) rfl rfl (setRow_heap w2 b _ _ _ (0, 0) ((((e7.trans e10).trans (e13.trans e16)).trans e2).block hb1)) rfl rfl rfl ((x16.trans e2).setRow hb0 _) (fun w3 e3 => ?_)
    refine ⟨v7, v10, v13, v16, w7.heap.size, w10.heap.size, w13.heap.size, rfl, ?_, ?_, ?_, ?_, fun b' hb' => (Own.lt h7 b' hb').2, fun b' hb' => (Own.lt h10 b' hb').2, fun b' hb' => (Own.lt h13 b' hb').2, ?_, ?_, ?_⟩
    · exact OwnI.ext (Own.base (Own.setRow o7 _ (fun e => by have := (Own.lt o7 _ e).1; omega)) (by have := e4.size; omega)) e3
    · exact OwnI.ext (Own.setRow o10 _ (fun e => by have := (Own.lt o10 _ e).1; omega)) e3
    · exact OwnI.ext (Own.setRow o13 _ (fun e => by have := (Own.lt o13 _ e).1; omega)) e3
    · exact OwnI.ext (Own.setRow o16 _ (fun e => by have := (Own.lt o16 _ e).1; omega)) e3
    · have := e4.size; omega
    · exact s10
    · exact s13
end Go.Proofs.Ytbabdbiolofjdaa
