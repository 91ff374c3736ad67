import Derived.Test.YthcpljmibcacaaaDoorW15

set_option linter.unusedSimpArgs false
set_option linter.unusedVariables false
namespace Go.Proofs.YthcpljmibcacaaaDoor
open Go.LA Go.ArrP Go.RowKit
theorem el_u16 : El Tryd.prog 22 30 (.int .u16 0) 1 2 := ⟨rfl, rfl, rfl, by decide⟩
theorem lw_u64 {ws : List Int} (h : ∀ n ∈ ws, (Lit.int .u64 n).wf = true) : Lw ws := fun x hx => wf_u64 (h x hx)
theorem ret_any {w : World} {r : AD} (en : Ending) (w' : World) (h : Ret w r en w') : Ret w .any en w' := by
  obtain ⟨v, h1, h2, h3⟩ := h
  exact ⟨v, h1, h2, trivial⟩
set_option maxHeartbeats 4000000 in
theorem wsets_c (w : World) (va vo : Value) (xs os : List Int) (x : Int) (pl k : Int) (ha : SlI .u16 w va xs) (ho : SlI .u64 w vo os) (hl : Low xs) (hlo : Lw os) (hT : Tab w) (hx : 0 ≤ x ∧ x < 65536) (hpl : -9223372036854775808 ≤ pl ∧ pl < 9223372036854775808) (hk : -9223372036854775808 ≤ k ∧ k < 9223372036854775808) :
    Fc Tryd.prog 6 #[va, .int .u16 x, .int .i64 pl, .int .i64 k, vo] w (Ret w (.val (.bool true))) := by
  have hlen := ha.len
  have hlen' := ho.len
  refine Fc.of (args := [_, _, _, _, _]) Tryd.func6 rfl rfl Tryd.ntmps6 (Nat.le_of_ble_eq_true rfl) ?_
  obtain ⟨X, rfl⟩ := Int.eq_ofNat_of_zero_le hx.1
  have hX : X < 65536 := by omega
  by_cases hbig : xs.length > 3000 ∨ os.length > 2000
  · skip
    repeat' (first
      | (show LA _ _ _ _ _ _; first
        | refine LA_pass rfl ?_
        | (show LA _ _ _ _ (⟨_, .move _, _, _, _, _⟩ :: _) _; first
            | refine LA_moveV rfl rfl ?_
            | refine LA_moveP rfl rfl ?_
            | refine LA_moveT rfl rfl ?_
            | refine LA_moveU rfl rfl ?_)
        | (show LA _ _ _ _ (⟨_, .assign _, _, _, _, _⟩ :: _) _; first
            | refine LA_assignV rfl rfl ?_
            | refine LA_assignP rfl rfl ?_
            | refine LA_assignT rfl rfl ?_)
        | (show LA _ _ _ _ (⟨_, .pick _ _ _, _, _, _, _⟩ :: _) _; first
            | refine LA_pickTV rfl rfl rfl ?_
            | refine LA_pickFV rfl rfl rfl ?_)
        | (show LA _ _ _ _ (⟨_, .unOp .not _ _, _, _, _, _⟩ :: _) _; first
            | refine LA_notT rfl rfl ?_
            | refine LA_notF rfl rfl ?_
            | refine LA_not rfl rfl ?_)
        | (show LA _ _ _ _ (⟨_, .extract _ _, _, _, _, _⟩ :: _) _; first
            | refine LA_ext0 rfl rfl ?_
            | refine LA_ext1 rfl rfl ?_
            | refine LA_ext30 rfl rfl ?_
            | refine LA_ext31 rfl rfl ?_
            | refine LA_ext32 rfl rfl ?_)
        | (show LA _ _ _ _ (⟨_, .binOp .add _ _ _ _, _, _, _, _⟩ :: _) _; first
            | refine LA_addF rfl rfl rfl (by dsimp only [fits]; omega) ?_
            | refine LA_addW rfl rfl rfl ?_)
        | (show LA _ _ _ _ (⟨_, .binOp .sub _ _ _ _, _, _, _, _⟩ :: _) _; first
            | refine LA_subF rfl rfl rfl (by dsimp only [fits]; omega) ?_
            | refine LA_subW rfl rfl rfl ?_)
        | (show LA _ _ _ _ (⟨_, .binOp .mul _ _ _ _, _, _, _, _⟩ :: _) _; first
            | refine LA_mulF rfl rfl rfl (by dsimp only [fits]; omega) ?_
            | refine LA_mulW rfl rfl rfl ?_)
        | (show LA _ _ _ _ (⟨_, .binOp .quo _ _ _ _, _, _, _, _⟩ :: _) _; first
            | refine LA_quo rfl rfl rfl (by omega) (by omega) (by dsimp only [fits]; omega) ?_)
        | (show LA _ _ _ _ (⟨_, .binOp .rem _ _ _ _, _, _, _, _⟩ :: _) _; first
            | refine LA_rem rfl rfl rfl (by omega) (by omega) (by dsimp only [fits]; omega) ?_)
        | (show LA _ _ _ _ (⟨_, .binOp .shr _ _ _ _, _, _, _, _⟩ :: _) _; first
            | (refine LA_shr rfl rfl rfl (by omega) (by dsimp only [IntKind.bits]; omega) ?_; try dsimp only [Int.reduceToNat, Int.reducePow]))
        | (show LA _ _ _ _ (⟨_, .binOp .shl _ _ _ _, _, _, _, _⟩ :: _) _; first
            | (refine LA_shl rfl rfl rfl (by omega) (by dsimp only [IntKind.bits]; omega) ?_; try dsimp only [Int.reduceToNat, Int.reducePow]))
        | (show LA _ _ _ _ (⟨_, .binOp _ _ _ _ _, _, _, _, _⟩ :: _) _; first
            | refine LA_cmpT rfl rfl rfl rfl (by first | (dsimp only [cmpP]; done) | (dsimp only [cmpP]; omega)) ?_
            | refine LA_cmpF rfl rfl rfl rfl (by dsimp only [cmpP]; omega) ?_
            | (refine LA_cmp rfl rfl rfl rfl (fun hc => ?_) (fun hc => ?_) <;> dsimp only [cmpP] at hc)
            | refine LA_boolEqT rfl rfl rfl rfl (by first | rfl | assumption) ?_
            | refine LA_boolEqF rfl rfl rfl rfl (by first | assumption | decide) ?_
            | refine LA_boolEq rfl rfl rfl rfl ?_
            | refine LA_boolNeT rfl rfl rfl rfl (by first | assumption | decide) ?_
            | refine LA_boolNeF rfl rfl rfl rfl (by first | rfl | assumption) ?_
            | refine LA_boolNe rfl rfl rfl rfl ?_)
        | (show LA _ _ _ _ (⟨_, .indexAddr _ _ _, _, _, _, _⟩ :: _) _; first
            | refine LA_indexN rfl _ rfl (fun _ => rfl) rfl (by first | exact HasI.val (by assumption) | exact HasI.pred | exact HasI.own | exact HasI.ownV (by assumption)) rfl (by omega) ?_
            | (refine LA_index rfl _ rfl (fun _ => rfl) rfl (by first | exact HasI.val (by assumption) | exact HasI.pred | exact HasI.own | exact HasI.ownV (by assumption)) rfl (by omega) (by omega) ?_; try dsimp only [Int.reduceToNat]))
        | (show LA _ _ _ _ (⟨_, .load _ _, _, _, _, _⟩ :: _) _; first
            | refine LA_load rfl (fun _ => rfl) rfl ?_)
        | (show LA _ _ _ _ (⟨_, .convert _ _ _, _, _, _, _⟩ :: _) _; first
            | refine LA_convF rfl rfl rfl rfl (by dsimp only [fits]; omega) ?_
            | refine LA_conv rfl rfl rfl rfl ?_)
        | (show LA _ _ _ _ (⟨_, .slice _ _ _ _ _, _, _, _, _⟩ :: _) _; first
            | (refine LA_sliceL rfl _ rfl rfl (by first | exact (HasI.val (by assumption)).c | exact HasI.pred.c | exact HasC.val (by assumption) | exact HasC.pred | exact HasI.own.c | exact HasC.own | exact (HasI.ownV (by assumption)).c | exact HasC.ownV (by assumption)) rfl (by omega) (by omega) (by exact fun _ => rfl) ?_; try dsimp only [Int.reduceToNat, Int.toNat_natCast])
            | (refine LA_sliceH rfl _ rfl rfl (by first | exact (HasI.val (by assumption)).c | exact HasI.pred.c | exact HasC.val (by assumption) | exact HasC.pred | exact HasI.own.c | exact HasC.own | exact (HasI.ownV (by assumption)).c | exact HasC.ownV (by assumption)) rfl (by omega) (by omega) (by exact fun _ => rfl) ?_; try dsimp only [Int.reduceToNat, Int.toNat_natCast])
            | (refine LA_sliceLH rfl _ rfl rfl (by first | exact (HasI.val (by assumption)).c | exact HasI.pred.c | exact HasC.val (by assumption) | exact HasC.pred | exact HasI.own.c | exact HasC.own | exact (HasI.ownV (by assumption)).c | exact HasC.ownV (by assumption)) rfl rfl (by omega) (by omega) (by omega) (by exact fun _ => rfl) ?_; try dsimp only [Int.reduceToNat, Int.toNat_natCast]))
        | (show LA _ _ _ _ (⟨_, .call ⟨.builtin .len, _, _⟩, _, _, _, _⟩ :: _) _; first
            | refine LA_len rfl _ rfl rfl (by first | exact (HasI.val (by assumption)).c | exact HasI.pred.c | exact HasC.val (by assumption) | exact HasC.pred | exact HasI.own.c | exact HasC.own | exact (HasI.ownV (by assumption)).c | exact HasC.ownV (by assumption)) ?_)
        | (show LA _ _ _ _ (⟨_, .call ⟨.value _, _, _⟩, _, _, _, _⟩ :: _) _; first
            | (show LA _ _ _ _ (⟨_, .call ⟨.value (.func 9), _, _⟩, _, _, _, _⟩ :: _) _; refine LA_call0 (f := 9) rfl rfl  (.val (.bool true)) (by intro w e; exact known_c _ (hT.ext e)) ?_))
        | (refine LA_nil (hK [] _ (LX_nil ?_)); clear hK K)
        | (refine LA_nil (hK _ ?_); clear hK K))
      | (show CX _ _ _ _ _ _; first
        | refine CX_seq ?_
        | refine CX_skip ?_
        | refine CX_block ?_
        | refine CX_exit ?_
        | refine CX_ret ?_
        | refine CX_condT rfl ?_
        | refine CX_condF rfl ?_
        | refine CX_region (by kernel_rfl) (fun K hK => ?_)
        | refine CX_regionA (by kernel_rfl) (by kernel_rfl) (fun K hK => ?_)
        | refine CX_label ?_
        | refine CX_scope ?_)
      | (show PX _ _ _ _ _; first
        | refine PX_then ?_
        | refine PX_thenX ?_
        | refine PX_thenR ?_
        | refine PX_blockN ?_
        | refine PX_blockR ?_
        | refine PX_blockX ?_
        | refine PX_blockO (by decide) ?_
        | refine PX_scopeN ?_
        | refine PX_scopeR ?_
        | refine PX_scopeX ?_
        | exact PX_retE rfl rfl (Ext.refl _) rfl)
      | (show LX _ _ _ _ _ _ _; first
        | refine LX_nil ?_))
    all_goals skip
    all_goals (exfalso; omega)
  · obtain ⟨p, hp⟩ : ∃ p, p = memb xs := ⟨_, rfl⟩
    obtain ⟨L, hL⟩ : ∃ L, L = cnt p 65536 := ⟨_, rfl⟩
    have hL2 : L ≤ 65536 := hL ▸ cnt_le p 65536
    have hll := listS_len p 65536
    rw [← hL] at hll
    have gll : Hid ((listS p 65536).length = L) := ⟨hll⟩
    have gL : Hid (L = cnt p 65536) := ⟨hL⟩
    obtain ⟨R, hR⟩ : ∃ R, R = cnt p (min pl 65536).toNat := ⟨_, rfl⟩
    have hR2 : R ≤ 65536 := by have := cnt_le p (min pl 65536).toNat; omega
    have gR : Hid (cnt p (min pl 65536).toNat = R) := ⟨hR.symm⟩
    have gR2 : Hid (cnt p (min (max pl 0) 65536).toNat = R) := ⟨by rw [hR, show (min (max pl 0) 65536).toNat = (min pl 65536).toNat by omega]⟩
    obtain ⟨U, hU⟩ : ∃ U, U = cnt (startsS p) 65536 := ⟨_, rfl⟩
    have gU : Hid (cnt (startsS p) 65536 = U) := ⟨hU.symm⟩
    have gpX : Hid ((marks p)[0 + X * 1]? = some (.bool (p X))) := ⟨by rw [show 0 + X * 1 = X by omega]; exact marks_get p hX⟩
    clear hll hL hR hU
    by_cases hkk : 0 ≤ k ∧ k < L
    · obtain ⟨Kn, rfl⟩ := Int.eq_ofNat_of_zero_le hkk.1
      have hKL : Kn < L := by omega
      have gsel : Hid (selP p Kn = ((listS p 65536).getD Kn 0, true)) := ⟨by unfold selP; rw [if_pos (by have := gL.out; omega), Int.toNat_natCast]⟩
      repeat' (first
        | (show LA _ _ _ _ _ _; first
          | refine LA_pass rfl ?_
          | refine LA_lit0 30 (s := 1) rfl (fun _ => by kernel_rfl) ?_
          | (show LA _ _ _ _ (⟨some 27, _, _, _, _, _⟩ :: _) _; refine LA_stop (hK _ _ (LX_pick 26 rfl (fun v26 w1 e1 h26 => ?_))); clear hK K; have ho26 : Own w.heap.size 30 1 w1 v26 0 [] := h26; clear h26; have ha1 := ha.ext e1; refine LX_la (by kernel_rfl) (fun K hK => ?_))
          | (show LA _ _ _ _ (⟨some 28, _, _, _, _, _⟩ :: _) _; refine LA_stop (hK _ _ (LX_append rfl (by decide) el_u16 rfl ho26 rfl (HasI.val ha1).c ints_one (by rw [Nat.zero_add]; unfold maxLen; omega) (by omega) e1.size (fun v28 w2 w3 e2 ho3 hg3 => ?_))); clear hK K; have hin : OwnI w.heap.size 30 .u16 w3 v28 xs := (by unfold OwnI; simpa using ho3); have x3 : Ext w w3 := (e1.trans e2).grown hg3 (fun q hq => (Own.lt ho26 q hq).1); have ha3 := ha.ext x3; have ho3' := ho.ext x3; have hT3 := hT.ext x3; clear ho3 hg3 ho26 e1 e2; dsimp only [vals]; refine LX_la (by kernel_rfl) (fun K hK => ?_))
          | (show LA _ _ _ _ (⟨some 30, _, _, _, _, _⟩ :: _) _; show LA _ _ _ _ (⟨_, .call ⟨.value (.func 10), _, _⟩, _, _, _, _⟩ :: _) _; refine LA_call1 (f := 10) rfl rfl rfl  (.pred (ownI w3.heap.size 43 .u64 (wordsOf p))) (by intro u1 w e hu1; (try obtain rfl : u1 = _ := hu1); exact hp ▸ (wof_c _ _ xs (OwnI.slI (hin.ext e)) hl).mono (ret_base e.size)) ?_)
          | (show LA _ _ _ _ (⟨some 32, _, _, _, _, _⟩ :: _) _; show LA _ _ _ _ (⟨_, .call ⟨.value (.func 19), _, _⟩, _, _, _, _⟩ :: _) _; refine LA_call1 (f := 19) rfl rfl rfl  (.pred (mkI w3.heap.size tM p)) (by intro u1 w e hu1; (try obtain rfl : u1 = _ := hu1); exact hp ▸ (mof_c _ _ xs (ha3.ext e) hl).mono (ret_mk e.size)) ?_)
          | (show LA _ _ _ _ (⟨some 33, _, _, _, _, _⟩ :: _) _; refine LA_stop (hK _ _ (LX_pick 13 rfl (fun v13 w4 e4 h13 => LX_pick 12 rfl (fun v12 w5 e5 h12 => ?_)))); clear hK K; obtain ⟨bm, rfl, hbm, hbm'⟩ := MkI.ext h13 e5; have hmk : MkI w3.heap.size tM w5 (.pointer (some ⟨bm, 0, none⟩)) p := ⟨bm, rfl, hbm, hbm'⟩; have h12 : OwnI w3.heap.size 43 .u64 w5 v12 (wordsOf p) := h12; have y5 := e4.trans e5; have x5 := x3.trans y5; have hin5 := hin.ext y5; have ha5 := ha3.ext y5; have ho5 := ho3'.ext y5; have hT5 := hT3.ext y5; clear h13 e4 e5 ha3 ho3' hT3 x3 hin y5; refine LX_la (by kernel_rfl) (fun K hK => ?_))
          | (show LA _ _ _ _ (⟨some 42, _, _, _, _, _⟩ :: _) _; show LA _ _ _ _ (⟨_, .call ⟨.value (.func 11), _, _⟩, _, _, _, _⟩ :: _) _; refine LA_call1 (f := 11) rfl rfl rfl  (.pred (ownI w5.heap.size 30 .u16 (listS p 65536))) (by intro u1 w e hu1; (try obtain rfl : u1 = _ := hu1); exact (wlistP _ _ p (OwnI.slI (h12.ext e)) (hT5.ext e)).mono (ret_base e.size)) ?_)
          | (show LA _ _ _ _ (⟨some 44, _, _, _, _, _⟩ :: _) _; refine LA_call2 (f := 27) rfl rfl rfl rfl (.val (.bool true)) (by intro u1 u2 w e hu1 hu2; exact ret_true (same_c _ _ _ (listS p 65536) (listS p 65536) (OwnI.slI hu1) (OwnI.slI hu2)) (decide_eq_true rfl)) ?_)
          | (show LA _ _ _ _ (⟨some 49, _, _, _, _, _⟩ :: _) _; show LA _ _ _ _ (⟨_, .call ⟨.value (.func 14), _, _⟩, _, _, _, _⟩ :: _) _; refine LA_call1 (f := 14) rfl rfl rfl  (.val (.int .i64 L)) (by intro u1 w e hu1; (try obtain rfl : u1 = _ := hu1); exact ret_eq (by rw [gL.out]) (wlenP _ _ p (OwnI.slI (h12.ext e)))) ?_)
          | (show LA _ _ _ _ (⟨some 51, _, _, _, _, _⟩ :: _) _; refine LA_len rfl _ rfl rfl (by first | exact (HasI.val (by assumption)).c | exact HasI.pred.c | exact HasC.val (by assumption) | exact HasC.pred | exact HasI.own.c | exact HasC.own | exact (HasI.ownV (by assumption)).c | exact HasC.ownV (by assumption)) ?_; rw [gll.out])
          | (show LA _ _ _ _ (⟨some 99, _, _, _, _, _⟩ :: _) _; refine LA_len rfl _ rfl rfl (by first | exact (HasI.val (by assumption)).c | exact HasI.pred.c | exact HasC.val (by assumption) | exact HasC.pred | exact HasI.own.c | exact HasC.own | exact (HasI.ownV (by assumption)).c | exact HasC.ownV (by assumption)) ?_; rw [gll.out])
          | (show LA _ _ _ _ (⟨some 57, _, _, _, _, _⟩ :: _) _; show LA _ _ _ _ (⟨_, .call ⟨.value (.func 17), _, _⟩, _, _, _, _⟩ :: _) _; refine LA_call2 (f := 17) rfl rfl rfl rfl  (.val (.bool (p X))) (by intro u1 u2 w e hu1 hu2; (try obtain rfl : u1 = _ := hu1); (try obtain rfl : u2 = _ := hu2); exact whasP _ _ p (OwnI.slI (h12.ext e)) X hX) ?_)
          | refine LA_nilCheck rfl rfl ?_
          | (show LA _ _ _ _ (⟨some 61, _, _, _, _, _⟩ :: _) _; refine LA_indexArr (n := 65536) (s := 1) rfl rfl (fun _ => rfl) rfl rfl X rfl hX ?_)
          | (show LA _ _ _ _ (⟨some 62, _, _, _, _, _⟩ :: _) _; refine LA_loadB rfl (fun _ => rfl) rfl hbm' gpX.out ?_)
          | (show LA _ _ _ _ (⟨some 63, _, _, _, _, _⟩ :: _) _; refine LA_boolNeF rfl rfl rfl rfl rfl ?_)
          | (show LA _ _ _ _ (⟨some 68, _, _, _, _, _⟩ :: _) _; show LA _ _ _ _ (⟨_, .call ⟨.value (.func 16), _, _⟩, _, _, _, _⟩ :: _) _; refine LA_call2 (f := 16) rfl rfl rfl rfl  (.val (.int .i64 R)) (by intro u1 u2 w e hu1 hu2; (try obtain rfl : u1 = _ := hu1); (try obtain rfl : u2 = _ := hu2); exact ret_eq (by rw [gR2.out]) (wrankP _ _ p (OwnI.slI (h12.ext e)) pl hpl)) ?_)
          | (show LA _ _ _ _ (⟨some 71, _, _, _, _, _⟩ :: _) _; show LA _ _ _ _ (⟨_, .call ⟨.value (.func 28), _, _⟩, _, _, _, _⟩ :: _) _; refine LA_call2 (f := 28) rfl rfl rfl rfl  (.val (.int .i64 R)) (by intro u1 u2 w e hu1 hu2; (try obtain rfl : u1 = _ := hu1); (try obtain rfl : u2 = _ := hu2); exact ret_eq (by rw [gR.out]) (mbelow_c _ _ _ p pl (hmk.ext e))) ?_)
          | (show LA _ _ _ _ (⟨some 76, _, _, _, _, _⟩ :: _) _; show LA _ _ _ _ (⟨_, .call ⟨.value (.func 29), _, _⟩, _, _, _, _⟩ :: _) _; refine LA_call1 (f := 29) rfl rfl rfl  (.val (.int .i64 U)) (by intro u1 w e hu1; (try obtain rfl : u1 = _ := hu1); exact ret_eq (by rw [gU.out]) (wrunsP _ _ p (OwnI.slI (h12.ext e)))) ?_)
          | (show LA _ _ _ _ (⟨some 78, _, _, _, _, _⟩ :: _) _; show LA _ _ _ _ (⟨_, .call ⟨.value (.func 30), _, _⟩, _, _, _, _⟩ :: _) _; refine LA_call1 (f := 30) rfl rfl rfl  (.val (.int .i64 U)) (by intro u1 w e hu1; (try obtain rfl : u1 = _ := hu1); exact ret_eq (by rw [gU.out]) (mruns_c _ _ _ p (hmk.ext e))) ?_)
          | (show LA _ _ _ _ (⟨some 84, _, _, _, _, _⟩ :: _) _; refine LA_call2 (f := 27) rfl rfl rfl rfl (.val (.bool true)) (by intro u1 u2 w e hu1 hu2; (try obtain rfl : u1 = _ := hu1); (try obtain rfl : u2 = _ := hu2); exact ret_true (same_c _ _ _ xs xs (OwnI.slI (hin5.ext e)) (ha5.ext e)) (decide_eq_true rfl)) ?_)
          | (show LA _ _ _ _ (⟨some 90, _, _, _, _, _⟩ :: _) _; show LA _ _ _ _ (⟨_, .call ⟨.value (.func 15), _, _⟩, _, _, _, _⟩ :: _) _; refine LA_call2 (f := 15) rfl rfl rfl rfl  (.tup2 (.val (.int .u16 _)) (.val (.bool _))) (by intro u1 u2 w e hu1 hu2; (try obtain rfl : u1 = _ := hu1); (try obtain rfl : u2 = _ := hu2); exact ret_tup2 (by rw [gsel.out]) (by rw [gsel.out]) (wselP _ _ p (OwnI.slI (h12.ext e)) (hT5.ext e) _ hk)) ?_)
          | (show LA _ _ _ _ (⟨some 109, _, _, _, _, _⟩ :: _) _; refine LA_indexN rfl _ rfl (fun _ => rfl) rfl (by first | exact HasI.val (by assumption) | exact HasI.pred | exact HasI.own | exact HasI.ownV (by assumption)) rfl (by rw [gll.out]; omega) ?_)
          | (show LA _ _ _ _ (⟨some 102, _, _, _, _, _⟩ :: _) _; refine LA_boolNeF rfl rfl rfl rfl rfl ?_)
          | (show LA _ _ _ _ (⟨some 123, _, _, _, _, _⟩ :: _) _; show LA _ _ _ _ (⟨_, .call ⟨.value (.func 11), _, _⟩, _, _, _, _⟩ :: _) _; refine LA_call1 (f := 11) rfl rfl rfl  (.any) (by intro u1 w e hu1; (try obtain rfl : u1 = _ := hu1); exact (wlist_c _ _ os (ho5.ext e) hlo (hT5.ext e)).mono ret_any) ?_)
          | (show LA _ _ _ _ (⟨some 125, _, _, _, _, _⟩ :: _) _; show LA _ _ _ _ (⟨_, .call ⟨.value (.func 14), _, _⟩, _, _, _, _⟩ :: _) _; refine LA_call1 (f := 14) rfl rfl rfl  (.any) (by intro u1 w e hu1; (try obtain rfl : u1 = _ := hu1); exact (wlen_c _ _ os (ho5.ext e) hlo (by omega)).mono ret_any) ?_)
          | (show LA _ _ _ _ (⟨some 128, _, _, _, _, _⟩ :: _) _; show LA _ _ _ _ (⟨_, .call ⟨.value (.func 17), _, _⟩, _, _, _, _⟩ :: _) _; refine LA_call2 (f := 17) rfl rfl rfl rfl  (.any) (by intro u1 u2 w e hu1 hu2; (try obtain rfl : u1 = _ := hu1); (try obtain rfl : u2 = _ := hu2); exact (whas_c _ _ os X (ho5.ext e) hlo hX).mono ret_any) ?_)
          | (show LA _ _ _ _ (⟨some 131, _, _, _, _, _⟩ :: _) _; show LA _ _ _ _ (⟨_, .call ⟨.value (.func 16), _, _⟩, _, _, _, _⟩ :: _) _; refine LA_call2 (f := 16) rfl rfl rfl rfl  (.any) (by intro u1 u2 w e hu1 hu2; (try obtain rfl : u1 = _ := hu1); (try obtain rfl : u2 = _ := hu2); exact (wrank_c _ _ os pl (ho5.ext e) hlo (by omega) hpl).mono ret_any) ?_)
          | (show LA _ _ _ _ (⟨some 134, _, _, _, _, _⟩ :: _) _; show LA _ _ _ _ (⟨_, .call ⟨.value (.func 15), _, _⟩, _, _, _, _⟩ :: _) _; refine LA_call2 (f := 15) rfl rfl rfl rfl  (.any) (by intro u1 u2 w e hu1 hu2; (try obtain rfl : u1 = _ := hu1); (try obtain rfl : u2 = _ := hu2); exact (wsel_c _ _ os _ (ho5.ext e) hlo (hT5.ext e) hk).mono ret_any) ?_)
          | (show LA _ _ _ _ (⟨some 136, _, _, _, _, _⟩ :: _) _; show LA _ _ _ _ (⟨_, .call ⟨.value (.func 29), _, _⟩, _, _, _, _⟩ :: _) _; refine LA_call1 (f := 29) rfl rfl rfl  (.any) (by intro u1 w e hu1; (try obtain rfl : u1 = _ := hu1); exact (wruns_c _ _ os (ho5.ext e) hlo (by omega)).mono ret_any) ?_)
          | (show LA _ _ _ _ (⟨some 140, _, _, _, _, _⟩ :: _) _; show LA _ _ _ _ (⟨_, .call ⟨.value (.func 13), _, _⟩, _, _, _, _⟩ :: _) _; refine LA_call3 (f := 13) rfl rfl rfl rfl rfl  (.any) (by intro u1 u2 u3 w e hu1 hu2 hu3; (try obtain rfl : u1 = _ := hu1); (try obtain rfl : u2 = _ := hu2); (try obtain rfl : u3 = _ := hu3); exact (wflip_c _ _ os pl _ (ho5.ext e) hlo hpl hk).mono ret_any) ?_)
          | (show LA _ _ _ _ (⟨some 143, _, _, _, _, _⟩ :: _) _; show LA _ _ _ _ (⟨_, .call ⟨.value (.func 18), _, _⟩, _, _, _, _⟩ :: _) _; refine LA_call2 (f := 18) rfl rfl rfl rfl  (.any) (by intro u1 u2 w e hu1 hu2; (try obtain rfl : u1 = _ := hu1); (try obtain rfl : u2 = _ := hu2); exact (wand_c _ _ _ os (wordsOf p) (ho5.ext e) (OwnI.slI (h12.ext e)) hlo (wordsOf_lw p)).mono ret_any) ?_)
          | (show LA _ _ _ _ (⟨some 146, _, _, _, _, _⟩ :: _) _; show LA _ _ _ _ (⟨_, .call ⟨.value (.func 22), _, _⟩, _, _, _, _⟩ :: _) _; refine LA_call2 (f := 22) rfl rfl rfl rfl  (.any) (by intro u1 u2 w e hu1 hu2; (try obtain rfl : u1 = _ := hu1); (try obtain rfl : u2 = _ := hu2); exact (wxor_c _ _ _ (wordsOf p) os (OwnI.slI (h12.ext e)) (ho5.ext e) (wordsOf_lw p) hlo).mono ret_any) ?_)
          | (show LA _ _ _ _ (⟨some 149, _, _, _, _, _⟩ :: _) _; show LA _ _ _ _ (⟨_, .call ⟨.value (.func 20), _, _⟩, _, _, _, _⟩ :: _) _; refine LA_call2 (f := 20) rfl rfl rfl rfl  (.any) (by intro u1 u2 w e hu1 hu2; (try obtain rfl : u1 = _ := hu1); (try obtain rfl : u2 = _ := hu2); exact (wor_c _ _ _ os (wordsOf p) (ho5.ext e) (OwnI.slI (h12.ext e)) hlo (wordsOf_lw p)).mono ret_any) ?_)
          | (show LA _ _ _ _ (⟨some 152, _, _, _, _, _⟩ :: _) _; show LA _ _ _ _ (⟨_, .call ⟨.value (.func 21), _, _⟩, _, _, _, _⟩ :: _) _; refine LA_call2 (f := 21) rfl rfl rfl rfl  (.any) (by intro u1 u2 w e hu1 hu2; (try obtain rfl : u1 = _ := hu1); (try obtain rfl : u2 = _ := hu2); exact (wnot_c _ _ _ (wordsOf p) os (OwnI.slI (h12.ext e)) (ho5.ext e) (wordsOf_lw p) hlo).mono ret_any) ?_)
          | (show LA _ _ _ _ (⟨_, .move _, _, _, _, _⟩ :: _) _; first
              | refine LA_moveV rfl rfl ?_
              | refine LA_moveP rfl rfl ?_
              | refine LA_moveT rfl rfl ?_
              | refine LA_moveU rfl rfl ?_)
          | (show LA _ _ _ _ (⟨_, .assign _, _, _, _, _⟩ :: _) _; first
              | refine LA_assignV rfl rfl ?_
              | refine LA_assignP rfl rfl ?_
              | refine LA_assignT rfl rfl ?_)
          | (show LA _ _ _ _ (⟨_, .pick _ _ _, _, _, _, _⟩ :: _) _; first
              | refine LA_pickTV rfl rfl rfl ?_
              | refine LA_pickFV rfl rfl rfl ?_)
          | (show LA _ _ _ _ (⟨_, .unOp .not _ _, _, _, _, _⟩ :: _) _; first
              | refine LA_notT rfl rfl ?_
              | refine LA_notF rfl rfl ?_
              | refine LA_not rfl rfl ?_)
          | (show LA _ _ _ _ (⟨_, .extract _ _, _, _, _, _⟩ :: _) _; first
              | refine LA_ext0 rfl rfl ?_
              | refine LA_ext1 rfl rfl ?_
              | refine LA_ext30 rfl rfl ?_
              | refine LA_ext31 rfl rfl ?_
              | refine LA_ext32 rfl rfl ?_)
          | (show LA _ _ _ _ (⟨_, .binOp .add _ _ _ _, _, _, _, _⟩ :: _) _; first
              | refine LA_addF rfl rfl rfl (by dsimp only [fits]; omega) ?_
              | refine LA_addW rfl rfl rfl ?_)
          | (show LA _ _ _ _ (⟨_, .binOp .sub _ _ _ _, _, _, _, _⟩ :: _) _; first
              | refine LA_subF rfl rfl rfl (by dsimp only [fits]; omega) ?_
              | refine LA_subW rfl rfl rfl ?_)
          | (show LA _ _ _ _ (⟨_, .binOp .mul _ _ _ _, _, _, _, _⟩ :: _) _; first
              | refine LA_mulF rfl rfl rfl (by dsimp only [fits]; omega) ?_
              | refine LA_mulW rfl rfl rfl ?_)
          | (show LA _ _ _ _ (⟨_, .binOp .quo _ _ _ _, _, _, _, _⟩ :: _) _; first
              | refine LA_quo rfl rfl rfl (by omega) (by omega) (by dsimp only [fits]; omega) ?_)
          | (show LA _ _ _ _ (⟨_, .binOp .rem _ _ _ _, _, _, _, _⟩ :: _) _; first
              | refine LA_rem rfl rfl rfl (by omega) (by omega) (by dsimp only [fits]; omega) ?_)
          | (show LA _ _ _ _ (⟨_, .binOp .shr _ _ _ _, _, _, _, _⟩ :: _) _; first
              | (refine LA_shr rfl rfl rfl (by omega) (by dsimp only [IntKind.bits]; omega) ?_; try dsimp only [Int.reduceToNat, Int.reducePow]))
          | (show LA _ _ _ _ (⟨_, .binOp .shl _ _ _ _, _, _, _, _⟩ :: _) _; first
              | (refine LA_shl rfl rfl rfl (by omega) (by dsimp only [IntKind.bits]; omega) ?_; try dsimp only [Int.reduceToNat, Int.reducePow]))
          | (show LA _ _ _ _ (⟨_, .binOp _ _ _ _ _, _, _, _, _⟩ :: _) _; first
              | refine LA_cmpT rfl rfl rfl rfl (by first | (dsimp only [cmpP]; done) | (dsimp only [cmpP]; omega)) ?_
              | refine LA_cmpF rfl rfl rfl rfl (by dsimp only [cmpP]; omega) ?_
              | (refine LA_cmp rfl rfl rfl rfl (fun hc => ?_) (fun hc => ?_) <;> dsimp only [cmpP] at hc)
              | refine LA_boolEqT rfl rfl rfl rfl (by first | rfl | assumption) ?_
              | refine LA_boolEqF rfl rfl rfl rfl (by first | assumption | decide) ?_
              | refine LA_boolEq rfl rfl rfl rfl ?_
              | refine LA_boolNeT rfl rfl rfl rfl (by first | assumption | decide) ?_
              | refine LA_boolNeF rfl rfl rfl rfl (by first | rfl | assumption) ?_
              | refine LA_boolNe rfl rfl rfl rfl ?_)
          | (show LA _ _ _ _ (⟨_, .indexAddr _ _ _, _, _, _, _⟩ :: _) _; first
              | refine LA_indexN rfl _ rfl (fun _ => rfl) rfl (by first | exact HasI.val (by assumption) | exact HasI.pred | exact HasI.own | exact HasI.ownV (by assumption)) rfl (by omega) ?_
              | (refine LA_index rfl _ rfl (fun _ => rfl) rfl (by first | exact HasI.val (by assumption) | exact HasI.pred | exact HasI.own | exact HasI.ownV (by assumption)) rfl (by omega) (by omega) ?_; try dsimp only [Int.reduceToNat]))
          | (show LA _ _ _ _ (⟨_, .load _ _, _, _, _, _⟩ :: _) _; first
              | refine LA_load rfl (fun _ => rfl) rfl ?_)
          | (show LA _ _ _ _ (⟨_, .convert _ _ _, _, _, _, _⟩ :: _) _; first
              | refine LA_convF rfl rfl rfl rfl (by dsimp only [fits]; omega) ?_
              | refine LA_conv rfl rfl rfl rfl ?_)
          | (show LA _ _ _ _ (⟨_, .slice _ _ _ _ _, _, _, _, _⟩ :: _) _; first
              | (refine LA_sliceL rfl _ rfl rfl (by first | exact (HasI.val (by assumption)).c | exact HasI.pred.c | exact HasC.val (by assumption) | exact HasC.pred | exact HasI.own.c | exact HasC.own | exact (HasI.ownV (by assumption)).c | exact HasC.ownV (by assumption)) rfl (by omega) (by omega) (by exact fun _ => rfl) ?_; try dsimp only [Int.reduceToNat, Int.toNat_natCast])
              | (refine LA_sliceH rfl _ rfl rfl (by first | exact (HasI.val (by assumption)).c | exact HasI.pred.c | exact HasC.val (by assumption) | exact HasC.pred | exact HasI.own.c | exact HasC.own | exact (HasI.ownV (by assumption)).c | exact HasC.ownV (by assumption)) rfl (by omega) (by omega) (by exact fun _ => rfl) ?_; try dsimp only [Int.reduceToNat, Int.toNat_natCast])
              | (refine LA_sliceLH rfl _ rfl rfl (by first | exact (HasI.val (by assumption)).c | exact HasI.pred.c | exact HasC.val (by assumption) | exact HasC.pred | exact HasI.own.c | exact HasC.own | exact (HasI.ownV (by assumption)).c | exact HasC.ownV (by assumption)) rfl rfl (by omega) (by omega) (by omega) (by exact fun _ => rfl) ?_; try dsimp only [Int.reduceToNat, Int.toNat_natCast]))
          | (show LA _ _ _ _ (⟨_, .call ⟨.builtin .len, _, _⟩, _, _, _, _⟩ :: _) _; first
              | refine LA_len rfl _ rfl rfl (by first | exact (HasI.val (by assumption)).c | exact HasI.pred.c | exact HasC.val (by assumption) | exact HasC.pred | exact HasI.own.c | exact HasC.own | exact (HasI.ownV (by assumption)).c | exact HasC.ownV (by assumption)) ?_)
          | (show LA _ _ _ _ (⟨_, .call ⟨.value _, _, _⟩, _, _, _, _⟩ :: _) _; first
              | (show LA _ _ _ _ (⟨_, .call ⟨.value (.func 26), _, _⟩, _, _, _, _⟩ :: _) _; refine LA_call1 (f := 26) rfl rfl rfl  (.pred (ownI w5.heap.size 30 .u16 (listS p 65536))) (by intro u1 w e hu1; (try obtain rfl : u1 = _ := hu1); exact (mlist_c _ _ _ _ (hmk.ext e)).mono (ret_base e.size)) ?_)
              | (show LA _ _ _ _ (⟨_, .call ⟨.value (.func 25), _, _⟩, _, _, _, _⟩ :: _) _; refine LA_call1 (f := 25) rfl rfl rfl  (.pred (ownI w5.heap.size 43 .u64 (wordsOf p))) (by intro u1 w e hu1; (try obtain rfl : u1 = _ := hu1); exact (rwords_c _ _ _ _ (hmk.ext e)).mono (ret_base e.size)) ?_)
              | (show LA _ _ _ _ (⟨_, .call ⟨.value (.func 12), _, _⟩, _, _, _, _⟩ :: _) _; refine LA_call2 (f := 12) rfl rfl rfl rfl  (.val (.bool true)) (by intro u1 u2 w e hu1 hu2; (try obtain rfl : u1 = _ := hu1); (try obtain rfl : u2 = _ := hu2); exact ret_true (wsame_c _ _ _ (wordsOf p) (wordsOf p) (OwnI.slI (h12.ext e)) (OwnI.slI hu2)) (decide_eq_true rfl)) ?_)
              | (show LA _ _ _ _ (⟨_, .call ⟨.value (.func 9), _, _⟩, _, _, _, _⟩ :: _) _; refine LA_call0 (f := 9) rfl rfl  (.val (.bool true)) (by intro w e; exact known_c _ (hT5.ext e)) ?_))
          | (refine LA_nil (hK [] _ (LX_nil ?_)); clear hK K)
          | (refine LA_nil (hK _ ?_); clear hK K))
        | (show CX _ _ _ _ _ _; first
          | refine CX_seq ?_
          | refine CX_skip ?_
          | refine CX_block ?_
          | refine CX_exit ?_
          | refine CX_ret ?_
          | refine CX_condT rfl ?_
          | refine CX_condF rfl ?_
          | refine CX_region (by kernel_rfl) (fun K hK => ?_)
          | refine CX_regionA (by kernel_rfl) (by kernel_rfl) (fun K hK => ?_)
          | refine CX_label ?_
          | refine CX_scope ?_)
        | (show PX _ _ _ _ _; first
          | refine PX_then ?_
          | refine PX_thenX ?_
          | refine PX_thenR ?_
          | refine PX_blockN ?_
          | refine PX_blockR ?_
          | refine PX_blockX ?_
          | refine PX_blockO (by decide) ?_
          | refine PX_scopeN ?_
          | refine PX_scopeR ?_
          | refine PX_scopeX ?_
          | exact PX_retE rfl rfl x5 rfl)
        | (show LX _ _ _ _ _ _ _; first
          | refine LX_nil ?_))
      all_goals skip
    · have gsel : Hid (selP p k = (0, false)) := ⟨by unfold selP; rw [if_neg (by have := gL.out; omega)]⟩
      repeat' (first
        | (show LA _ _ _ _ _ _; first
          | refine LA_pass rfl ?_
          | refine LA_lit0 30 (s := 1) rfl (fun _ => by kernel_rfl) ?_
          | (show LA _ _ _ _ (⟨some 27, _, _, _, _, _⟩ :: _) _; refine LA_stop (hK _ _ (LX_pick 26 rfl (fun v26 w1 e1 h26 => ?_))); clear hK K; have ho26 : Own w.heap.size 30 1 w1 v26 0 [] := h26; clear h26; have ha1 := ha.ext e1; refine LX_la (by kernel_rfl) (fun K hK => ?_))
          | (show LA _ _ _ _ (⟨some 28, _, _, _, _, _⟩ :: _) _; refine LA_stop (hK _ _ (LX_append rfl (by decide) el_u16 rfl ho26 rfl (HasI.val ha1).c ints_one (by rw [Nat.zero_add]; unfold maxLen; omega) (by omega) e1.size (fun v28 w2 w3 e2 ho3 hg3 => ?_))); clear hK K; have hin : OwnI w.heap.size 30 .u16 w3 v28 xs := (by unfold OwnI; simpa using ho3); have x3 : Ext w w3 := (e1.trans e2).grown hg3 (fun q hq => (Own.lt ho26 q hq).1); have ha3 := ha.ext x3; have ho3' := ho.ext x3; have hT3 := hT.ext x3; clear ho3 hg3 ho26 e1 e2; dsimp only [vals]; refine LX_la (by kernel_rfl) (fun K hK => ?_))
          | (show LA _ _ _ _ (⟨some 30, _, _, _, _, _⟩ :: _) _; show LA _ _ _ _ (⟨_, .call ⟨.value (.func 10), _, _⟩, _, _, _, _⟩ :: _) _; refine LA_call1 (f := 10) rfl rfl rfl  (.pred (ownI w3.heap.size 43 .u64 (wordsOf p))) (by intro u1 w e hu1; (try obtain rfl : u1 = _ := hu1); exact hp ▸ (wof_c _ _ xs (OwnI.slI (hin.ext e)) hl).mono (ret_base e.size)) ?_)
          | (show LA _ _ _ _ (⟨some 32, _, _, _, _, _⟩ :: _) _; show LA _ _ _ _ (⟨_, .call ⟨.value (.func 19), _, _⟩, _, _, _, _⟩ :: _) _; refine LA_call1 (f := 19) rfl rfl rfl  (.pred (mkI w3.heap.size tM p)) (by intro u1 w e hu1; (try obtain rfl : u1 = _ := hu1); exact hp ▸ (mof_c _ _ xs (ha3.ext e) hl).mono (ret_mk e.size)) ?_)
          | (show LA _ _ _ _ (⟨some 33, _, _, _, _, _⟩ :: _) _; refine LA_stop (hK _ _ (LX_pick 13 rfl (fun v13 w4 e4 h13 => LX_pick 12 rfl (fun v12 w5 e5 h12 => ?_)))); clear hK K; obtain ⟨bm, rfl, hbm, hbm'⟩ := MkI.ext h13 e5; have hmk : MkI w3.heap.size tM w5 (.pointer (some ⟨bm, 0, none⟩)) p := ⟨bm, rfl, hbm, hbm'⟩; have h12 : OwnI w3.heap.size 43 .u64 w5 v12 (wordsOf p) := h12; have y5 := e4.trans e5; have x5 := x3.trans y5; have hin5 := hin.ext y5; have ha5 := ha3.ext y5; have ho5 := ho3'.ext y5; have hT5 := hT3.ext y5; clear h13 e4 e5 ha3 ho3' hT3 x3 hin y5; refine LX_la (by kernel_rfl) (fun K hK => ?_))
          | (show LA _ _ _ _ (⟨some 42, _, _, _, _, _⟩ :: _) _; show LA _ _ _ _ (⟨_, .call ⟨.value (.func 11), _, _⟩, _, _, _, _⟩ :: _) _; refine LA_call1 (f := 11) rfl rfl rfl  (.pred (ownI w5.heap.size 30 .u16 (listS p 65536))) (by intro u1 w e hu1; (try obtain rfl : u1 = _ := hu1); exact (wlistP _ _ p (OwnI.slI (h12.ext e)) (hT5.ext e)).mono (ret_base e.size)) ?_)
          | (show LA _ _ _ _ (⟨some 44, _, _, _, _, _⟩ :: _) _; refine LA_call2 (f := 27) rfl rfl rfl rfl (.val (.bool true)) (by intro u1 u2 w e hu1 hu2; exact ret_true (same_c _ _ _ (listS p 65536) (listS p 65536) (OwnI.slI hu1) (OwnI.slI hu2)) (decide_eq_true rfl)) ?_)
          | (show LA _ _ _ _ (⟨some 49, _, _, _, _, _⟩ :: _) _; show LA _ _ _ _ (⟨_, .call ⟨.value (.func 14), _, _⟩, _, _, _, _⟩ :: _) _; refine LA_call1 (f := 14) rfl rfl rfl  (.val (.int .i64 L)) (by intro u1 w e hu1; (try obtain rfl : u1 = _ := hu1); exact ret_eq (by rw [gL.out]) (wlenP _ _ p (OwnI.slI (h12.ext e)))) ?_)
          | (show LA _ _ _ _ (⟨some 51, _, _, _, _, _⟩ :: _) _; refine LA_len rfl _ rfl rfl (by first | exact (HasI.val (by assumption)).c | exact HasI.pred.c | exact HasC.val (by assumption) | exact HasC.pred | exact HasI.own.c | exact HasC.own | exact (HasI.ownV (by assumption)).c | exact HasC.ownV (by assumption)) ?_; rw [gll.out])
          | (show LA _ _ _ _ (⟨some 99, _, _, _, _, _⟩ :: _) _; refine LA_len rfl _ rfl rfl (by first | exact (HasI.val (by assumption)).c | exact HasI.pred.c | exact HasC.val (by assumption) | exact HasC.pred | exact HasI.own.c | exact HasC.own | exact (HasI.ownV (by assumption)).c | exact HasC.ownV (by assumption)) ?_; rw [gll.out])
          | (show LA _ _ _ _ (⟨some 57, _, _, _, _, _⟩ :: _) _; show LA _ _ _ _ (⟨_, .call ⟨.value (.func 17), _, _⟩, _, _, _, _⟩ :: _) _; refine LA_call2 (f := 17) rfl rfl rfl rfl  (.val (.bool (p X))) (by intro u1 u2 w e hu1 hu2; (try obtain rfl : u1 = _ := hu1); (try obtain rfl : u2 = _ := hu2); exact whasP _ _ p (OwnI.slI (h12.ext e)) X hX) ?_)
          | refine LA_nilCheck rfl rfl ?_
          | (show LA _ _ _ _ (⟨some 61, _, _, _, _, _⟩ :: _) _; refine LA_indexArr (n := 65536) (s := 1) rfl rfl (fun _ => rfl) rfl rfl X rfl hX ?_)
          | (show LA _ _ _ _ (⟨some 62, _, _, _, _, _⟩ :: _) _; refine LA_loadB rfl (fun _ => rfl) rfl hbm' gpX.out ?_)
          | (show LA _ _ _ _ (⟨some 63, _, _, _, _, _⟩ :: _) _; refine LA_boolNeF rfl rfl rfl rfl rfl ?_)
          | (show LA _ _ _ _ (⟨some 68, _, _, _, _, _⟩ :: _) _; show LA _ _ _ _ (⟨_, .call ⟨.value (.func 16), _, _⟩, _, _, _, _⟩ :: _) _; refine LA_call2 (f := 16) rfl rfl rfl rfl  (.val (.int .i64 R)) (by intro u1 u2 w e hu1 hu2; (try obtain rfl : u1 = _ := hu1); (try obtain rfl : u2 = _ := hu2); exact ret_eq (by rw [gR2.out]) (wrankP _ _ p (OwnI.slI (h12.ext e)) pl hpl)) ?_)
          | (show LA _ _ _ _ (⟨some 71, _, _, _, _, _⟩ :: _) _; show LA _ _ _ _ (⟨_, .call ⟨.value (.func 28), _, _⟩, _, _, _, _⟩ :: _) _; refine LA_call2 (f := 28) rfl rfl rfl rfl  (.val (.int .i64 R)) (by intro u1 u2 w e hu1 hu2; (try obtain rfl : u1 = _ := hu1); (try obtain rfl : u2 = _ := hu2); exact ret_eq (by rw [gR.out]) (mbelow_c _ _ _ p pl (hmk.ext e))) ?_)
          | (show LA _ _ _ _ (⟨some 76, _, _, _, _, _⟩ :: _) _; show LA _ _ _ _ (⟨_, .call ⟨.value (.func 29), _, _⟩, _, _, _, _⟩ :: _) _; refine LA_call1 (f := 29) rfl rfl rfl  (.val (.int .i64 U)) (by intro u1 w e hu1; (try obtain rfl : u1 = _ := hu1); exact ret_eq (by rw [gU.out]) (wrunsP _ _ p (OwnI.slI (h12.ext e)))) ?_)
          | (show LA _ _ _ _ (⟨some 78, _, _, _, _, _⟩ :: _) _; show LA _ _ _ _ (⟨_, .call ⟨.value (.func 30), _, _⟩, _, _, _, _⟩ :: _) _; refine LA_call1 (f := 30) rfl rfl rfl  (.val (.int .i64 U)) (by intro u1 w e hu1; (try obtain rfl : u1 = _ := hu1); exact ret_eq (by rw [gU.out]) (mruns_c _ _ _ p (hmk.ext e))) ?_)
          | (show LA _ _ _ _ (⟨some 84, _, _, _, _, _⟩ :: _) _; refine LA_call2 (f := 27) rfl rfl rfl rfl (.val (.bool true)) (by intro u1 u2 w e hu1 hu2; (try obtain rfl : u1 = _ := hu1); (try obtain rfl : u2 = _ := hu2); exact ret_true (same_c _ _ _ xs xs (OwnI.slI (hin5.ext e)) (ha5.ext e)) (decide_eq_true rfl)) ?_)
          | (show LA _ _ _ _ (⟨some 90, _, _, _, _, _⟩ :: _) _; show LA _ _ _ _ (⟨_, .call ⟨.value (.func 15), _, _⟩, _, _, _, _⟩ :: _) _; refine LA_call2 (f := 15) rfl rfl rfl rfl  (.tup2 (.val (.int .u16 _)) (.val (.bool _))) (by intro u1 u2 w e hu1 hu2; (try obtain rfl : u1 = _ := hu1); (try obtain rfl : u2 = _ := hu2); exact ret_tup2 (by rw [gsel.out]) (by rw [gsel.out]) (wselP _ _ p (OwnI.slI (h12.ext e)) (hT5.ext e) _ hk)) ?_)
          | (show LA _ _ _ _ (⟨some 109, _, _, _, _, _⟩ :: _) _; refine LA_indexN rfl _ rfl (fun _ => rfl) rfl (by first | exact HasI.val (by assumption) | exact HasI.pred | exact HasI.own | exact HasI.ownV (by assumption)) rfl (by rw [gll.out]; omega) ?_)
          | (show LA _ _ _ _ (⟨some 102, _, _, _, _, _⟩ :: _) _; refine LA_boolNeF rfl rfl rfl rfl rfl ?_)
          | (show LA _ _ _ _ (⟨some 123, _, _, _, _, _⟩ :: _) _; show LA _ _ _ _ (⟨_, .call ⟨.value (.func 11), _, _⟩, _, _, _, _⟩ :: _) _; refine LA_call1 (f := 11) rfl rfl rfl  (.any) (by intro u1 w e hu1; (try obtain rfl : u1 = _ := hu1); exact (wlist_c _ _ os (ho5.ext e) hlo (hT5.ext e)).mono ret_any) ?_)
          | (show LA _ _ _ _ (⟨some 125, _, _, _, _, _⟩ :: _) _; show LA _ _ _ _ (⟨_, .call ⟨.value (.func 14), _, _⟩, _, _, _, _⟩ :: _) _; refine LA_call1 (f := 14) rfl rfl rfl  (.any) (by intro u1 w e hu1; (try obtain rfl : u1 = _ := hu1); exact (wlen_c _ _ os (ho5.ext e) hlo (by omega)).mono ret_any) ?_)
          | (show LA _ _ _ _ (⟨some 128, _, _, _, _, _⟩ :: _) _; show LA _ _ _ _ (⟨_, .call ⟨.value (.func 17), _, _⟩, _, _, _, _⟩ :: _) _; refine LA_call2 (f := 17) rfl rfl rfl rfl  (.any) (by intro u1 u2 w e hu1 hu2; (try obtain rfl : u1 = _ := hu1); (try obtain rfl : u2 = _ := hu2); exact (whas_c _ _ os X (ho5.ext e) hlo hX).mono ret_any) ?_)
          | (show LA _ _ _ _ (⟨some 131, _, _, _, _, _⟩ :: _) _; show LA _ _ _ _ (⟨_, .call ⟨.value (.func 16), _, _⟩, _, _, _, _⟩ :: _) _; refine LA_call2 (f := 16) rfl rfl rfl rfl  (.any) (by intro u1 u2 w e hu1 hu2; (try obtain rfl : u1 = _ := hu1); (try obtain rfl : u2 = _ := hu2); exact (wrank_c _ _ os pl (ho5.ext e) hlo (by omega) hpl).mono ret_any) ?_)
          | (show LA _ _ _ _ (⟨some 134, _, _, _, _, _⟩ :: _) _; show LA _ _ _ _ (⟨_, .call ⟨.value (.func 15), _, _⟩, _, _, _, _⟩ :: _) _; refine LA_call2 (f := 15) rfl rfl rfl rfl  (.any) (by intro u1 u2 w e hu1 hu2; (try obtain rfl : u1 = _ := hu1); (try obtain rfl : u2 = _ := hu2); exact (wsel_c _ _ os _ (ho5.ext e) hlo (hT5.ext e) hk).mono ret_any) ?_)
          | (show LA _ _ _ _ (⟨some 136, _, _, _, _, _⟩ :: _) _; show LA _ _ _ _ (⟨_, .call ⟨.value (.func 29), _, _⟩, _, _, _, _⟩ :: _) _; refine LA_call1 (f := 29) rfl rfl rfl  (.any) (by intro u1 w e hu1; (try obtain rfl : u1 = _ := hu1); exact (wruns_c _ _ os (ho5.ext e) hlo (by omega)).mono ret_any) ?_)
          | (show LA _ _ _ _ (⟨some 140, _, _, _, _, _⟩ :: _) _; show LA _ _ _ _ (⟨_, .call ⟨.value (.func 13), _, _⟩, _, _, _, _⟩ :: _) _; refine LA_call3 (f := 13) rfl rfl rfl rfl rfl  (.any) (by intro u1 u2 u3 w e hu1 hu2 hu3; (try obtain rfl : u1 = _ := hu1); (try obtain rfl : u2 = _ := hu2); (try obtain rfl : u3 = _ := hu3); exact (wflip_c _ _ os pl _ (ho5.ext e) hlo hpl hk).mono ret_any) ?_)
          | (show LA _ _ _ _ (⟨some 143, _, _, _, _, _⟩ :: _) _; show LA _ _ _ _ (⟨_, .call ⟨.value (.func 18), _, _⟩, _, _, _, _⟩ :: _) _; refine LA_call2 (f := 18) rfl rfl rfl rfl  (.any) (by intro u1 u2 w e hu1 hu2; (try obtain rfl : u1 = _ := hu1); (try obtain rfl : u2 = _ := hu2); exact (wand_c _ _ _ os (wordsOf p) (ho5.ext e) (OwnI.slI (h12.ext e)) hlo (wordsOf_lw p)).mono ret_any) ?_)
          | (show LA _ _ _ _ (⟨some 146, _, _, _, _, _⟩ :: _) _; show LA _ _ _ _ (⟨_, .call ⟨.value (.func 22), _, _⟩, _, _, _, _⟩ :: _) _; refine LA_call2 (f := 22) rfl rfl rfl rfl  (.any) (by intro u1 u2 w e hu1 hu2; (try obtain rfl : u1 = _ := hu1); (try obtain rfl : u2 = _ := hu2); exact (wxor_c _ _ _ (wordsOf p) os (OwnI.slI (h12.ext e)) (ho5.ext e) (wordsOf_lw p) hlo).mono ret_any) ?_)
          | (show LA _ _ _ _ (⟨some 149, _, _, _, _, _⟩ :: _) _; show LA _ _ _ _ (⟨_, .call ⟨.value (.func 20), _, _⟩, _, _, _, _⟩ :: _) _; refine LA_call2 (f := 20) rfl rfl rfl rfl  (.any) (by intro u1 u2 w e hu1 hu2; (try obtain rfl : u1 = _ := hu1); (try obtain rfl : u2 = _ := hu2); exact (wor_c _ _ _ os (wordsOf p) (ho5.ext e) (OwnI.slI (h12.ext e)) hlo (wordsOf_lw p)).mono ret_any) ?_)
          | (show LA _ _ _ _ (⟨some 152, _, _, _, _, _⟩ :: _) _; show LA _ _ _ _ (⟨_, .call ⟨.value (.func 21), _, _⟩, _, _, _, _⟩ :: _) _; refine LA_call2 (f := 21) rfl rfl rfl rfl  (.any) (by intro u1 u2 w e hu1 hu2; (try obtain rfl : u1 = _ := hu1); (try obtain rfl : u2 = _ := hu2); exact (wnot_c _ _ _ (wordsOf p) os (OwnI.slI (h12.ext e)) (ho5.ext e) (wordsOf_lw p) hlo).mono ret_any) ?_)
          | (show LA _ _ _ _ (⟨_, .move _, _, _, _, _⟩ :: _) _; first
              | refine LA_moveV rfl rfl ?_
              | refine LA_moveP rfl rfl ?_
              | refine LA_moveT rfl rfl ?_
              | refine LA_moveU rfl rfl ?_)
          | (show LA _ _ _ _ (⟨_, .assign _, _, _, _, _⟩ :: _) _; first
              | refine LA_assignV rfl rfl ?_
              | refine LA_assignP rfl rfl ?_
              | refine LA_assignT rfl rfl ?_)
          | (show LA _ _ _ _ (⟨_, .pick _ _ _, _, _, _, _⟩ :: _) _; first
              | refine LA_pickTV rfl rfl rfl ?_
              | refine LA_pickFV rfl rfl rfl ?_)
          | (show LA _ _ _ _ (⟨_, .unOp .not _ _, _, _, _, _⟩ :: _) _; first
              | refine LA_notT rfl rfl ?_
              | refine LA_notF rfl rfl ?_
              | refine LA_not rfl rfl ?_)
          | (show LA _ _ _ _ (⟨_, .extract _ _, _, _, _, _⟩ :: _) _; first
              | refine LA_ext0 rfl rfl ?_
              | refine LA_ext1 rfl rfl ?_
              | refine LA_ext30 rfl rfl ?_
              | refine LA_ext31 rfl rfl ?_
              | refine LA_ext32 rfl rfl ?_)
          | (show LA _ _ _ _ (⟨_, .binOp .add _ _ _ _, _, _, _, _⟩ :: _) _; first
              | refine LA_addF rfl rfl rfl (by dsimp only [fits]; omega) ?_
              | refine LA_addW rfl rfl rfl ?_)
          | (show LA _ _ _ _ (⟨_, .binOp .sub _ _ _ _, _, _, _, _⟩ :: _) _; first
              | refine LA_subF rfl rfl rfl (by dsimp only [fits]; omega) ?_
              | refine LA_subW rfl rfl rfl ?_)
          | (show LA _ _ _ _ (⟨_, .binOp .mul _ _ _ _, _, _, _, _⟩ :: _) _; first
              | refine LA_mulF rfl rfl rfl (by dsimp only [fits]; omega) ?_
              | refine LA_mulW rfl rfl rfl ?_)
          | (show LA _ _ _ _ (⟨_, .binOp .quo _ _ _ _, _, _, _, _⟩ :: _) _; first
              | refine LA_quo rfl rfl rfl (by omega) (by omega) (by dsimp only [fits]; omega) ?_)
          | (show LA _ _ _ _ (⟨_, .binOp .rem _ _ _ _, _, _, _, _⟩ :: _) _; first
              | refine LA_rem rfl rfl rfl (by omega) (by omega) (by dsimp only [fits]; omega) ?_)
          | (show LA _ _ _ _ (⟨_, .binOp .shr _ _ _ _, _, _, _, _⟩ :: _) _; first
              | (refine LA_shr rfl rfl rfl (by omega) (by dsimp only [IntKind.bits]; omega) ?_; try dsimp only [Int.reduceToNat, Int.reducePow]))
          | (show LA _ _ _ _ (⟨_, .binOp .shl _ _ _ _, _, _, _, _⟩ :: _) _; first
              | (refine LA_shl rfl rfl rfl (by omega) (by dsimp only [IntKind.bits]; omega) ?_; try dsimp only [Int.reduceToNat, Int.reducePow]))
          | (show LA _ _ _ _ (⟨_, .binOp _ _ _ _ _, _, _, _, _⟩ :: _) _; first
              | refine LA_cmpT rfl rfl rfl rfl (by first | (dsimp only [cmpP]; done) | (dsimp only [cmpP]; omega)) ?_
              | refine LA_cmpF rfl rfl rfl rfl (by dsimp only [cmpP]; omega) ?_
              | (refine LA_cmp rfl rfl rfl rfl (fun hc => ?_) (fun hc => ?_) <;> dsimp only [cmpP] at hc)
              | refine LA_boolEqT rfl rfl rfl rfl (by first | rfl | assumption) ?_
              | refine LA_boolEqF rfl rfl rfl rfl (by first | assumption | decide) ?_
              | refine LA_boolEq rfl rfl rfl rfl ?_
              | refine LA_boolNeT rfl rfl rfl rfl (by first | assumption | decide) ?_
              | refine LA_boolNeF rfl rfl rfl rfl (by first | rfl | assumption) ?_
              | refine LA_boolNe rfl rfl rfl rfl ?_)
          | (show LA _ _ _ _ (⟨_, .indexAddr _ _ _, _, _, _, _⟩ :: _) _; first
              | refine LA_indexN rfl _ rfl (fun _ => rfl) rfl (by first | exact HasI.val (by assumption) | exact HasI.pred | exact HasI.own | exact HasI.ownV (by assumption)) rfl (by omega) ?_
              | (refine LA_index rfl _ rfl (fun _ => rfl) rfl (by first | exact HasI.val (by assumption) | exact HasI.pred | exact HasI.own | exact HasI.ownV (by assumption)) rfl (by omega) (by omega) ?_; try dsimp only [Int.reduceToNat]))
          | (show LA _ _ _ _ (⟨_, .load _ _, _, _, _, _⟩ :: _) _; first
              | refine LA_load rfl (fun _ => rfl) rfl ?_)
          | (show LA _ _ _ _ (⟨_, .convert _ _ _, _, _, _, _⟩ :: _) _; first
              | refine LA_convF rfl rfl rfl rfl (by dsimp only [fits]; omega) ?_
              | refine LA_conv rfl rfl rfl rfl ?_)
          | (show LA _ _ _ _ (⟨_, .slice _ _ _ _ _, _, _, _, _⟩ :: _) _; first
              | (refine LA_sliceL rfl _ rfl rfl (by first | exact (HasI.val (by assumption)).c | exact HasI.pred.c | exact HasC.val (by assumption) | exact HasC.pred | exact HasI.own.c | exact HasC.own | exact (HasI.ownV (by assumption)).c | exact HasC.ownV (by assumption)) rfl (by omega) (by omega) (by exact fun _ => rfl) ?_; try dsimp only [Int.reduceToNat, Int.toNat_natCast])
              | (refine LA_sliceH rfl _ rfl rfl (by first | exact (HasI.val (by assumption)).c | exact HasI.pred.c | exact HasC.val (by assumption) | exact HasC.pred | exact HasI.own.c | exact HasC.own | exact (HasI.ownV (by assumption)).c | exact HasC.ownV (by assumption)) rfl (by omega) (by omega) (by exact fun _ => rfl) ?_; try dsimp only [Int.reduceToNat, Int.toNat_natCast])
              | (refine LA_sliceLH rfl _ rfl rfl (by first | exact (HasI.val (by assumption)).c | exact HasI.pred.c | exact HasC.val (by assumption) | exact HasC.pred | exact HasI.own.c | exact HasC.own | exact (HasI.ownV (by assumption)).c | exact HasC.ownV (by assumption)) rfl rfl (by omega) (by omega) (by omega) (by exact fun _ => rfl) ?_; try dsimp only [Int.reduceToNat, Int.toNat_natCast]))
          | (show LA _ _ _ _ (⟨_, .call ⟨.builtin .len, _, _⟩, _, _, _, _⟩ :: _) _; first
              | refine LA_len rfl _ rfl rfl (by first | exact (HasI.val (by assumption)).c | exact HasI.pred.c | exact HasC.val (by assumption) | exact HasC.pred | exact HasI.own.c | exact HasC.own | exact (HasI.ownV (by assumption)).c | exact HasC.ownV (by assumption)) ?_)
          | (show LA _ _ _ _ (⟨_, .call ⟨.value _, _, _⟩, _, _, _, _⟩ :: _) _; first
              | (show LA _ _ _ _ (⟨_, .call ⟨.value (.func 26), _, _⟩, _, _, _, _⟩ :: _) _; refine LA_call1 (f := 26) rfl rfl rfl  (.pred (ownI w5.heap.size 30 .u16 (listS p 65536))) (by intro u1 w e hu1; (try obtain rfl : u1 = _ := hu1); exact (mlist_c _ _ _ _ (hmk.ext e)).mono (ret_base e.size)) ?_)
              | (show LA _ _ _ _ (⟨_, .call ⟨.value (.func 25), _, _⟩, _, _, _, _⟩ :: _) _; refine LA_call1 (f := 25) rfl rfl rfl  (.pred (ownI w5.heap.size 43 .u64 (wordsOf p))) (by intro u1 w e hu1; (try obtain rfl : u1 = _ := hu1); exact (rwords_c _ _ _ _ (hmk.ext e)).mono (ret_base e.size)) ?_)
              | (show LA _ _ _ _ (⟨_, .call ⟨.value (.func 12), _, _⟩, _, _, _, _⟩ :: _) _; refine LA_call2 (f := 12) rfl rfl rfl rfl  (.val (.bool true)) (by intro u1 u2 w e hu1 hu2; (try obtain rfl : u1 = _ := hu1); (try obtain rfl : u2 = _ := hu2); exact ret_true (wsame_c _ _ _ (wordsOf p) (wordsOf p) (OwnI.slI (h12.ext e)) (OwnI.slI hu2)) (decide_eq_true rfl)) ?_)
              | (show LA _ _ _ _ (⟨_, .call ⟨.value (.func 9), _, _⟩, _, _, _, _⟩ :: _) _; refine LA_call0 (f := 9) rfl rfl  (.val (.bool true)) (by intro w e; exact known_c _ (hT5.ext e)) ?_))
          | (refine LA_nil (hK [] _ (LX_nil ?_)); clear hK K)
          | (refine LA_nil (hK _ ?_); clear hK K))
        | (show CX _ _ _ _ _ _; first
          | refine CX_seq ?_
          | refine CX_skip ?_
          | refine CX_block ?_
          | refine CX_exit ?_
          | refine CX_ret ?_
          | refine CX_condT rfl ?_
          | refine CX_condF rfl ?_
          | refine CX_region (by kernel_rfl) (fun K hK => ?_)
          | refine CX_regionA (by kernel_rfl) (by kernel_rfl) (fun K hK => ?_)
          | refine CX_label ?_
          | refine CX_scope ?_)
        | (show PX _ _ _ _ _; first
          | refine PX_then ?_
          | refine PX_thenX ?_
          | refine PX_thenR ?_
          | refine PX_blockN ?_
          | refine PX_blockR ?_
          | refine PX_blockX ?_
          | refine PX_blockO (by decide) ?_
          | refine PX_scopeN ?_
          | refine PX_scopeR ?_
          | refine PX_scopeX ?_
          | exact PX_retE rfl rfl x5 rfl)
        | (show LX _ _ _ _ _ _ _; first
          | refine LX_nil ?_))
      all_goals skip
end Go.Proofs.YthcpljmibcacaaaDoor
