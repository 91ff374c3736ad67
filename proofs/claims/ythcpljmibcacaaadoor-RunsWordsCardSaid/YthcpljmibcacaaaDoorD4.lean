import Derived.Test.YthcpljmibcacaaaDoorD3

set_option linter.unusedSimpArgs false
set_option linter.unusedVariables false
namespace Go.Proofs.YthcpljmibcacaaaDoor
open Go.LA Go.ArrP Go.RowKit
theorem SlI.nil16 {w : World} : SlI .u16 w (.slice none 0 0) [] := ⟨rfl, none, 0, rfl, Nat.le_refl _, Nat.zero_le _, fun _ => rfl, .inl rfl⟩
theorem flip_run {rs : List Rn} (hr : Right rs) (hu : U16 rs) {k : Nat} (hk : k < rs.length) : wordsOf (flipM (inR (rs.take k)) (fst rs k) (fst rs k + mor rs k + 1)) = wordsOf (inR (rs.take (k + 1))) := wordsOf_congr fun i _ => by
  have h0 := (right_pre hr hu k (by omega)).1 i
  have h1 := (hr k hk).1
  rw [take_run hk, inR_app, inR_one]
  unfold flipM
  by_cases h2 : fst rs k ≤ (i : Int)
  · rw [h0 (by omega), decide_eq_true h2]
    by_cases h3 : (i : Int) ≤ fst rs k + mor rs k
    · rw [decide_eq_true (by omega : (i : Int) < fst rs k + mor rs k + 1), decide_eq_true h3]; rfl
    · rw [decide_eq_false (by omega : ¬ (i : Int) < fst rs k + mor rs k + 1), decide_eq_false h3]; rfl
  · rw [decide_eq_false h2]
    cases inR (rs.take k) i <;> rfl
set_option maxHeartbeats 2000000 in
theorem rwof_c (w : World) (v : Value) (rs : List Rn) (h : SlR w v rs) (hu : U16 rs) (hr : Right rs) (hn : rs.length ≤ 70000) : Fc Tryd.prog 38 #[v] w (Ret w (.pred (ownI w.heap.size 43 .u64 (wordsOf (inR rs))))) := by
  have hlen := h.len
  refine Fc.of (args := [_]) Tryd.func38 rfl rfl Tryd.ntmps38 (Nat.le_of_ble_eq_true rfl) ?_
  repeat' (first
   |(refine oLA ?_;first
   |refine LA_pass rfl ?_
   |(refine oI ?_; refine LA_indexR rfl _ rfl (fun _ => rfl) rfl (by first | exact HasR.val (by assumption) | exact HasR.own | exact HasR.ownV (by assumption)) rfl (by omega) ?_)
   |(refine oLt 71 ?_; refine LA_loadC rfl (fun _ => rfl) (fun _ => rfl) rfl ?_)
   |(show LA _ _ _ _ (⟨some 99, .alloc _, _, _, _, _⟩ :: _) _; refine LA_stop (hK _ _ (LX_var rfl rfl (by decide) (fun _ => rfl) (fun _ => rfl) (fun _ => rfl) rfl (by intro u hu; simp [Value.cells] at hu; rcases hu with rfl | rfl <;> rfl) (fun bx wx ex hbx hbc => ?_))); clear hK K; refine LX_la (by kernel_rfl) (fun K hK => ?_))
   |(refine oF 0 ?_; refine LA_fieldAddr (a := ⟨bx, 0, none⟩) (a' := ⟨bx, 0, none⟩) rfl rfl (fun _ => rfl) ?_)
   |(refine oF 1 ?_; refine LA_fieldAddr (a := ⟨bx, 0, none⟩) (a' := ⟨bx, 1, none⟩) rfl rfl (fun _ => rfl) ?_)
   |(refine oLt 71 ?_; refine LA_loadBN rfl (fun _ => rfl) (fun _ => rfl) rfl hbc ?_)
   |(refine oLt 30 ?_; refine LA_loadB rfl (fun _ => rfl) rfl hbc rfl ?_)
   |(refine oLen ?_; refine LA_lenR rfl _ rfl rfl (by first | exact HasR.val (by assumption) | exact HasR.own | exact HasR.ownV (by assumption)) ?_)|(refine oM ?_;first|refine LA_moveV rfl rfl ?_|refine LA_moveP rfl rfl ?_|refine LA_moveT rfl rfl ?_|refine LA_moveU rfl rfl ?_)|(refine oA ?_;first|refine LA_assignV rfl rfl ?_|refine LA_assignP rfl rfl ?_|refine LA_assignT rfl rfl ?_)|(refine oP ?_;first|refine LA_pickTV rfl rfl rfl ?_|refine LA_pickFV rfl rfl rfl ?_)|(refine oN ?_;first|refine LA_notT rfl rfl ?_|refine LA_notF rfl rfl ?_|refine LA_not rfl rfl ?_)|(refine oX ?_;first|refine LA_ext0 rfl rfl ?_|refine LA_ext1 rfl rfl ?_|refine LA_ext30 rfl rfl ?_|refine LA_ext31 rfl rfl ?_|refine LA_ext32 rfl rfl ?_)|(refine oB .add ?_;first|refine stAdd rfl rfl rfl ?_|refine LA_addW rfl rfl rfl ?_)|(refine oB .sub ?_;first|refine stSub rfl rfl rfl ?_|refine LA_subW rfl rfl rfl ?_)|(refine oB .mul ?_;first|refine stMul rfl rfl rfl ?_|refine LA_mulW rfl rfl rfl ?_)|(refine oB .quo ?_;refine stQuo rfl rfl rfl ?_)|(refine oB .rem ?_;refine stRem rfl rfl rfl ?_)|(refine oB .shr ?_;refine stShr rfl rfl rfl ?_;try dsimp only [Int.reduceToNat, Int.reducePow])|(refine oB .shl ?_;refine stShl rfl rfl rfl ?_;try dsimp only [Int.reduceToNat, Int.reducePow])|(refine oB _ ?_;first|refine stT rfl rfl rfl rfl ?_|refine stF rfl rfl rfl rfl ?_|(refine LA_cmp rfl rfl rfl rfl (fun hc => ?_) (fun hc => ?_)<;>dsimp only [cmpP] at hc)|refine stBET rfl rfl rfl rfl ?_|refine stBEF rfl rfl rfl rfl ?_|refine LA_boolEq rfl rfl rfl rfl ?_|refine stBNT rfl rfl rfl rfl ?_|refine stBNF rfl rfl rfl rfl ?_|refine LA_boolNe rfl rfl rfl rfl ?_)|(refine oI ?_;first|refine stIN rfl _ rfl (fun _ => rfl) rfl rfl ?_|(refine stII rfl _ rfl (fun _ => rfl) rfl rfl ?_;try dsimp only [Int.reduceToNat]))|(refine oL ?_;refine LA_load rfl (fun _ => rfl) rfl ?_)|(refine oV ?_;first|refine stCnv rfl rfl rfl rfl ?_|refine LA_conv rfl rfl rfl rfl ?_)|(refine oS ?_;first|(refine stSL rfl _ rfl rfl rfl (fun _ => rfl) ?_;try dsimp only [Int.reduceToNat, Int.toNat_natCast])|(refine stSH rfl _ rfl rfl rfl (fun _ => rfl) ?_;try dsimp only [Int.reduceToNat, Int.toNat_natCast])|(refine stSLH rfl _ rfl rfl rfl rfl (fun _ => rfl) ?_;try dsimp only [Int.reduceToNat, Int.toNat_natCast]))|(refine oLen ?_;refine stLen rfl _ rfl rfl ?_)
   |(refine oCv ?_;first
   |(refine oC 10 ?_; refine LA_call1 (f := 10) rfl rfl rfl  (.pred (ownI w.heap.size 43 .u64 (wordsOf (inR [])))) (by intro u1 w e hu1; (try obtain rfl : u1 = _ := hu1); exact (wof_c _ _ [] SlI.nil16 (fun x hx => by cases hx)).mono (ret_w e.size (wordsOf_congr fun i _ => by simp [memb, inR]))) ?_))|(refine LA_nil (hK [] _ (LX_nil ?_));clear hK K)|(refine LA_nil (hK _ ?_);clear hK K))
   |(refine oCX ?_;first
   |refine CX_seq ?_|refine CX_skip ?_|refine CX_block ?_|refine CX_exit ?_|refine CX_ret ?_|refine CX_condT rfl ?_|refine CX_condF rfl ?_|refine CX_region (by kernel_rfl) (fun K hK => ?_)|refine CX_regionA (by kernel_rfl) (by kernel_rfl) (fun K hK => ?_)|refine CX_label ?_|refine CX_scope ?_)
   |(refine oPX ?_;first
   |refine PX_then ?_|refine PX_thenX ?_|refine PX_thenR ?_|refine PX_blockN ?_|refine PX_blockR ?_|refine PX_blockX ?_|refine PX_blockO (by decide) ?_|refine PX_scopeN ?_|refine PX_scopeR ?_|refine PX_scopeX ?_)
   |(refine oLX ?_;first
   |refine LX_nil ?_))
  refine CX_pick 3 rfl (fun v3 w3 e3 h3 => ?_)
  have h3 : OwnI w.heap.size 43 .u64 w3 v3 (wordsOf (inR [])) := h3
  refine CX_loopV (ι := Nat × Value) (fun i => [(3, .val i.2), (7, .val v), (8, .val (.int .i64 rs.length)), (9, .val (.int .i64 i.1))]) (fun i w' => Ext w w' ∧ i.1 ≤ rs.length ∧ OwnI w.heap.size 43 .u64 w' i.2 (wordsOf (inR (rs.take i.1)))) (fun i => rs.length - i.1)
    (fun w2 e2 => ⟨(0, v3), ⟨e3.trans e2, Nat.zero_le _, by dsimp only; rw [List.take_zero]; exact h3.ext e2⟩, (by repeat' (first | exact Sub.nil | refine Sub.val rfl (by first | with_reducible rfl | (congr 1; omega)) ?_ | refine Sub.same rfl ?_))⟩) ?_
  rintro ⟨k, so⟩ w1 ⟨he, hk, ho⟩
  dsimp only at hk ho ⊢
  have h1 := h.ext he
  by_cases hkl : k < rs.length
  · obtain ⟨u1, u2, u3, u4⟩ := hu.at k
    obtain ⟨-, hr2⟩ := hr k hkl
    have hfr := flip_run hr hu hkl
    repeat' (first
     |(refine oLA ?_;first
     |refine LA_pass rfl ?_
     |(refine oI ?_; refine LA_indexR rfl _ rfl (fun _ => rfl) rfl (by first | exact HasR.val (by assumption) | exact HasR.own | exact HasR.ownV (by assumption)) rfl (by omega) ?_)
     |(refine oLt 71 ?_; refine LA_loadC rfl (fun _ => rfl) (fun _ => rfl) rfl ?_)
     |(show LA _ _ _ _ (⟨some 5, .alloc _, _, _, _, _⟩ :: _) _; refine LA_stop (hK _ _ (LX_var rfl rfl (by decide) (fun _ => rfl) (fun _ => rfl) (fun _ => rfl) rfl (by intro u hu; simp [Value.cells] at hu; rcases hu with rfl | rfl <;> rfl) (fun bx wx ex hbx hbc => ?_))); clear hK K; refine LX_la (by kernel_rfl) (fun K hK => ?_))
     |(refine oF 0 ?_; refine LA_fieldAddr (a := ⟨bx, 0, none⟩) (a' := ⟨bx, 0, none⟩) rfl rfl (fun _ => rfl) ?_)
     |(refine oF 1 ?_; refine LA_fieldAddr (a := ⟨bx, 0, none⟩) (a' := ⟨bx, 1, none⟩) rfl rfl (fun _ => rfl) ?_)
     |(refine oLt 71 ?_; refine LA_loadBN rfl (fun _ => rfl) (fun _ => rfl) rfl hbc ?_)
     |(refine oLt 30 ?_; refine LA_loadB rfl (fun _ => rfl) rfl hbc rfl ?_)
     |(refine oLen ?_; refine LA_lenR rfl _ rfl rfl (by first | exact HasR.val (by assumption) | exact HasR.own | exact HasR.ownV (by assumption)) ?_)|(refine oM ?_;first|refine LA_moveV rfl rfl ?_|refine LA_moveP rfl rfl ?_|refine LA_moveT rfl rfl ?_|refine LA_moveU rfl rfl ?_)|(refine oA ?_;first|refine LA_assignV rfl rfl ?_|refine LA_assignP rfl rfl ?_|refine LA_assignT rfl rfl ?_)|(refine oP ?_;first|refine LA_pickTV rfl rfl rfl ?_|refine LA_pickFV rfl rfl rfl ?_)|(refine oN ?_;first|refine LA_notT rfl rfl ?_|refine LA_notF rfl rfl ?_|refine LA_not rfl rfl ?_)|(refine oX ?_;first|refine LA_ext0 rfl rfl ?_|refine LA_ext1 rfl rfl ?_|refine LA_ext30 rfl rfl ?_|refine LA_ext31 rfl rfl ?_|refine LA_ext32 rfl rfl ?_)|(refine oB .add ?_;first|refine stAdd rfl rfl rfl ?_|refine LA_addW rfl rfl rfl ?_)|(refine oB .sub ?_;first|refine stSub rfl rfl rfl ?_|refine LA_subW rfl rfl rfl ?_)|(refine oB .mul ?_;first|refine stMul rfl rfl rfl ?_|refine LA_mulW rfl rfl rfl ?_)|(refine oB .quo ?_;refine stQuo rfl rfl rfl ?_)|(refine oB .rem ?_;refine stRem rfl rfl rfl ?_)|(refine oB .shr ?_;refine stShr rfl rfl rfl ?_;try dsimp only [Int.reduceToNat, Int.reducePow])|(refine oB .shl ?_;refine stShl rfl rfl rfl ?_;try dsimp only [Int.reduceToNat, Int.reducePow])|(refine oB _ ?_;first|refine stT rfl rfl rfl rfl ?_|refine stF rfl rfl rfl rfl ?_|(refine LA_cmp rfl rfl rfl rfl (fun hc => ?_) (fun hc => ?_)<;>dsimp only [cmpP] at hc)|refine stBET rfl rfl rfl rfl ?_|refine stBEF rfl rfl rfl rfl ?_|refine LA_boolEq rfl rfl rfl rfl ?_|refine stBNT rfl rfl rfl rfl ?_|refine stBNF rfl rfl rfl rfl ?_|refine LA_boolNe rfl rfl rfl rfl ?_)|(refine oI ?_;first|refine stIN rfl _ rfl (fun _ => rfl) rfl rfl ?_|(refine stII rfl _ rfl (fun _ => rfl) rfl rfl ?_;try dsimp only [Int.reduceToNat]))|(refine oL ?_;refine LA_load rfl (fun _ => rfl) rfl ?_)|(refine oV ?_;first|refine stCnv rfl rfl rfl rfl ?_|refine LA_conv rfl rfl rfl rfl ?_)|(refine oS ?_;first|(refine stSL rfl _ rfl rfl rfl (fun _ => rfl) ?_;try dsimp only [Int.reduceToNat, Int.toNat_natCast])|(refine stSH rfl _ rfl rfl rfl (fun _ => rfl) ?_;try dsimp only [Int.reduceToNat, Int.toNat_natCast])|(refine stSLH rfl _ rfl rfl rfl rfl (fun _ => rfl) ?_;try dsimp only [Int.reduceToNat, Int.toNat_natCast]))|(refine oLen ?_;refine stLen rfl _ rfl rfl ?_)
     |(refine oCv ?_;first
     |(refine oC 13 ?_; refine LA_call3 (f := 13) rfl rfl rfl rfl rfl  (.pred (ownI w.heap.size 43 .u64 (wordsOf (inR (rs.take (k + 1)))))) (by intro u1 u2 u3 w e hu1 hu2 hu3; (try obtain rfl : u1 = _ := hu1); (try obtain rfl : u2 = _ := hu2); (try obtain rfl : u3 = _ := hu3); exact (wflipP _ _ (inR (rs.take k)) (OwnI.slI (ho.ext (ex.trans e))) _ _ (by omega) (by omega)).mono (ret_w (Nat.le_trans he.size (Nat.le_trans ex.size e.size)) hfr)) ?_))|(refine LA_nil (hK [] _ (LX_nil ?_));clear hK K)|(refine LA_nil (hK _ ?_);clear hK K))
     |(refine oCX ?_;first
     |refine CX_seq ?_|refine CX_skip ?_|refine CX_block ?_|refine CX_exit ?_|refine CX_ret ?_|refine CX_condT rfl ?_|refine CX_condF rfl ?_|refine CX_region (by kernel_rfl) (fun K hK => ?_)|refine CX_regionA (by kernel_rfl) (by kernel_rfl) (fun K hK => ?_)|refine CX_label ?_|refine CX_scope ?_)
     |(refine oPX ?_;first
     |refine PX_then ?_|refine PX_thenX ?_|refine PX_thenR ?_|refine PX_blockN ?_|refine PX_blockR ?_|refine PX_blockX ?_|refine PX_blockO (by decide) ?_|refine PX_scopeN ?_|refine PX_scopeR ?_|refine PX_scopeX ?_)
     |(refine oLX ?_;first
     |refine LX_nil ?_))
    refine PX_pick 3 rfl (fun v4 w4 e4 h4 => ?_)
    have h4 : OwnI w.heap.size 43 .u64 w4 v4 (wordsOf (inR (rs.take (k + 1)))) := h4
    exact PX_rndV (k + 1, v4) (fun w5 e5 => ⟨he.trans (ex.trans (e4.trans e5)), hkl, h4.ext e5⟩) (by dsimp only; omega) (by repeat' (first | exact Sub.nil | refine Sub.val rfl (by first | with_reducible rfl | (congr 1; omega)) ?_ | refine Sub.same rfl ?_))
  · obtain rfl : k = rs.length := by omega
    rw [List.take_length] at ho
    repeat' (first
     |(refine oLA ?_;first
     |refine LA_pass rfl ?_|(refine oM ?_;first|refine LA_moveV rfl rfl ?_|refine LA_moveP rfl rfl ?_|refine LA_moveT rfl rfl ?_|refine LA_moveU rfl rfl ?_)|(refine oA ?_;first|refine LA_assignV rfl rfl ?_|refine LA_assignP rfl rfl ?_|refine LA_assignT rfl rfl ?_)|(refine oP ?_;first|refine LA_pickTV rfl rfl rfl ?_|refine LA_pickFV rfl rfl rfl ?_)|(refine oN ?_;first|refine LA_notT rfl rfl ?_|refine LA_notF rfl rfl ?_|refine LA_not rfl rfl ?_)|(refine oX ?_;first|refine LA_ext0 rfl rfl ?_|refine LA_ext1 rfl rfl ?_|refine LA_ext30 rfl rfl ?_|refine LA_ext31 rfl rfl ?_|refine LA_ext32 rfl rfl ?_)|(refine oB .add ?_;first|refine stAdd rfl rfl rfl ?_|refine LA_addW rfl rfl rfl ?_)|(refine oB .sub ?_;first|refine stSub rfl rfl rfl ?_|refine LA_subW rfl rfl rfl ?_)|(refine oB .mul ?_;first|refine stMul rfl rfl rfl ?_|refine LA_mulW rfl rfl rfl ?_)|(refine oB .quo ?_;refine stQuo rfl rfl rfl ?_)|(refine oB .rem ?_;refine stRem rfl rfl rfl ?_)|(refine oB .shr ?_;refine stShr rfl rfl rfl ?_;try dsimp only [Int.reduceToNat, Int.reducePow])|(refine oB .shl ?_;refine stShl rfl rfl rfl ?_;try dsimp only [Int.reduceToNat, Int.reducePow])|(refine oB _ ?_;first|refine stT rfl rfl rfl rfl ?_|refine stF rfl rfl rfl rfl ?_|(refine LA_cmp rfl rfl rfl rfl (fun hc => ?_) (fun hc => ?_)<;>dsimp only [cmpP] at hc)|refine stBET rfl rfl rfl rfl ?_|refine stBEF rfl rfl rfl rfl ?_|refine LA_boolEq rfl rfl rfl rfl ?_|refine stBNT rfl rfl rfl rfl ?_|refine stBNF rfl rfl rfl rfl ?_|refine LA_boolNe rfl rfl rfl rfl ?_)|(refine oI ?_;first|refine stIN rfl _ rfl (fun _ => rfl) rfl rfl ?_|(refine stII rfl _ rfl (fun _ => rfl) rfl rfl ?_;try dsimp only [Int.reduceToNat]))|(refine oL ?_;refine LA_load rfl (fun _ => rfl) rfl ?_)|(refine oV ?_;first|refine stCnv rfl rfl rfl rfl ?_|refine LA_conv rfl rfl rfl rfl ?_)|(refine oS ?_;first|(refine stSL rfl _ rfl rfl rfl (fun _ => rfl) ?_;try dsimp only [Int.reduceToNat, Int.toNat_natCast])|(refine stSH rfl _ rfl rfl rfl (fun _ => rfl) ?_;try dsimp only [Int.reduceToNat, Int.toNat_natCast])|(refine stSLH rfl _ rfl rfl rfl rfl (fun _ => rfl) ?_;try dsimp only [Int.reduceToNat, Int.toNat_natCast]))|(refine oLen ?_;refine stLen rfl _ rfl rfl ?_)
     |(refine LA_nil (hK [] _ (LX_nil ?_));clear hK K)|(refine LA_nil (hK _ ?_);clear hK K))
     |(refine oCX ?_;first
     |refine CX_seq ?_|refine CX_skip ?_|refine CX_block ?_|refine CX_exit ?_|refine CX_ret ?_|refine CX_condT rfl ?_|refine CX_condF rfl ?_|refine CX_region (by kernel_rfl) (fun K hK => ?_)|refine CX_regionA (by kernel_rfl) (by kernel_rfl) (fun K hK => ?_)|refine CX_label ?_|refine CX_scope ?_)
     |(refine oPX ?_;first
     |refine PX_then ?_|refine PX_thenX ?_|refine PX_thenR ?_|refine PX_blockN ?_|refine PX_blockR ?_|refine PX_blockX ?_|refine PX_blockO (by decide) ?_|refine PX_scopeN ?_|refine PX_scopeR ?_|refine PX_scopeX ?_)
     |(refine oLX ?_;first
     |refine LX_nil ?_))
    exact PX_retP rfl rfl he (fun u w5 e5 hu' => by obtain rfl : u = _ := hu'; exact ho.ext e5)
theorem build4rr {v0 v1 v2 v3 : Value} (h0 : v0.cells = #[v0]) (h1 : v1.cells = #[v1]) (h2 : v2.cells = #[v2]) (h3 : v3.cells = #[v3]) (w : World) :
    (Instr.build 58 #[(0, v0), (1, v1), (2, v2), (3, v3)]).run Tryd.prog w = .ok (.agg #[v0, v1, v2, v3]) w := by
  have hz : (zeroValue 58).run Tryd.prog w = .ok (.agg #[.slice none 0 0, .slice none 0 0, .slice none 0 0, .slice none 0 0]) w := rfl
  have hu : (underlying 58).run Tryd.prog w = .ok (.array 4 54) w := rfl
  have hs : (sizeOf 54).run Tryd.prog w = .ok 1 w := rfl
  simp only [Instr.build, Sem.run_bind, hz, hu, hs, Result.andThen_ok]
  simp [Instr.fill, h0, h1, h2, h3, show ∀ cs, (Value.agg cs).cells = cs from fun _ => rfl]
theorem slR_cells {w : World} {v : Value} {rs : List Rn} (h : SlR w v rs) : v.cells = #[v] := by
  obtain ⟨a, c, rfl⟩ := h.isSlice; rfl
theorem slR_oneCell {w : World} {v : Value} {rs : List Rn} (h : SlR w v rs) : v.oneCell' = true := by
  obtain ⟨a, c, rfl⟩ := h.isSlice; rfl
theorem ra0 (p q : Nat → Bool) : runsL (two (fun x y => x && y) p q) = runsL (ca p q 0) := runsL_congr fun i _ => by simp [ca, two, bothF]
theorem ra1 (p q : Nat → Bool) : runsL (two (fun x y => x || y) p q) = runsL (ca p q 1) := runsL_congr fun i _ => by simp [ca, two, bothF]
theorem ra2 (p q : Nat → Bool) : runsL (two (fun x y => x && !y) p q) = runsL (ca p q 2) := runsL_congr fun i _ => by simp [ca, two, bothF]
theorem ra3 (p q : Nat → Bool) : runsL (two (fun x y => !(x == y)) p q) = runsL (ca p q 3) := runsL_congr fun i _ => by simp [ca, two, bothF]
set_option maxHeartbeats 8000000 in
theorem rw_c (w : World) (va vb : Value) (xs ys : List Rn) (ha : SlR w va xs) (hb : SlR w vb ys) (hu : U16 xs) (hu' : U16 ys) (hT : Tab w) : Fc Tryd.prog 8 #[va, vb] w (Ret w (.val (.bool true))) := by
  have hlen := ha.len
  have hlen' := hb.len
  refine Fc.of (args := [_, _]) Tryd.func8 rfl rfl Tryd.ntmps8 (Nat.le_of_ble_eq_true rfl) ?_
  by_cases hok : Right xs ∧ Right ys
  case neg =>
    repeat' (first
     |(refine oLA ?_;first
     |refine LA_pass rfl ?_
     |(refine oI ?_; refine LA_indexR rfl _ rfl (fun _ => rfl) rfl (by first | exact HasR.val (by assumption) | exact HasR.own | exact HasR.ownV (by assumption)) rfl (by omega) ?_)
     |(refine oLt 71 ?_; refine LA_loadC rfl (fun _ => rfl) (fun _ => rfl) rfl ?_)
     |(show LA _ _ _ _ (⟨some 99, .alloc _, _, _, _, _⟩ :: _) _; refine LA_stop (hK _ _ (LX_var rfl rfl (by decide) (fun _ => rfl) (fun _ => rfl) (fun _ => rfl) rfl (by intro u hu; simp [Value.cells] at hu; rcases hu with rfl | rfl <;> rfl) (fun bx wx ex hbx hbc => ?_))); clear hK K; refine LX_la (by kernel_rfl) (fun K hK => ?_))
     |(refine oF 0 ?_; refine LA_fieldAddr (a := ⟨bx, 0, none⟩) (a' := ⟨bx, 0, none⟩) rfl rfl (fun _ => rfl) ?_)
     |(refine oF 1 ?_; refine LA_fieldAddr (a := ⟨bx, 0, none⟩) (a' := ⟨bx, 1, none⟩) rfl rfl (fun _ => rfl) ?_)
     |(refine oLt 71 ?_; refine LA_loadBN rfl (fun _ => rfl) (fun _ => rfl) rfl hbc ?_)
     |(refine oLt 30 ?_; refine LA_loadB rfl (fun _ => rfl) rfl hbc rfl ?_)
     |(refine oLen ?_; refine LA_lenR rfl _ rfl rfl (by first | exact HasR.val (by assumption) | exact HasR.own | exact HasR.ownV (by assumption)) ?_)|(refine oM ?_;first|refine LA_moveV rfl rfl ?_|refine LA_moveP rfl rfl ?_|refine LA_moveT rfl rfl ?_|refine LA_moveU rfl rfl ?_)|(refine oA ?_;first|refine LA_assignV rfl rfl ?_|refine LA_assignP rfl rfl ?_|refine LA_assignT rfl rfl ?_)|(refine oP ?_;first|refine LA_pickTV rfl rfl rfl ?_|refine LA_pickFV rfl rfl rfl ?_)|(refine oN ?_;first|refine LA_notT rfl rfl ?_|refine LA_notF rfl rfl ?_|refine LA_not rfl rfl ?_)|(refine oX ?_;first|refine LA_ext0 rfl rfl ?_|refine LA_ext1 rfl rfl ?_|refine LA_ext30 rfl rfl ?_|refine LA_ext31 rfl rfl ?_|refine LA_ext32 rfl rfl ?_)|(refine oB .add ?_;first|refine stAdd rfl rfl rfl ?_|refine LA_addW rfl rfl rfl ?_)|(refine oB .sub ?_;first|refine stSub rfl rfl rfl ?_|refine LA_subW rfl rfl rfl ?_)|(refine oB .mul ?_;first|refine stMul rfl rfl rfl ?_|refine LA_mulW rfl rfl rfl ?_)|(refine oB .quo ?_;refine stQuo rfl rfl rfl ?_)|(refine oB .rem ?_;refine stRem rfl rfl rfl ?_)|(refine oB .shr ?_;refine stShr rfl rfl rfl ?_;try dsimp only [Int.reduceToNat, Int.reducePow])|(refine oB .shl ?_;refine stShl rfl rfl rfl ?_;try dsimp only [Int.reduceToNat, Int.reducePow])|(refine oB _ ?_;first|refine stT rfl rfl rfl rfl ?_|refine stF rfl rfl rfl rfl ?_|(refine LA_cmp rfl rfl rfl rfl (fun hc => ?_) (fun hc => ?_)<;>dsimp only [cmpP] at hc)|refine stBET rfl rfl rfl rfl ?_|refine stBEF rfl rfl rfl rfl ?_|refine LA_boolEq rfl rfl rfl rfl ?_|refine stBNT rfl rfl rfl rfl ?_|refine stBNF rfl rfl rfl rfl ?_|refine LA_boolNe rfl rfl rfl rfl ?_)|(refine oI ?_;first|refine stIN rfl _ rfl (fun _ => rfl) rfl rfl ?_|(refine stII rfl _ rfl (fun _ => rfl) rfl rfl ?_;try dsimp only [Int.reduceToNat]))|(refine oL ?_;refine LA_load rfl (fun _ => rfl) rfl ?_)|(refine oV ?_;first|refine stCnv rfl rfl rfl rfl ?_|refine LA_conv rfl rfl rfl rfl ?_)|(refine oS ?_;first|(refine stSL rfl _ rfl rfl rfl (fun _ => rfl) ?_;try dsimp only [Int.reduceToNat, Int.toNat_natCast])|(refine stSH rfl _ rfl rfl rfl (fun _ => rfl) ?_;try dsimp only [Int.reduceToNat, Int.toNat_natCast])|(refine stSLH rfl _ rfl rfl rfl rfl (fun _ => rfl) ?_;try dsimp only [Int.reduceToNat, Int.toNat_natCast]))|(refine oLen ?_;refine stLen rfl _ rfl rfl ?_)
     |(refine oCv ?_;first
     |(refine oC 36 ?_; refine LA_callB1 (f := 36) rfl rfl rfl  (decide (Right _)) (by intro u1 w e hu1; (try obtain rfl : u1 = _ := hu1); exact rmay06_c _ _ _ (by first | exact ha.ext e | exact hb.ext e) (by first | exact hu | exact hu')) (fun hc => ?_) (fun hc => ?_) <;> simp only [decide_eq_true_eq, decide_eq_false_iff_not] at hc)
     |(refine oC 37 ?_; refine LA_call0 (f := 37) rfl rfl  (.val (.bool true)) (by intro w e; exact rknown_c _) ?_))|(refine LA_nil (hK [] _ (LX_nil ?_));clear hK K)|(refine LA_nil (hK _ ?_);clear hK K))
     |(refine oCX ?_;first
     |refine CX_seq ?_|refine CX_skip ?_|refine CX_block ?_|refine CX_exit ?_|refine CX_ret ?_|refine CX_condT rfl ?_|refine CX_condF rfl ?_|refine CX_region (by kernel_rfl) (fun K hK => ?_)|refine CX_regionA (by kernel_rfl) (by kernel_rfl) (fun K hK => ?_)|refine CX_label ?_|refine CX_scope ?_)
     |(refine oPX ?_;first
     |refine PX_then ?_|refine PX_thenX ?_|refine PX_thenR ?_|refine PX_blockN ?_|refine PX_blockR ?_|refine PX_blockX ?_|refine PX_blockO (by decide) ?_|refine PX_scopeN ?_|refine PX_scopeR ?_|refine PX_scopeX ?_
     |exact PX_retE rfl rfl (Ext.refl _) rfl)
     |(refine oLX ?_;first
     |refine LX_nil ?_))
    all_goals exact absurd ⟨by assumption, by assumption⟩ hok
  case pos =>
    obtain ⟨hr, hr'⟩ := hok
    obtain ⟨p, hp⟩ : ∃ p, p = inR xs := ⟨_, rfl⟩
    obtain ⟨q, hq⟩ : ∃ q, q = inR ys := ⟨_, rfl⟩
    have hxs : runsL p = xs := hp ▸ right_L hr hu
    have hys : runsL q = ys := hq ▸ right_L hr' hu'
    have zp : p 65536 = false := hp ▸ inR_cut hr hu (Nat.le_refl _)
    have zq : q 65536 = false := hq ▸ inR_cut hr' hu' (Nat.le_refl _)
    have wp : wordsOf (inR (runsL p)) = wordsOf p := wordsOf_congr fun i hi => inR_runs p hi
    have wq : wordsOf (inR (runsL q)) = wordsOf q := wordsOf_congr fun i hi => inR_runs q hi
    have ha : SlR w va (runsL p) := by rw [hxs]; exact ha
    have hb : SlR w vb (runsL q) := by rw [hys]; exact hb
    have lp := runsL_len p; have lq := runsL_len q
    have hlx : xs.length = (runsL p).length := by rw [hxs]
    have hly : ys.length = (runsL q).length := by rw [hys]
    rw [hlx] at hlen; rw [hly] at hlen'
    obtain ⟨C, hC⟩ : ∃ C, C = fun j => wordsOf (ca p q j) := ⟨_, rfl⟩
    obtain ⟨A, hA⟩ : ∃ A, A = fun j => runsL (ca p q j) := ⟨_, rfl⟩
    have rp := runs_right p; have up := runs_u16 p; have rq := runs_right q; have uq := runs_u16 q
    clear hxs hys hp hq
    repeat' (first
     |(refine oLA ?_;first
     |refine LA_pass rfl ?_
     |(refine oD 20 ?_; refine oC 36 ?_; refine LA_call1 (f := 36) rfl rfl rfl  (.val (.bool true)) (by intro u1 w e hu1; (try obtain rfl : u1 = _ := hu1); exact ret_eq (by rw [decide_eq_true rp]) (rmay06_c _ _ _ (ha.ext e) up)) ?_)
     |(refine oD 25 ?_; refine oC 36 ?_; refine LA_call1 (f := 36) rfl rfl rfl  (.val (.bool true)) (by intro u1 w e hu1; (try obtain rfl : u1 = _ := hu1); exact ret_eq (by rw [decide_eq_true rq]) (rmay06_c _ _ _ (hb.ext e) uq)) ?_)
     |(refine oD 30 ?_; refine oC 38 ?_; refine LA_call1 (f := 38) rfl rfl rfl  (.pred (ownI w.heap.size 43 .u64 (wordsOf p))) (by intro u1 w e hu1; (try obtain rfl : u1 = _ := hu1); exact (rwof_c _ _ (runsL p) (ha.ext e) up rp (by omega)).mono (ret_w e.size wp)) ?_)
     |(refine oD 32 ?_; refine oC 38 ?_; refine LA_call1 (f := 38) rfl rfl rfl  (.pred (ownI w.heap.size 43 .u64 (wordsOf q))) (by intro u1 w e hu1; (try obtain rfl : u1 = _ := hu1); exact (rwof_c _ _ (runsL q) (hb.ext e) uq rq (by omega)).mono (ret_w e.size wq)) ?_)
     |(refine oD 33 ?_; refine LA_stop (hK _ _ (LX_pick 5 rfl (fun v5 w1 e1 h5 => LX_pick 6 rfl (fun v6 w4 e2 h6 => ?_)))); clear hK K; have h5 : OwnI w.heap.size 43 .u64 w4 v5 (wordsOf p) := OwnI.ext h5 e2; have h6 : OwnI w.heap.size 43 .u64 w4 v6 (wordsOf q) := h6; have x4 : Ext w w4 := e1.trans e2; clear e1 e2; have ha4 := ha.ext x4; have hb4 := hb.ext x4; refine LX_la (by kernel_rfl) (fun K hK => ?_))
     |(refine oD 35 ?_; refine oC 39 ?_; refine LA_call2 (f := 39) rfl rfl rfl rfl  (.pred (ownR w4.heap.size 71 (A 0))) (by intro u1 u2 w e hu1 hu2; (try obtain rfl : u1 = _ := hu1); (try obtain rfl : u2 = _ := hu2); exact (rand_c _ _ _ p q zp zq (ha4.ext e) (hb4.ext e)).mono (ret_baseR e.size (by rw [hA]; exact ra0 p q))) ?_)
     |(refine oD 38 ?_; refine oC 40 ?_; refine LA_call2 (f := 40) rfl rfl rfl rfl  (.pred (ownR w4.heap.size 71 (A 1))) (by intro u1 u2 w e hu1 hu2; (try obtain rfl : u1 = _ := hu1); (try obtain rfl : u2 = _ := hu2); exact (ror_c _ _ _ p q zp zq (ha4.ext e) (hb4.ext e)).mono (ret_baseR e.size (by rw [hA]; exact ra1 p q))) ?_)
     |(refine oD 41 ?_; refine oC 41 ?_; refine LA_call2 (f := 41) rfl rfl rfl rfl  (.pred (ownR w4.heap.size 71 (A 2))) (by intro u1 u2 w e hu1 hu2; (try obtain rfl : u1 = _ := hu1); (try obtain rfl : u2 = _ := hu2); exact (rnot_c _ _ _ p q zp zq (ha4.ext e) (hb4.ext e)).mono (ret_baseR e.size (by rw [hA]; exact ra2 p q))) ?_)
     |(refine oD 44 ?_; refine oC 42 ?_; refine LA_call2 (f := 42) rfl rfl rfl rfl  (.pred (ownR w4.heap.size 71 (A 3))) (by intro u1 u2 w e hu1 hu2; (try obtain rfl : u1 = _ := hu1); (try obtain rfl : u2 = _ := hu2); exact (rxor_c _ _ _ p q zp zq (ha4.ext e) (hb4.ext e)).mono (ret_baseR e.size (by rw [hA]; exact ra3 p q))) ?_)
     |(refine oD 45 ?_; refine LA_stop (hK _ _ (LX_pick 35 rfl (fun g0 y1 e1 r0 => LX_pick 38 rfl (fun g1 y2 e2 r1 => LX_pick 41 rfl (fun g2 y3 e3 r2 => LX_pick 44 rfl (fun g3 y4 e4 r3 => ?_)))))); clear hK K; have r0 : OwnR w4.heap.size 71 y4 g0 (A 0) := OwnR.ext r0 (e2.trans (e3.trans e4)); have r1 : OwnR w4.heap.size 71 y4 g1 (A 1) := OwnR.ext r1 (e3.trans e4); have r2 : OwnR w4.heap.size 71 y4 g2 (A 2) := OwnR.ext r2 e4; have r3 : OwnR w4.heap.size 71 y4 g3 (A 3) := r3; have h45 : Ext w4 y4 := (e1.trans e2).trans (e3.trans e4); clear e1 e2 e3 e4; have h5 := h5.ext h45; have h6 := h6.ext h45; refine LX_la (by kernel_rfl) (fun K hK => LA_build4 (c := .agg #[g0, g1, g2, g3]) rfl rfl rfl rfl rfl (build4rr (slR_cells r0.slR) (slR_cells r1.slR) (slR_cells r2.slR) (slR_cells r3.slR)) ?_))
     |(show LA _ _ _ _ (⟨some 7, .alloc _, _, _, _, _⟩ :: _) _; refine LA_alloc rfl (fun _ => rfl) ?_)
     |(show LA _ _ _ _ (⟨none, .store _ _ _, _, _, _, _⟩ :: _) _; refine LA_stop (hK _ _ (LX_pick 7 rfl (fun v9 y5 e5 h9 => ?_))); clear hK K)
     |(refine oI ?_; refine LA_indexR rfl _ rfl (fun _ => rfl) rfl (by first | exact HasR.val (by assumption) | exact HasR.own | exact HasR.ownV (by assumption)) rfl (by omega) ?_)
     |(refine oLt 71 ?_; refine LA_loadC rfl (fun _ => rfl) (fun _ => rfl) rfl ?_)
     |(show LA _ _ _ _ (⟨some 99, .alloc _, _, _, _, _⟩ :: _) _; refine LA_stop (hK _ _ (LX_var rfl rfl (by decide) (fun _ => rfl) (fun _ => rfl) (fun _ => rfl) rfl (by intro u hu; simp [Value.cells] at hu; rcases hu with rfl | rfl <;> rfl) (fun bx wx ex hbx hbc => ?_))); clear hK K; refine LX_la (by kernel_rfl) (fun K hK => ?_))
     |(refine oF 0 ?_; refine LA_fieldAddr (a := ⟨bx, 0, none⟩) (a' := ⟨bx, 0, none⟩) rfl rfl (fun _ => rfl) ?_)
     |(refine oF 1 ?_; refine LA_fieldAddr (a := ⟨bx, 0, none⟩) (a' := ⟨bx, 1, none⟩) rfl rfl (fun _ => rfl) ?_)
     |(refine oLt 71 ?_; refine LA_loadBN rfl (fun _ => rfl) (fun _ => rfl) rfl hbc ?_)
     |(refine oLt 30 ?_; refine LA_loadB rfl (fun _ => rfl) rfl hbc rfl ?_)
     |(refine oLen ?_; refine LA_lenR rfl _ rfl rfl (by first | exact HasR.val (by assumption) | exact HasR.own | exact HasR.ownV (by assumption)) ?_)|(refine oM ?_;first|refine LA_moveV rfl rfl ?_|refine LA_moveP rfl rfl ?_|refine LA_moveT rfl rfl ?_|refine LA_moveU rfl rfl ?_)|(refine oA ?_;first|refine LA_assignV rfl rfl ?_|refine LA_assignP rfl rfl ?_|refine LA_assignT rfl rfl ?_)|(refine oP ?_;first|refine LA_pickTV rfl rfl rfl ?_|refine LA_pickFV rfl rfl rfl ?_)|(refine oN ?_;first|refine LA_notT rfl rfl ?_|refine LA_notF rfl rfl ?_|refine LA_not rfl rfl ?_)|(refine oX ?_;first|refine LA_ext0 rfl rfl ?_|refine LA_ext1 rfl rfl ?_|refine LA_ext30 rfl rfl ?_|refine LA_ext31 rfl rfl ?_|refine LA_ext32 rfl rfl ?_)|(refine oB .add ?_;first|refine stAdd rfl rfl rfl ?_|refine LA_addW rfl rfl rfl ?_)|(refine oB .sub ?_;first|refine stSub rfl rfl rfl ?_|refine LA_subW rfl rfl rfl ?_)|(refine oB .mul ?_;first|refine stMul rfl rfl rfl ?_|refine LA_mulW rfl rfl rfl ?_)|(refine oB .quo ?_;refine stQuo rfl rfl rfl ?_)|(refine oB .rem ?_;refine stRem rfl rfl rfl ?_)|(refine oB .shr ?_;refine stShr rfl rfl rfl ?_;try dsimp only [Int.reduceToNat, Int.reducePow])|(refine oB .shl ?_;refine stShl rfl rfl rfl ?_;try dsimp only [Int.reduceToNat, Int.reducePow])|(refine oB _ ?_;first|refine stT rfl rfl rfl rfl ?_|refine stF rfl rfl rfl rfl ?_|(refine LA_cmp rfl rfl rfl rfl (fun hc => ?_) (fun hc => ?_)<;>dsimp only [cmpP] at hc)|refine stBET rfl rfl rfl rfl ?_|refine stBEF rfl rfl rfl rfl ?_|refine LA_boolEq rfl rfl rfl rfl ?_|refine stBNT rfl rfl rfl rfl ?_|refine stBNF rfl rfl rfl rfl ?_|refine LA_boolNe rfl rfl rfl rfl ?_)|(refine oI ?_;first|refine stIN rfl _ rfl (fun _ => rfl) rfl rfl ?_|(refine stII rfl _ rfl (fun _ => rfl) rfl rfl ?_;try dsimp only [Int.reduceToNat]))|(refine oL ?_;refine LA_load rfl (fun _ => rfl) rfl ?_)|(refine oV ?_;first|refine stCnv rfl rfl rfl rfl ?_|refine LA_conv rfl rfl rfl rfl ?_)|(refine oS ?_;first|(refine stSL rfl _ rfl rfl rfl (fun _ => rfl) ?_;try dsimp only [Int.reduceToNat, Int.toNat_natCast])|(refine stSH rfl _ rfl rfl rfl (fun _ => rfl) ?_;try dsimp only [Int.reduceToNat, Int.toNat_natCast])|(refine stSLH rfl _ rfl rfl rfl rfl (fun _ => rfl) ?_;try dsimp only [Int.reduceToNat, Int.toNat_natCast]))|(refine oLen ?_;refine stLen rfl _ rfl rfl ?_)
     |(refine oCv ?_;first
     |(refine oC 37 ?_; refine LA_call0 (f := 37) rfl rfl  (.val (.bool true)) (by intro w e; exact rknown_c _) ?_))|(refine LA_nil (hK [] _ (LX_nil ?_));clear hK K)|(refine LA_nil (hK _ ?_);clear hK K))
     |(refine oCX ?_;first
     |refine CX_seq ?_|refine CX_skip ?_|refine CX_block ?_|refine CX_exit ?_|refine CX_ret ?_|refine CX_condT rfl ?_|refine CX_condF rfl ?_|refine CX_region (by kernel_rfl) (fun K hK => ?_)|refine CX_regionA (by kernel_rfl) (by kernel_rfl) (fun K hK => ?_)|refine CX_label ?_|refine CX_scope ?_)
     |(refine oPX ?_;first
     |refine PX_then ?_|refine PX_thenX ?_|refine PX_thenR ?_|refine PX_blockN ?_|refine PX_blockR ?_|refine PX_blockX ?_|refine PX_blockO (by decide) ?_|refine PX_scopeN ?_|refine PX_scopeR ?_|refine PX_scopeX ?_
     |exact PX_retE rfl rfl (Ext.refl _) rfl)
     |(refine oLX ?_;first
     |refine LX_nil ?_))
    obtain ⟨bw, hbw, rfl, hbw'⟩ := h9
    refine LX_storeAll rfl rfl rfl hbw' (fun _ => rfl) rfl (four_one (slR_oneCell r0.slR) (slR_oneCell r1.slR) (slR_oneCell r2.slR) (slR_oneCell r3.slR)) (fun y6 e6 => ?_)
    dsimp only [vals]
    obtain ⟨y, hy⟩ : ∃ y, y = y6.setRow bw (Value.agg #[g0, g1, g2, g3]).cells := ⟨_, rfl⟩
    rw [← hy]
    have qy : Ext y4 y := hy ▸ (e5.trans e6).setRow hbw _
    have hW : y.heap[bw]? = some (.cells #[g0, g1, g2, g3] 58 (0, 0)) := hy ▸ setRow_heap y6 bw _ _ _ (0, 0) (e6.block hbw')
    have z0 := r0.ext qy; have z1 := r1.ext qy; have z2 := r2.ext qy; have z3 := r3.ext qy
    have h5y := h5.ext qy; have h6y := h6.ext qy
    have xy : Ext w y := (x4.trans h45).trans qy
    clear hy e5 e6 hbw hbw' r0 r1 r2 r3
    repeat' (first
     |(refine oLA ?_;first
     |refine LA_pass rfl ?_
     |(refine oD 48 ?_; refine oC 18 ?_; refine LA_call2 (f := 18) rfl rfl rfl rfl  (.pred (ownI y.heap.size 43 .u64 (C 0))) (by intro u1 u2 w e hu1 hu2; (try obtain rfl : u1 = _ := hu1); (try obtain rfl : u2 = _ := hu2); exact (wandP _ _ _ p q (OwnI.slI (h5y.ext e)) (OwnI.slI (h6y.ext e))).mono (ret_w e.size (by rw [hC]; exact wa0 p q))) ?_)
     |(refine oD 51 ?_; refine oC 20 ?_; refine LA_call2 (f := 20) rfl rfl rfl rfl  (.pred (ownI y.heap.size 43 .u64 (C 1))) (by intro u1 u2 w e hu1 hu2; (try obtain rfl : u1 = _ := hu1); (try obtain rfl : u2 = _ := hu2); exact (worP _ _ _ p q (OwnI.slI (h5y.ext e)) (OwnI.slI (h6y.ext e))).mono (ret_w e.size (by rw [hC]; exact wa1 p q))) ?_)
     |(refine oD 54 ?_; refine oC 21 ?_; refine LA_call2 (f := 21) rfl rfl rfl rfl  (.pred (ownI y.heap.size 43 .u64 (C 2))) (by intro u1 u2 w e hu1 hu2; (try obtain rfl : u1 = _ := hu1); (try obtain rfl : u2 = _ := hu2); exact (wnotP _ _ _ p q (OwnI.slI (h5y.ext e)) (OwnI.slI (h6y.ext e))).mono (ret_w e.size (by rw [hC]; exact wa2 p q))) ?_)
     |(refine oD 57 ?_; refine oC 22 ?_; refine LA_call2 (f := 22) rfl rfl rfl rfl  (.pred (ownI y.heap.size 43 .u64 (C 3))) (by intro u1 u2 w e hu1 hu2; (try obtain rfl : u1 = _ := hu1); (try obtain rfl : u2 = _ := hu2); exact (wxorP _ _ _ p q (OwnI.slI (h5y.ext e)) (OwnI.slI (h6y.ext e))).mono (ret_w e.size (by rw [hC]; exact wa3 p q))) ?_)
     |(refine oD 58 ?_; refine LA_stop (hK _ _ (LX_pick 48 rfl (fun a0 y1 e1 r0 => LX_pick 51 rfl (fun a1 y2 e2 r1 => LX_pick 54 rfl (fun a2 y3 e3 r2 => LX_pick 57 rfl (fun a3 u4 e4 r3 => ?_)))))); clear hK K; have r0 : OwnI y.heap.size 43 .u64 u4 a0 (C 0) := OwnI.ext r0 (e2.trans (e3.trans e4)); have r1 : OwnI y.heap.size 43 .u64 u4 a1 (C 1) := OwnI.ext r1 (e3.trans e4); have r2 : OwnI y.heap.size 43 .u64 u4 a2 (C 2) := OwnI.ext r2 e4; have r3 : OwnI y.heap.size 43 .u64 u4 a3 (C 3) := r3; have h46 : Ext y u4 := (e1.trans e2).trans (e3.trans e4); clear e1 e2 e3 e4; refine LX_la (by kernel_rfl) (fun K hK => LA_build4 (c := .agg #[a0, a1, a2, a3]) rfl rfl rfl rfl rfl (build4w (OwnI.cells r0) (OwnI.cells r1) (OwnI.cells r2) (OwnI.cells r3)) ?_))
     |(show LA _ _ _ _ (⟨some 8, .alloc _, _, _, _, _⟩ :: _) _; refine LA_alloc rfl (fun _ => rfl) ?_)
     |(show LA _ _ _ _ (⟨none, .store _ _ _, _, _, _, _⟩ :: _) _; refine LA_stop (hK _ _ (LX_pick 8 rfl (fun v10 u5 e5 h10 => ?_))); clear hK K)|(refine oM ?_;first|refine LA_moveV rfl rfl ?_|refine LA_moveP rfl rfl ?_|refine LA_moveT rfl rfl ?_|refine LA_moveU rfl rfl ?_)|(refine oA ?_;first|refine LA_assignV rfl rfl ?_|refine LA_assignP rfl rfl ?_|refine LA_assignT rfl rfl ?_)|(refine oP ?_;first|refine LA_pickTV rfl rfl rfl ?_|refine LA_pickFV rfl rfl rfl ?_)|(refine oN ?_;first|refine LA_notT rfl rfl ?_|refine LA_notF rfl rfl ?_|refine LA_not rfl rfl ?_)|(refine oX ?_;first|refine LA_ext0 rfl rfl ?_|refine LA_ext1 rfl rfl ?_|refine LA_ext30 rfl rfl ?_|refine LA_ext31 rfl rfl ?_|refine LA_ext32 rfl rfl ?_)|(refine oB .add ?_;first|refine stAdd rfl rfl rfl ?_|refine LA_addW rfl rfl rfl ?_)|(refine oB .sub ?_;first|refine stSub rfl rfl rfl ?_|refine LA_subW rfl rfl rfl ?_)|(refine oB .mul ?_;first|refine stMul rfl rfl rfl ?_|refine LA_mulW rfl rfl rfl ?_)|(refine oB .quo ?_;refine stQuo rfl rfl rfl ?_)|(refine oB .rem ?_;refine stRem rfl rfl rfl ?_)|(refine oB .shr ?_;refine stShr rfl rfl rfl ?_;try dsimp only [Int.reduceToNat, Int.reducePow])|(refine oB .shl ?_;refine stShl rfl rfl rfl ?_;try dsimp only [Int.reduceToNat, Int.reducePow])|(refine oB _ ?_;first|refine stT rfl rfl rfl rfl ?_|refine stF rfl rfl rfl rfl ?_|(refine LA_cmp rfl rfl rfl rfl (fun hc => ?_) (fun hc => ?_)<;>dsimp only [cmpP] at hc)|refine stBET rfl rfl rfl rfl ?_|refine stBEF rfl rfl rfl rfl ?_|refine LA_boolEq rfl rfl rfl rfl ?_|refine stBNT rfl rfl rfl rfl ?_|refine stBNF rfl rfl rfl rfl ?_|refine LA_boolNe rfl rfl rfl rfl ?_)|(refine oI ?_;first|refine stIN rfl _ rfl (fun _ => rfl) rfl rfl ?_|(refine stII rfl _ rfl (fun _ => rfl) rfl rfl ?_;try dsimp only [Int.reduceToNat]))|(refine oL ?_;refine LA_load rfl (fun _ => rfl) rfl ?_)|(refine oV ?_;first|refine stCnv rfl rfl rfl rfl ?_|refine LA_conv rfl rfl rfl rfl ?_)|(refine oS ?_;first|(refine stSL rfl _ rfl rfl rfl (fun _ => rfl) ?_;try dsimp only [Int.reduceToNat, Int.toNat_natCast])|(refine stSH rfl _ rfl rfl rfl (fun _ => rfl) ?_;try dsimp only [Int.reduceToNat, Int.toNat_natCast])|(refine stSLH rfl _ rfl rfl rfl rfl (fun _ => rfl) ?_;try dsimp only [Int.reduceToNat, Int.toNat_natCast]))|(refine oLen ?_;refine stLen rfl _ rfl rfl ?_)
     |(refine LA_nil (hK [] _ (LX_nil ?_));clear hK K)|(refine LA_nil (hK _ ?_);clear hK K))
     |(refine oCX ?_;first
     |refine CX_seq ?_|refine CX_skip ?_|refine CX_block ?_|refine CX_exit ?_|refine CX_ret ?_|refine CX_condT rfl ?_|refine CX_condF rfl ?_|refine CX_region (by kernel_rfl) (fun K hK => ?_)|refine CX_regionA (by kernel_rfl) (by kernel_rfl) (fun K hK => ?_)|refine CX_label ?_|refine CX_scope ?_)
     |(refine oPX ?_;first
     |refine PX_then ?_|refine PX_thenX ?_|refine PX_thenR ?_|refine PX_blockN ?_|refine PX_blockR ?_|refine PX_blockX ?_|refine PX_blockO (by decide) ?_|refine PX_scopeN ?_|refine PX_scopeR ?_|refine PX_scopeX ?_)
     |(refine oLX ?_;first
     |refine LX_nil ?_))
    obtain ⟨ba, hba, rfl, hba'⟩ := h10
    refine LX_storeAll rfl rfl rfl hba' (fun _ => rfl) rfl (four_one (OwnI.one r0) (OwnI.one r1) (OwnI.one r2) (OwnI.one r3)) (fun u6 e6 => ?_)
    dsimp only [vals]
    obtain ⟨z, hz⟩ : ∃ z, z = u6.setRow ba (Value.agg #[a0, a1, a2, a3]).cells := ⟨_, rfl⟩
    rw [← hz]
    have qz : Ext u4 z := hz ▸ (e5.trans e6).setRow hba _
    have hAr : z.heap[ba]? = some (.cells #[a0, a1, a2, a3] 50 (0, 0)) := hz ▸ setRow_heap u6 ba _ _ _ (0, 0) (e6.block hba')
    have yz : Ext y z := h46.trans qz
    have hWr := yz.block hW
    have xz : Ext w z := xy.trans yz
    obtain ⟨g, hg⟩ : ∃ g : Nat → Value, g = fun j => #[g0, g1, g2, g3].getD j g0 := ⟨_, rfl⟩
    obtain ⟨a, haa⟩ : ∃ a : Nat → Value, a = fun j => #[a0, a1, a2, a3].getD j a0 := ⟨_, rfl⟩
    have hgj : ∀ j, j < 4 → (#[g0, g1, g2, g3] : Array Value)[0 + j * 1]? = some (g j) := fun j hj => by rw [hg]; rcases four_cases hj with rfl | rfl | rfl | rfl <;> rfl
    have haj : ∀ j, j < 4 → (#[a0, a1, a2, a3] : Array Value)[0 + j * 1]? = some (a j) := fun j hj => by rw [haa]; rcases four_cases hj with rfl | rfl | rfl | rfl <;> rfl
    have og : ∀ j, j < 4 → SlR z (g j) (A j) := fun j hj => by
      rw [hg]
      rcases four_cases hj with rfl | rfl | rfl | rfl
      · exact OwnR.slR (z0.ext yz)
      · exact OwnR.slR (z1.ext yz)
      · exact OwnR.slR (z2.ext yz)
      · exact OwnR.slR (z3.ext yz)
    have oa : ∀ j, j < 4 → SlI .u64 z (a j) (C j) := fun j hj => by
      rw [haa]
      rcases four_cases hj with rfl | rfl | rfl | rfl
      · exact OwnI.slI (r0.ext qz)
      · exact OwnI.slI (r1.ext qz)
      · exact OwnI.slI (r2.ext qz)
      · exact OwnI.slI (r3.ext qz)
    have gC : ∀ j, C j = wordsOf (ca p q j) := fun j => by rw [hC]
    have gA : ∀ j, A j = runsL (ca p q j) := fun j => by rw [hA]
    clear hz e5 e6 hba hba' r0 r1 r2 r3 z0 z1 z2 z3 hg haa h5y h6y h5 h6 hC hA
    repeat' (first
     |(refine oLA ?_;first
     |refine LA_pass rfl ?_|(refine oM ?_;first|refine LA_moveV rfl rfl ?_|refine LA_moveP rfl rfl ?_|refine LA_moveT rfl rfl ?_|refine LA_moveU rfl rfl ?_)|(refine oA ?_;first|refine LA_assignV rfl rfl ?_|refine LA_assignP rfl rfl ?_|refine LA_assignT rfl rfl ?_)|(refine oP ?_;first|refine LA_pickTV rfl rfl rfl ?_|refine LA_pickFV rfl rfl rfl ?_)|(refine oN ?_;first|refine LA_notT rfl rfl ?_|refine LA_notF rfl rfl ?_|refine LA_not rfl rfl ?_)|(refine oX ?_;first|refine LA_ext0 rfl rfl ?_|refine LA_ext1 rfl rfl ?_|refine LA_ext30 rfl rfl ?_|refine LA_ext31 rfl rfl ?_|refine LA_ext32 rfl rfl ?_)|(refine oB .add ?_;first|refine stAdd rfl rfl rfl ?_|refine LA_addW rfl rfl rfl ?_)|(refine oB .sub ?_;first|refine stSub rfl rfl rfl ?_|refine LA_subW rfl rfl rfl ?_)|(refine oB .mul ?_;first|refine stMul rfl rfl rfl ?_|refine LA_mulW rfl rfl rfl ?_)|(refine oB .quo ?_;refine stQuo rfl rfl rfl ?_)|(refine oB .rem ?_;refine stRem rfl rfl rfl ?_)|(refine oB .shr ?_;refine stShr rfl rfl rfl ?_;try dsimp only [Int.reduceToNat, Int.reducePow])|(refine oB .shl ?_;refine stShl rfl rfl rfl ?_;try dsimp only [Int.reduceToNat, Int.reducePow])|(refine oB _ ?_;first|refine stT rfl rfl rfl rfl ?_|refine stF rfl rfl rfl rfl ?_|(refine LA_cmp rfl rfl rfl rfl (fun hc => ?_) (fun hc => ?_)<;>dsimp only [cmpP] at hc)|refine stBET rfl rfl rfl rfl ?_|refine stBEF rfl rfl rfl rfl ?_|refine LA_boolEq rfl rfl rfl rfl ?_|refine stBNT rfl rfl rfl rfl ?_|refine stBNF rfl rfl rfl rfl ?_|refine LA_boolNe rfl rfl rfl rfl ?_)|(refine oI ?_;first|refine stIN rfl _ rfl (fun _ => rfl) rfl rfl ?_|(refine stII rfl _ rfl (fun _ => rfl) rfl rfl ?_;try dsimp only [Int.reduceToNat]))|(refine oL ?_;refine LA_load rfl (fun _ => rfl) rfl ?_)|(refine oV ?_;first|refine stCnv rfl rfl rfl rfl ?_|refine LA_conv rfl rfl rfl rfl ?_)|(refine oS ?_;first|(refine stSL rfl _ rfl rfl rfl (fun _ => rfl) ?_;try dsimp only [Int.reduceToNat, Int.toNat_natCast])|(refine stSH rfl _ rfl rfl rfl (fun _ => rfl) ?_;try dsimp only [Int.reduceToNat, Int.toNat_natCast])|(refine stSLH rfl _ rfl rfl rfl rfl (fun _ => rfl) ?_;try dsimp only [Int.reduceToNat, Int.toNat_natCast]))|(refine oLen ?_;refine stLen rfl _ rfl rfl ?_)
     |(refine LA_nil (hK [] _ (LX_nil ?_));clear hK K)|(refine LA_nil (hK _ ?_);clear hK K))
     |(refine oCX ?_;first
     |refine CX_seq ?_|refine CX_skip ?_|refine CX_block ?_|refine CX_exit ?_|refine CX_ret ?_|refine CX_condT rfl ?_|refine CX_condF rfl ?_|refine CX_region (by kernel_rfl) (fun K hK => ?_)|refine CX_regionA (by kernel_rfl) (by kernel_rfl) (fun K hK => ?_)|refine CX_label ?_|refine CX_scope ?_)
     |(refine oPX ?_;first
     |refine PX_then ?_|refine PX_thenX ?_|refine PX_thenR ?_|refine PX_blockN ?_|refine PX_blockR ?_|refine PX_blockX ?_|refine PX_blockO (by decide) ?_|refine PX_scopeN ?_|refine PX_scopeR ?_|refine PX_scopeX ?_)
     |(refine oLX ?_;first
     |refine LX_nil ?_))
    refine CX_loop (ι := Nat) (fun i => [(7, .val (.pointer (some ⟨bw, 0, none⟩))), (8, .val (.pointer (some ⟨ba, 0, none⟩))), (59, .val (.int .i64 i))]) (fun i => i ≤ 4) (fun i => 4 - i) 0 (Nat.zero_le _) (by repeat' (first | exact Sub.nil | refine Sub.val rfl (by first | with_reducible rfl | (congr 1; omega)) ?_ | refine Sub.same rfl ?_)) ?_
    intro i hi5
    by_cases hi' : i < 4
    · have hgi := hgj i hi'
      have hai := haj i hi'
      have ogi := og i hi'
      have oai := oa i hi'
      obtain ⟨r, hr⟩ : ∃ r, r = ca p q i := ⟨_, rfl⟩
      rw [gA, ← hr] at ogi
      rw [gC, ← hr] at oai
      obtain ⟨L, hL⟩ : ∃ L, L = cnt r 65536 := ⟨_, rfl⟩
      obtain ⟨U, hU⟩ : ∃ U, U = cnt (startsS r) 65536 := ⟨_, rfl⟩
      have gL : Hid (cnt r 65536 = L) := ⟨hL.symm⟩
      have gU : Hid (cnt (startsS r) 65536 = U) := ⟨hU.symm⟩
      have gl : Hid ((runsL r).length = U) := ⟨by unfold runsL; rw [many_opn, hU]⟩
      have gr : Hid (listR (runsL r) = listS r 65536) := ⟨list_opn r 65536⟩
      have lr := runsL_len r
      have lr9 : Hid ((runsL r).length ≤ 70000) := ⟨by omega⟩
      clear hL hU lr
      repeat' (first
       |(refine oLA ?_;first
       |refine LA_pass rfl ?_
       |refine LA_indexArr (n := 4) (s := 1) rfl rfl (fun _ => rfl) rfl rfl i rfl hi' ?_
       |refine LA_loadB (c := g i) rfl (fun _ => rfl) rfl hWr hgi ?_
       |refine LA_loadB (c := a i) rfl (fun _ => rfl) rfl hAr hai ?_
       |(refine oD 70 ?_; refine LA_call2 (f := 27) rfl rfl rfl rfl (.val (.bool true)) (by intro u1 u2 w e hu1 hu2; exact ret_true (same_c _ _ _ (listS r 65536) (listS r 65536) (OwnI.slI hu1) (OwnI.slI hu2)) (decide_eq_true rfl)) ?_)
       |(refine oD 76 ?_; refine LA_lenR rfl _ rfl rfl (HasR.val ogi) ?_; rw [gl.out])|(refine oM ?_;first|refine LA_moveV rfl rfl ?_|refine LA_moveP rfl rfl ?_|refine LA_moveT rfl rfl ?_|refine LA_moveU rfl rfl ?_)|(refine oA ?_;first|refine LA_assignV rfl rfl ?_|refine LA_assignP rfl rfl ?_|refine LA_assignT rfl rfl ?_)|(refine oP ?_;first|refine LA_pickTV rfl rfl rfl ?_|refine LA_pickFV rfl rfl rfl ?_)|(refine oN ?_;first|refine LA_notT rfl rfl ?_|refine LA_notF rfl rfl ?_|refine LA_not rfl rfl ?_)|(refine oX ?_;first|refine LA_ext0 rfl rfl ?_|refine LA_ext1 rfl rfl ?_|refine LA_ext30 rfl rfl ?_|refine LA_ext31 rfl rfl ?_|refine LA_ext32 rfl rfl ?_)|(refine oB .add ?_;first|refine stAdd rfl rfl rfl ?_|refine LA_addW rfl rfl rfl ?_)|(refine oB .sub ?_;first|refine stSub rfl rfl rfl ?_|refine LA_subW rfl rfl rfl ?_)|(refine oB .mul ?_;first|refine stMul rfl rfl rfl ?_|refine LA_mulW rfl rfl rfl ?_)|(refine oB .quo ?_;refine stQuo rfl rfl rfl ?_)|(refine oB .rem ?_;refine stRem rfl rfl rfl ?_)|(refine oB .shr ?_;refine stShr rfl rfl rfl ?_;try dsimp only [Int.reduceToNat, Int.reducePow])|(refine oB .shl ?_;refine stShl rfl rfl rfl ?_;try dsimp only [Int.reduceToNat, Int.reducePow])|(refine oB _ ?_;first|refine stT rfl rfl rfl rfl ?_|refine stF rfl rfl rfl rfl ?_|(refine LA_cmp rfl rfl rfl rfl (fun hc => ?_) (fun hc => ?_)<;>dsimp only [cmpP] at hc)|refine stBET rfl rfl rfl rfl ?_|refine stBEF rfl rfl rfl rfl ?_|refine LA_boolEq rfl rfl rfl rfl ?_|refine stBNT rfl rfl rfl rfl ?_|refine stBNF rfl rfl rfl rfl ?_|refine LA_boolNe rfl rfl rfl rfl ?_)|(refine oI ?_;first|refine stIN rfl _ rfl (fun _ => rfl) rfl rfl ?_|(refine stII rfl _ rfl (fun _ => rfl) rfl rfl ?_;try dsimp only [Int.reduceToNat]))|(refine oL ?_;refine LA_load rfl (fun _ => rfl) rfl ?_)|(refine oV ?_;first|refine stCnv rfl rfl rfl rfl ?_|refine LA_conv rfl rfl rfl rfl ?_)|(refine oS ?_;first|(refine stSL rfl _ rfl rfl rfl (fun _ => rfl) ?_;try dsimp only [Int.reduceToNat, Int.toNat_natCast])|(refine stSH rfl _ rfl rfl rfl (fun _ => rfl) ?_;try dsimp only [Int.reduceToNat, Int.toNat_natCast])|(refine stSLH rfl _ rfl rfl rfl rfl (fun _ => rfl) ?_;try dsimp only [Int.reduceToNat, Int.toNat_natCast]))|(refine oLen ?_;refine stLen rfl _ rfl rfl ?_)
       |(refine oCv ?_;first
       |(refine oC 43 ?_; refine LA_call1 (f := 43) rfl rfl rfl  (.pred (ownI z.heap.size 30 .u16 (listS r 65536))) (by intro u1 w e hu1; (try obtain rfl : u1 = _ := hu1); exact (rlistR_c _ _ (runsL r) (SlR.ext ogi e) (runs_u16 r) (runs_right r) lr9.out).mono (ret_w e.size gr.out)) ?_)
       |(refine oC 11 ?_; refine LA_call1 (f := 11) rfl rfl rfl  (.pred (ownI z.heap.size 30 .u16 (listS r 65536))) (by intro u1 w e hu1; (try obtain rfl : u1 = _ := hu1); exact (wlistP _ _ r (SlI.ext oai e) (hT.ext (xz.trans e))).mono (ret_base e.size)) ?_)
       |(refine oC 29 ?_; refine LA_call1 (f := 29) rfl rfl rfl  (.val (.int .i64 U)) (by intro u1 w e hu1; (try obtain rfl : u1 = _ := hu1); exact ret_eq (by rw [gU.out]) (wrunsP _ _ r (SlI.ext oai e))) ?_)
       |(refine oC 44 ?_; refine LA_call1 (f := 44) rfl rfl rfl  (.val (.int .i64 L)) (by intro u1 w e hu1; (try obtain rfl : u1 = _ := hu1); exact ret_eq (by rw [lenR_runs, gL.out]) (rlenR_c _ _ (runsL r) (SlR.ext ogi e) (runs_u16 r) lr9.out)) ?_)
       |(refine oC 14 ?_; refine LA_call1 (f := 14) rfl rfl rfl  (.val (.int .i64 L)) (by intro u1 w e hu1; (try obtain rfl : u1 = _ := hu1); exact ret_eq (by rw [gL.out]) (wlenP _ _ r (SlI.ext oai e))) ?_))|(refine LA_nil (hK [] _ (LX_nil ?_));clear hK K)|(refine LA_nil (hK _ ?_);clear hK K))
       |(refine oCX ?_;first
       |refine CX_seq ?_|refine CX_skip ?_|refine CX_block ?_|refine CX_exit ?_|refine CX_ret ?_|refine CX_condT rfl ?_|refine CX_condF rfl ?_|refine CX_region (by kernel_rfl) (fun K hK => ?_)|refine CX_regionA (by kernel_rfl) (by kernel_rfl) (fun K hK => ?_)|refine CX_label ?_|refine CX_scope ?_)
       |(refine oPX ?_;first
       |refine PX_then ?_|refine PX_thenX ?_|refine PX_thenR ?_|refine PX_blockN ?_|refine PX_blockR ?_|refine PX_blockX ?_|refine PX_blockO (by decide) ?_|refine PX_scopeN ?_|refine PX_scopeR ?_|refine PX_scopeX ?_)
       |(refine oLX ?_;first
       |refine LX_nil ?_))
      skip
      refine PX_rnd (i + 1) (by omega) (by omega) (by repeat' (first | exact Sub.nil | refine Sub.val rfl (by first | with_reducible rfl | (congr 1; omega)) ?_ | refine Sub.same rfl ?_))
    · obtain rfl : i = 4 := by omega
      repeat' (first
       |(refine oLA ?_;first
       |refine LA_pass rfl ?_|(refine oM ?_;first|refine LA_moveV rfl rfl ?_|refine LA_moveP rfl rfl ?_|refine LA_moveT rfl rfl ?_|refine LA_moveU rfl rfl ?_)|(refine oA ?_;first|refine LA_assignV rfl rfl ?_|refine LA_assignP rfl rfl ?_|refine LA_assignT rfl rfl ?_)|(refine oP ?_;first|refine LA_pickTV rfl rfl rfl ?_|refine LA_pickFV rfl rfl rfl ?_)|(refine oN ?_;first|refine LA_notT rfl rfl ?_|refine LA_notF rfl rfl ?_|refine LA_not rfl rfl ?_)|(refine oX ?_;first|refine LA_ext0 rfl rfl ?_|refine LA_ext1 rfl rfl ?_|refine LA_ext30 rfl rfl ?_|refine LA_ext31 rfl rfl ?_|refine LA_ext32 rfl rfl ?_)|(refine oB .add ?_;first|refine stAdd rfl rfl rfl ?_|refine LA_addW rfl rfl rfl ?_)|(refine oB .sub ?_;first|refine stSub rfl rfl rfl ?_|refine LA_subW rfl rfl rfl ?_)|(refine oB .mul ?_;first|refine stMul rfl rfl rfl ?_|refine LA_mulW rfl rfl rfl ?_)|(refine oB .quo ?_;refine stQuo rfl rfl rfl ?_)|(refine oB .rem ?_;refine stRem rfl rfl rfl ?_)|(refine oB .shr ?_;refine stShr rfl rfl rfl ?_;try dsimp only [Int.reduceToNat, Int.reducePow])|(refine oB .shl ?_;refine stShl rfl rfl rfl ?_;try dsimp only [Int.reduceToNat, Int.reducePow])|(refine oB _ ?_;first|refine stT rfl rfl rfl rfl ?_|refine stF rfl rfl rfl rfl ?_|(refine LA_cmp rfl rfl rfl rfl (fun hc => ?_) (fun hc => ?_)<;>dsimp only [cmpP] at hc)|refine stBET rfl rfl rfl rfl ?_|refine stBEF rfl rfl rfl rfl ?_|refine LA_boolEq rfl rfl rfl rfl ?_|refine stBNT rfl rfl rfl rfl ?_|refine stBNF rfl rfl rfl rfl ?_|refine LA_boolNe rfl rfl rfl rfl ?_)|(refine oI ?_;first|refine stIN rfl _ rfl (fun _ => rfl) rfl rfl ?_|(refine stII rfl _ rfl (fun _ => rfl) rfl rfl ?_;try dsimp only [Int.reduceToNat]))|(refine oL ?_;refine LA_load rfl (fun _ => rfl) rfl ?_)|(refine oV ?_;first|refine stCnv rfl rfl rfl rfl ?_|refine LA_conv rfl rfl rfl rfl ?_)|(refine oS ?_;first|(refine stSL rfl _ rfl rfl rfl (fun _ => rfl) ?_;try dsimp only [Int.reduceToNat, Int.toNat_natCast])|(refine stSH rfl _ rfl rfl rfl (fun _ => rfl) ?_;try dsimp only [Int.reduceToNat, Int.toNat_natCast])|(refine stSLH rfl _ rfl rfl rfl rfl (fun _ => rfl) ?_;try dsimp only [Int.reduceToNat, Int.toNat_natCast]))|(refine oLen ?_;refine stLen rfl _ rfl rfl ?_)
       |(refine oCv ?_;first
       |(refine oC 37 ?_; refine LA_call0 (f := 37) rfl rfl  (.val (.bool true)) (by intro w e; exact rknown_c _) ?_))|(refine LA_nil (hK [] _ (LX_nil ?_));clear hK K)|(refine LA_nil (hK _ ?_);clear hK K))
       |(refine oCX ?_;first
       |refine CX_seq ?_|refine CX_skip ?_|refine CX_block ?_|refine CX_exit ?_|refine CX_ret ?_|refine CX_condT rfl ?_|refine CX_condF rfl ?_|refine CX_region (by kernel_rfl) (fun K hK => ?_)|refine CX_regionA (by kernel_rfl) (by kernel_rfl) (fun K hK => ?_)|refine CX_label ?_|refine CX_scope ?_)
       |(refine oPX ?_;first
       |refine PX_then ?_|refine PX_thenX ?_|refine PX_thenR ?_|refine PX_blockN ?_|refine PX_blockR ?_|refine PX_blockX ?_|refine PX_blockO (by decide) ?_|refine PX_scopeN ?_|refine PX_scopeR ?_|refine PX_scopeX ?_
       |exact PX_retE rfl rfl xz rfl)
       |(refine oLX ?_;first
       |refine LX_nil ?_))
end Go.Proofs.YthcpljmibcacaaaDoor
