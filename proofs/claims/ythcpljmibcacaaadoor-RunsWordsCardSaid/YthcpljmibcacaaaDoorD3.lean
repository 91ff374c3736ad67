import Derived.Test.YthcpljmibcacaaaDoorD2

set_option linter.unusedSimpArgs false
set_option linter.unusedVariables false
namespace Go.Proofs.YthcpljmibcacaaaDoor
open Go.LA Go.ArrP Go.RowKit
theorem lenR_runs (p : Nat → Bool) : lenR (runsL p) = cnt p 65536 := len_opn p 65536
theorem rankR_runs (p : Nat → Bool) (x : Int) : rankR (runsL p) x = cnt p (min (max x 0) 65536).toNat := rank_opn p x 65536
theorem selR_runs (p : Nat → Bool) (k : Int) : selR (runsL p) k = if 0 ≤ k ∧ k < cnt p 65536 then ((listS p 65536).getD k.toNat 0, true) else (0, false) := by
  have hl : listR (runsL p) = listS p 65536 := list_opn p 65536
  rw [selR_eq _ _ (fun x hx => (runs_u16 p x hx).2.2.1), lenR_runs, hl]
theorem toNat_succ (i : Nat) (h : i < 65536) : (min (max ((i : Int) + 1) 0) 65536).toNat = i + 1 := by omega
theorem rank_succ {p : Nat → Bool} {i : Nat} {k : Int} (h1 : i < 65536) (h2 : p i = true) (h3 : (cnt p i : Int) = k) : rankR (runsL p) ((i : Int) + 1) = k + 1 := by
  rw [rankR_runs, toNat_succ i h1]
  have e : cnt p (i + 1) = cnt p i + 1 := by simp only [cnt, h2, if_true]
  rw [e, ← h3]; rfl
theorem selR_none {p : Nat → Bool} {k : Int} {np : Nat} (h : np = cnt p 65536) (hk : ¬ (0 ≤ k ∧ k < np)) : selR (runsL p) k = (0, false) := by
  subst h
  rw [selR_runs]
  exact if_neg hk
theorem runsL_two {p q r : Nat → Bool} (h : ∀ i, i < 65536 → r i = (q i || p i)) : True := trivial
theorem zero_runs {p : Nat → Bool} (h : ∀ i, i < 65536 → p i = false) : runsL p = [] := by
  rw [runsL_congr (q := fun _ => false) h]
  have : (runsL (fun _ => false)).length = 0 := by
    unfold runsL; rw [many_opn]; exact cnt_zero _ (fun i _ => by simp [startsS])
  exact List.eq_nil_of_length_eq_zero this

/-! ### The list of runs -/
theorem rngL_nil (f : Int) : rngL f (-1) = [] := by simp [rngL]
theorem grown_block {w w' : World} {b : Nat} {row : Option Nat} {o : Obj} (h : w.grownBy w' row) (hb : w.heap[b]? = some o) (hne : row ≠ some b) : w'.heap[b]? = some o := by
  rw [h.block b (Array.getElem?_eq_some_iff.1 hb).1 (fun e => hne e.symm)]; exact hb
set_option maxHeartbeats 4000000 in
theorem rlistR_c (w : World) (v : Value) (rs : List Rn) (h : SlR w v rs) (hu : U16 rs) (hr : Right rs) (hn : rs.length ≤ 70000) : Fc Tryd.prog 43 #[v] w (Ret w (.pred (ownI w.heap.size 30 .u16 (listR rs)))) := by
  have hlen := h.len
  refine Fc.of (args := [_]) Tryd.func43 rfl rfl Tryd.ntmps43 (Nat.le_of_ble_eq_true rfl) ?_
  repeat' (first
   |(refine oLA ?_;first
   |refine LA_pass rfl ?_
   |(refine oI ?_; refine LA_indexR rfl _ rfl (fun _ => rfl) rfl (by first | exact HasR.val (by assumption) | exact HasR.own | exact HasR.ownV (by assumption)) rfl (by omega) ?_)
   |(refine oLt 71 ?_; refine LA_loadC rfl (fun _ => rfl) (fun _ => rfl) rfl ?_)
   |(show LA _ _ _ _ (⟨some 99, .alloc _, _, _, _, _⟩ :: _) _; refine LA_stop (hK _ _ (LX_var rfl rfl (by decide) (fun _ => rfl) (fun _ => rfl) (fun _ => rfl) rfl (by intro u hu; simp [Value.cells] at hu; rcases hu with rfl | rfl <;> rfl) (fun bx wx ex hbx hbc => ?_))); clear hK K; refine LX_la (by kernel_rfl) (fun K hK => ?_))
   |(refine oF 0 ?_; refine LA_fieldAddr (a := ⟨bx, 0, none⟩) (a' := ⟨bx, 0, none⟩) rfl rfl (fun _ => rfl) ?_)
   |(refine oF 1 ?_; refine LA_fieldAddr (a := ⟨bx, 0, none⟩) (a' := ⟨bx, 1, none⟩) rfl rfl (fun _ => rfl) ?_)
   |(refine oLt 71 ?_; refine LA_loadBN rfl (fun _ => rfl) (fun _ => rfl) rfl hbc ?_)
   |(refine oLt 30 ?_; refine LA_loadB rfl (fun _ => rfl) rfl hbc rfl ?_)
   |(refine oLen ?_; refine LA_lenR rfl _ rfl rfl (by first | exact HasR.val (by assumption) | exact HasR.own | exact HasR.ownV (by assumption)) ?_)|(refine oM ?_;first|refine LA_moveV rfl rfl ?_|refine LA_moveP rfl rfl ?_|refine LA_moveT rfl rfl ?_|refine LA_moveU rfl rfl ?_)|(refine oA ?_;first|refine LA_assignV rfl rfl ?_|refine LA_assignP rfl rfl ?_|refine LA_assignT rfl rfl ?_)|(refine oP ?_;first|refine LA_pickTV rfl rfl rfl ?_|refine LA_pickFV rfl rfl rfl ?_)|(refine oN ?_;first|refine LA_notT rfl rfl ?_|refine LA_notF rfl rfl ?_|refine LA_not rfl rfl ?_)|(refine oX ?_;first|refine LA_ext0 rfl rfl ?_|refine LA_ext1 rfl rfl ?_|refine LA_ext30 rfl rfl ?_|refine LA_ext31 rfl rfl ?_|refine LA_ext32 rfl rfl ?_)|(refine oB .add ?_;first|refine stAdd rfl rfl rfl ?_|refine LA_addW rfl rfl rfl ?_)|(refine oB .sub ?_;first|refine stSub rfl rfl rfl ?_|refine LA_subW rfl rfl rfl ?_)|(refine oB .mul ?_;first|refine stMul rfl rfl rfl ?_|refine LA_mulW rfl rfl rfl ?_)|(refine oB .quo ?_;refine stQuo rfl rfl rfl ?_)|(refine oB .rem ?_;refine stRem rfl rfl rfl ?_)|(refine oB .shr ?_;refine stShr rfl rfl rfl ?_;try dsimp only [Int.reduceToNat, Int.reducePow])|(refine oB .shl ?_;refine stShl rfl rfl rfl ?_;try dsimp only [Int.reduceToNat, Int.reducePow])|(refine oB _ ?_;first|refine stT rfl rfl rfl rfl ?_|refine stF rfl rfl rfl rfl ?_|(refine LA_cmp rfl rfl rfl rfl (fun hc => ?_) (fun hc => ?_)<;>dsimp only [cmpP] at hc)|refine stBET rfl rfl rfl rfl ?_|refine stBEF rfl rfl rfl rfl ?_|refine LA_boolEq rfl rfl rfl rfl ?_|refine stBNT rfl rfl rfl rfl ?_|refine stBNF rfl rfl rfl rfl ?_|refine LA_boolNe rfl rfl rfl rfl ?_)|(refine oI ?_;first|refine stIN rfl _ rfl (fun _ => rfl) rfl rfl ?_|(refine stII rfl _ rfl (fun _ => rfl) rfl rfl ?_;try dsimp only [Int.reduceToNat]))|(refine oL ?_;refine LA_load rfl (fun _ => rfl) rfl ?_)|(refine oV ?_;first|refine stCnv rfl rfl rfl rfl ?_|refine LA_conv rfl rfl rfl rfl ?_)|(refine oS ?_;first|(refine stSL rfl _ rfl rfl rfl (fun _ => rfl) ?_;try dsimp only [Int.reduceToNat, Int.toNat_natCast])|(refine stSH rfl _ rfl rfl rfl (fun _ => rfl) ?_;try dsimp only [Int.reduceToNat, Int.toNat_natCast])|(refine stSLH rfl _ rfl rfl rfl rfl (fun _ => rfl) ?_;try dsimp only [Int.reduceToNat, Int.toNat_natCast]))|(refine oLen ?_;refine stLen rfl _ rfl rfl ?_)
   |(refine LA_nil (hK [] _ (LX_nil ?_));clear hK K)|(refine LA_nil (hK _ ?_);clear hK K))
   |(refine oCX ?_;first
   |refine CX_seq ?_|refine CX_skip ?_|refine CX_block ?_|refine CX_exit ?_|refine CX_ret ?_|refine CX_condT rfl ?_|refine CX_condF rfl ?_|refine CX_region (by kernel_rfl) (fun K hK => ?_)|refine CX_regionA (by kernel_rfl) (by kernel_rfl) (fun K hK => ?_)|refine CX_label ?_|refine CX_scope ?_)
   |(refine oPX ?_;first
   |refine PX_then ?_|refine PX_thenX ?_|refine PX_thenR ?_|refine PX_blockN ?_|refine PX_blockR ?_|refine PX_blockX ?_|refine PX_blockO (by decide) ?_|refine PX_scopeN ?_|refine PX_scopeR ?_|refine PX_scopeX ?_)
   |(refine oLX ?_;first
   |refine LX_nil ?_))
  refine CX_loopV (ι := Nat × Value) (fun i => [(3, .val i.2), (7, .val v), (8, .val (.int .i64 rs.length)), (9, .val (.int .i64 i.1))]) (fun i w' => Ext w w' ∧ i.1 ≤ rs.length ∧ OwnI w.heap.size 30 .u16 w' i.2 (listR (rs.take i.1))) (fun i => rs.length - i.1)
    (fun w2 e2 => ⟨(0, .slice none 0 0), ⟨e2, Nat.zero_le _, OwnI.nil⟩, (by repeat' (first | exact Sub.nil | refine Sub.val rfl (by first | with_reducible rfl | (congr 1; omega)) ?_ | refine Sub.same rfl ?_))⟩) ?_
  rintro ⟨k, so⟩ w1 ⟨he, hk, ho⟩
  dsimp only at hk ho ⊢
  have h1 := h.ext he
  by_cases hkl : k < rs.length
  · obtain ⟨u1, u2, u3, u4⟩ := hu.at k
    obtain ⟨-, hr2⟩ := hr k hkl
    have hlk : ((listR (rs.take k)).length : Int) = lenR (rs.take k) := listR_len _ (fun x hx => (hu x (List.mem_of_mem_take hx)).2.2.1)
    have hb := sum_bound (fun x => x.2 + 1) 65536 (fun x h1 h2 => ⟨by omega, by omega⟩) hu k hk
    have hb : 0 ≤ lenR (rs.take k) ∧ lenR (rs.take k) ≤ 65536 * k := hb
    obtain ⟨LK, hLK⟩ : ∃ LK, LK = (listR (rs.take k)).length := ⟨_, rfl⟩
    have hLKb : LK ≤ 65536 * 70000 := by omega
    clear hlk hb
    obtain ⟨F, hF⟩ := Int.eq_ofNat_of_zero_le u1
    obtain ⟨M, hM⟩ := Int.eq_ofNat_of_zero_le u3
    rw [hF] at u2 hr2; rw [hM] at u4 hr2
    have hmin : min ((F : Int) + M + 1) 65536 = (F : Int) + M + 1 := by omega
    repeat' (first
     |(refine oLA ?_;first
     |refine LA_pass rfl ?_
     |(refine oD 12 ?_; refine LA_loadC rfl (fun _ => rfl) (fun _ => rfl) rfl ?_; rw [hF, hM])
     |(refine oI ?_; refine LA_indexR rfl _ rfl (fun _ => rfl) rfl (by first | exact HasR.val (by assumption) | exact HasR.own | exact HasR.ownV (by assumption)) rfl (by omega) ?_)
     |(refine oLt 71 ?_; refine LA_loadC rfl (fun _ => rfl) (fun _ => rfl) rfl ?_)
     |(show LA _ _ _ _ (⟨some 5, .alloc _, _, _, _, _⟩ :: _) _; refine LA_stop (hK _ _ (LX_var rfl rfl (by decide) (fun _ => rfl) (fun _ => rfl) (fun _ => rfl) rfl (by intro u hu; simp [Value.cells] at hu; rcases hu with rfl | rfl <;> rfl) (fun bx wx ex hbx hbc => ?_))); clear hK K; refine LX_la (by kernel_rfl) (fun K hK => ?_))
     |(refine oF 0 ?_; refine LA_fieldAddr (a := ⟨bx, 0, none⟩) (a' := ⟨bx, 0, none⟩) rfl rfl (fun _ => rfl) ?_)
     |(refine oF 1 ?_; refine LA_fieldAddr (a := ⟨bx, 0, none⟩) (a' := ⟨bx, 1, none⟩) rfl rfl (fun _ => rfl) ?_)
     |(refine oLt 71 ?_; refine LA_loadBN rfl (fun _ => rfl) (fun _ => rfl) rfl hbc ?_)
     |(refine oLt 30 ?_; refine LA_loadB rfl (fun _ => rfl) rfl hbc rfl ?_)
     |(refine oLen ?_; refine LA_lenR rfl _ rfl rfl (by first | exact HasR.val (by assumption) | exact HasR.own | exact HasR.ownV (by assumption)) ?_)|(refine oM ?_;first|refine LA_moveV rfl rfl ?_|refine LA_moveP rfl rfl ?_|refine LA_moveT rfl rfl ?_|refine LA_moveU rfl rfl ?_)|(refine oA ?_;first|refine LA_assignV rfl rfl ?_|refine LA_assignP rfl rfl ?_|refine LA_assignT rfl rfl ?_)|(refine oP ?_;first|refine LA_pickTV rfl rfl rfl ?_|refine LA_pickFV rfl rfl rfl ?_)|(refine oN ?_;first|refine LA_notT rfl rfl ?_|refine LA_notF rfl rfl ?_|refine LA_not rfl rfl ?_)|(refine oX ?_;first|refine LA_ext0 rfl rfl ?_|refine LA_ext1 rfl rfl ?_|refine LA_ext30 rfl rfl ?_|refine LA_ext31 rfl rfl ?_|refine LA_ext32 rfl rfl ?_)|(refine oB .add ?_;first|refine stAdd rfl rfl rfl ?_|refine LA_addW rfl rfl rfl ?_)|(refine oB .sub ?_;first|refine stSub rfl rfl rfl ?_|refine LA_subW rfl rfl rfl ?_)|(refine oB .mul ?_;first|refine stMul rfl rfl rfl ?_|refine LA_mulW rfl rfl rfl ?_)|(refine oB .quo ?_;refine stQuo rfl rfl rfl ?_)|(refine oB .rem ?_;refine stRem rfl rfl rfl ?_)|(refine oB .shr ?_;refine stShr rfl rfl rfl ?_;try dsimp only [Int.reduceToNat, Int.reducePow])|(refine oB .shl ?_;refine stShl rfl rfl rfl ?_;try dsimp only [Int.reduceToNat, Int.reducePow])|(refine oB _ ?_;first|refine stT rfl rfl rfl rfl ?_|refine stF rfl rfl rfl rfl ?_|(refine LA_cmp rfl rfl rfl rfl (fun hc => ?_) (fun hc => ?_)<;>dsimp only [cmpP] at hc)|refine stBET rfl rfl rfl rfl ?_|refine stBEF rfl rfl rfl rfl ?_|refine LA_boolEq rfl rfl rfl rfl ?_|refine stBNT rfl rfl rfl rfl ?_|refine stBNF rfl rfl rfl rfl ?_|refine LA_boolNe rfl rfl rfl rfl ?_)|(refine oI ?_;first|refine stIN rfl _ rfl (fun _ => rfl) rfl rfl ?_|(refine stII rfl _ rfl (fun _ => rfl) rfl rfl ?_;try dsimp only [Int.reduceToNat]))|(refine oL ?_;refine LA_load rfl (fun _ => rfl) rfl ?_)|(refine oV ?_;first|refine stCnv rfl rfl rfl rfl ?_|refine LA_conv rfl rfl rfl rfl ?_)|(refine oS ?_;first|(refine stSL rfl _ rfl rfl rfl (fun _ => rfl) ?_;try dsimp only [Int.reduceToNat, Int.toNat_natCast])|(refine stSH rfl _ rfl rfl rfl (fun _ => rfl) ?_;try dsimp only [Int.reduceToNat, Int.toNat_natCast])|(refine stSLH rfl _ rfl rfl rfl rfl (fun _ => rfl) ?_;try dsimp only [Int.reduceToNat, Int.toNat_natCast]))|(refine oLen ?_;refine stLen rfl _ rfl rfl ?_)
     |(refine LA_nil (hK [] _ (LX_nil ?_));clear hK K)|(refine LA_nil (hK _ ?_);clear hK K))
     |(refine oCX ?_;first
     |refine CX_seq ?_|refine CX_skip ?_|refine CX_block ?_|refine CX_exit ?_|refine CX_ret ?_|refine CX_condT rfl ?_|refine CX_condF rfl ?_|refine CX_region (by kernel_rfl) (fun K hK => ?_)|refine CX_regionA (by kernel_rfl) (by kernel_rfl) (fun K hK => ?_)|refine CX_label ?_|refine CX_scope ?_)
     |(refine oPX ?_;first
     |refine PX_then ?_|refine PX_thenX ?_|refine PX_thenR ?_|refine PX_blockN ?_|refine PX_blockR ?_|refine PX_blockX ?_|refine PX_blockO (by decide) ?_|refine PX_scopeN ?_|refine PX_scopeR ?_|refine PX_scopeX ?_)
     |(refine oLX ?_;first
     |refine LX_nil ?_))
    have ho5 := ho.ext ex
    have x5 := he.trans ex
    refine CX_loopV (ι := Nat × Value) (fun i => [(3, .val i.2), (5, .val (.pointer (some ⟨bx, 0, none⟩))), (6, .val (.int .i64 ((F : Int) + i.1))), (7, .val v), (8, .val (.int .i64 rs.length)), (9, .val (.int .i64 k))])
      (fun i w' => Ext w w' ∧ i.1 ≤ M + 1 ∧ OwnI w.heap.size 30 .u16 w' i.2 (listR (rs.take k) ++ rngL F ((i.1 : Int) - 1)) ∧ w'.heap[bx]? = some (.cells (runV F M).cells 71 (0, 0))) (fun i => M + 1 - i.1)
      (fun w2 e2 => ⟨(0, so), ⟨x5.trans e2, Nat.zero_le _, by dsimp only; rw [show (((0 : Nat) : Int) - 1) = -1 from rfl, rngL_nil, List.append_nil]; exact ho5.ext e2, e2.block hbc⟩, by dsimp only; rw [show (F : Int) + ((0 : Nat) : Int) = F by omega]; exact (by repeat' (first | exact Sub.nil | refine Sub.val rfl (by first | with_reducible rfl | (congr 1; omega)) ?_ | refine Sub.same rfl ?_))⟩) ?_
    rintro ⟨j, sj⟩ w6 ⟨he6, hj6, ho6, hbc6⟩
    dsimp only at hj6 ho6 hbc6 ⊢
    have hrl : (listR (rs.take k) ++ rngL F ((j : Int) - 1)).length = LK + j := by rw [List.length_append, rngL_len, ← hLK]; omega
    have hne : sj.ownBlock ≠ some bx := fun e => by
      rcases ho6.2 with ⟨e0, -⟩ | ⟨g, cap, cur, e0, -, hg, -⟩
      · rw [e0] at e; cases e
      · rw [e0] at e
        have : g = bx := by simpa [Value.ownBlock] using e
        subst this
        rw [hbc6] at hg
        simp only [Option.some.injEq, Obj.cells.injEq] at hg
        exact absurd hg.2.1 (by decide)
    by_cases hjl : j < M + 1
    · have hsucc := rngL_succ F j
      repeat' (first
       |(refine oLA ?_;first
       |refine LA_pass rfl ?_
       |(refine LA_min2 rfl rfl rfl ?_; rw [hmin])
       |(refine oLt 71 ?_; refine LA_loadBN rfl (fun _ => rfl) (fun _ => rfl) rfl hbc6 ?_)
       |refine LA_one rfl u16_el rfl rfl ?_
       |(refine LA_stop (hK _ _ (LX_append rfl (by decide) u16_el rfl ho6 rfl HasC.pred (by intro u hu9; simp at hu9; subst hu9; rfl) (by rw [hrl]; unfold maxLen; omega) (by rw [hrl]; omega) he6.size (fun v' w7 w8 e7 ho8 hg8 => ?_))); clear hK K; dsimp only [vals]; refine LX_la (by kernel_rfl) (fun K hK => ?_))|(refine oM ?_;first|refine LA_moveV rfl rfl ?_|refine LA_moveP rfl rfl ?_|refine LA_moveT rfl rfl ?_|refine LA_moveU rfl rfl ?_)|(refine oA ?_;first|refine LA_assignV rfl rfl ?_|refine LA_assignP rfl rfl ?_|refine LA_assignT rfl rfl ?_)|(refine oP ?_;first|refine LA_pickTV rfl rfl rfl ?_|refine LA_pickFV rfl rfl rfl ?_)|(refine oN ?_;first|refine LA_notT rfl rfl ?_|refine LA_notF rfl rfl ?_|refine LA_not rfl rfl ?_)|(refine oX ?_;first|refine LA_ext0 rfl rfl ?_|refine LA_ext1 rfl rfl ?_|refine LA_ext30 rfl rfl ?_|refine LA_ext31 rfl rfl ?_|refine LA_ext32 rfl rfl ?_)|(refine oB .add ?_;first|refine stAdd rfl rfl rfl ?_|refine LA_addW rfl rfl rfl ?_)|(refine oB .sub ?_;first|refine stSub rfl rfl rfl ?_|refine LA_subW rfl rfl rfl ?_)|(refine oB .mul ?_;first|refine stMul rfl rfl rfl ?_|refine LA_mulW rfl rfl rfl ?_)|(refine oB .quo ?_;refine stQuo rfl rfl rfl ?_)|(refine oB .rem ?_;refine stRem rfl rfl rfl ?_)|(refine oB .shr ?_;refine stShr rfl rfl rfl ?_;try dsimp only [Int.reduceToNat, Int.reducePow])|(refine oB .shl ?_;refine stShl rfl rfl rfl ?_;try dsimp only [Int.reduceToNat, Int.reducePow])|(refine oB _ ?_;first|refine stT rfl rfl rfl rfl ?_|refine stF rfl rfl rfl rfl ?_|(refine LA_cmp rfl rfl rfl rfl (fun hc => ?_) (fun hc => ?_)<;>dsimp only [cmpP] at hc)|refine stBET rfl rfl rfl rfl ?_|refine stBEF rfl rfl rfl rfl ?_|refine LA_boolEq rfl rfl rfl rfl ?_|refine stBNT rfl rfl rfl rfl ?_|refine stBNF rfl rfl rfl rfl ?_|refine LA_boolNe rfl rfl rfl rfl ?_)|(refine oI ?_;first|refine stIN rfl _ rfl (fun _ => rfl) rfl rfl ?_|(refine stII rfl _ rfl (fun _ => rfl) rfl rfl ?_;try dsimp only [Int.reduceToNat]))|(refine oL ?_;refine LA_load rfl (fun _ => rfl) rfl ?_)|(refine oV ?_;first|refine stCnv rfl rfl rfl rfl ?_|refine LA_conv rfl rfl rfl rfl ?_)|(refine oS ?_;first|(refine stSL rfl _ rfl rfl rfl (fun _ => rfl) ?_;try dsimp only [Int.reduceToNat, Int.toNat_natCast])|(refine stSH rfl _ rfl rfl rfl (fun _ => rfl) ?_;try dsimp only [Int.reduceToNat, Int.toNat_natCast])|(refine stSLH rfl _ rfl rfl rfl rfl (fun _ => rfl) ?_;try dsimp only [Int.reduceToNat, Int.toNat_natCast]))|(refine oLen ?_;refine stLen rfl _ rfl rfl ?_)
       |(refine oCv ?_;first
       |(refine oC 68 ?_; refine LA_call1 (f := 68) rfl rfl rfl  (.val (.int .i64 ((F : Int) + M + 1))) (by intro u1 w e hu1; (try obtain rfl : u1 = _ := hu1); exact end_c _ F M ⟨by omega, by omega⟩ ⟨by omega, by omega⟩) ?_))|(refine LA_nil (hK [] _ (LX_nil ?_));clear hK K)|(refine LA_nil (hK _ ?_);clear hK K))
       |(refine oCX ?_;first
       |refine CX_seq ?_|refine CX_skip ?_|refine CX_block ?_|refine CX_exit ?_|refine CX_ret ?_|refine CX_condT rfl ?_|refine CX_condF rfl ?_|refine CX_region (by kernel_rfl) (fun K hK => ?_)|refine CX_regionA (by kernel_rfl) (by kernel_rfl) (fun K hK => ?_)|refine CX_label ?_|refine CX_scope ?_)
       |(refine oPX ?_;first
       |refine PX_then ?_|refine PX_thenX ?_|refine PX_thenR ?_|refine PX_blockN ?_|refine PX_blockR ?_|refine PX_blockX ?_|refine PX_blockO (by decide) ?_|refine PX_scopeN ?_|refine PX_scopeR ?_|refine PX_scopeX ?_)
       |(refine oLX ?_;first
       |refine LX_nil ?_))
      refine PX_rndV (j + 1, v') (fun w9 e9 => ⟨((he6.trans e7).grown hg8 (fun q hq => (Own.lt ho6 q hq).1)).trans e9, by dsimp only; omega, ?_, e9.block (grown_block hg8 (e7.block hbc6) hne)⟩) (by dsimp only; omega) (by repeat' (first | exact Sub.nil | refine Sub.val rfl (by first | with_reducible rfl | (congr 1; omega)) ?_ | refine Sub.same rfl ?_))
      dsimp only
      rw [show (((j + 1 : Nat) : Int) - 1) = (j : Int) by omega, hsucc, ← List.append_assoc]
      refine OwnI.ext ?_ e9
      unfold OwnI
      rw [List.map_append, List.length_append]; exact ho8
    · obtain rfl : j = M + 1 := by omega
      repeat' (first
       |(refine oLA ?_;first
       |refine LA_pass rfl ?_
       |(refine LA_min2 rfl rfl rfl ?_; rw [hmin])
       |(refine oLt 71 ?_; refine LA_loadBN rfl (fun _ => rfl) (fun _ => rfl) rfl hbc6 ?_)|(refine oM ?_;first|refine LA_moveV rfl rfl ?_|refine LA_moveP rfl rfl ?_|refine LA_moveT rfl rfl ?_|refine LA_moveU rfl rfl ?_)|(refine oA ?_;first|refine LA_assignV rfl rfl ?_|refine LA_assignP rfl rfl ?_|refine LA_assignT rfl rfl ?_)|(refine oP ?_;first|refine LA_pickTV rfl rfl rfl ?_|refine LA_pickFV rfl rfl rfl ?_)|(refine oN ?_;first|refine LA_notT rfl rfl ?_|refine LA_notF rfl rfl ?_|refine LA_not rfl rfl ?_)|(refine oX ?_;first|refine LA_ext0 rfl rfl ?_|refine LA_ext1 rfl rfl ?_|refine LA_ext30 rfl rfl ?_|refine LA_ext31 rfl rfl ?_|refine LA_ext32 rfl rfl ?_)|(refine oB .add ?_;first|refine stAdd rfl rfl rfl ?_|refine LA_addW rfl rfl rfl ?_)|(refine oB .sub ?_;first|refine stSub rfl rfl rfl ?_|refine LA_subW rfl rfl rfl ?_)|(refine oB .mul ?_;first|refine stMul rfl rfl rfl ?_|refine LA_mulW rfl rfl rfl ?_)|(refine oB .quo ?_;refine stQuo rfl rfl rfl ?_)|(refine oB .rem ?_;refine stRem rfl rfl rfl ?_)|(refine oB .shr ?_;refine stShr rfl rfl rfl ?_;try dsimp only [Int.reduceToNat, Int.reducePow])|(refine oB .shl ?_;refine stShl rfl rfl rfl ?_;try dsimp only [Int.reduceToNat, Int.reducePow])|(refine oB _ ?_;first|refine stT rfl rfl rfl rfl ?_|refine stF rfl rfl rfl rfl ?_|(refine LA_cmp rfl rfl rfl rfl (fun hc => ?_) (fun hc => ?_)<;>dsimp only [cmpP] at hc)|refine stBET rfl rfl rfl rfl ?_|refine stBEF rfl rfl rfl rfl ?_|refine LA_boolEq rfl rfl rfl rfl ?_|refine stBNT rfl rfl rfl rfl ?_|refine stBNF rfl rfl rfl rfl ?_|refine LA_boolNe rfl rfl rfl rfl ?_)|(refine oI ?_;first|refine stIN rfl _ rfl (fun _ => rfl) rfl rfl ?_|(refine stII rfl _ rfl (fun _ => rfl) rfl rfl ?_;try dsimp only [Int.reduceToNat]))|(refine oL ?_;refine LA_load rfl (fun _ => rfl) rfl ?_)|(refine oV ?_;first|refine stCnv rfl rfl rfl rfl ?_|refine LA_conv rfl rfl rfl rfl ?_)|(refine oS ?_;first|(refine stSL rfl _ rfl rfl rfl (fun _ => rfl) ?_;try dsimp only [Int.reduceToNat, Int.toNat_natCast])|(refine stSH rfl _ rfl rfl rfl (fun _ => rfl) ?_;try dsimp only [Int.reduceToNat, Int.toNat_natCast])|(refine stSLH rfl _ rfl rfl rfl rfl (fun _ => rfl) ?_;try dsimp only [Int.reduceToNat, Int.toNat_natCast]))|(refine oLen ?_;refine stLen rfl _ rfl rfl ?_)
       |(refine oCv ?_;first
       |(refine oC 68 ?_; refine LA_call1 (f := 68) rfl rfl rfl  (.val (.int .i64 ((F : Int) + M + 1))) (by intro u1 w e hu1; (try obtain rfl : u1 = _ := hu1); exact end_c _ F M ⟨by omega, by omega⟩ ⟨by omega, by omega⟩) ?_))|(refine LA_nil (hK [] _ (LX_nil ?_));clear hK K)|(refine LA_nil (hK _ ?_);clear hK K))
       |(refine oCX ?_;first
       |refine CX_seq ?_|refine CX_skip ?_|refine CX_block ?_|refine CX_exit ?_|refine CX_ret ?_|refine CX_condT rfl ?_|refine CX_condF rfl ?_|refine CX_region (by kernel_rfl) (fun K hK => ?_)|refine CX_regionA (by kernel_rfl) (by kernel_rfl) (fun K hK => ?_)|refine CX_label ?_|refine CX_scope ?_)
       |(refine oPX ?_;first
       |refine PX_then ?_|refine PX_thenX ?_|refine PX_thenR ?_|refine PX_blockN ?_|refine PX_blockR ?_|refine PX_blockX ?_|refine PX_blockO (by decide) ?_|refine PX_scopeN ?_|refine PX_scopeR ?_|refine PX_scopeX ?_)
       |(refine oLX ?_;first
       |refine LX_nil ?_))
      refine PX_rndV (k + 1, sj) (fun w9 e9 => ⟨he6.trans e9, hkl, ?_⟩) (by dsimp only; omega) (by repeat' (first | exact Sub.nil | refine Sub.val rfl (by first | with_reducible rfl | (congr 1; omega)) ?_ | refine Sub.same rfl ?_))
      dsimp only
      rw [take_run hkl, listR_app, hF, hM]
      have hlr : listR [((F : Int), (M : Int))] = rngL F M := by simp [listR]
      rw [hlr]
      rw [show (((M + 1 : Nat) : Int) - 1) = (M : Int) by omega] at ho6
      exact ho6.ext e9
  · obtain rfl : k = rs.length := by omega
    rw [List.take_length] at ho
    repeat' (first
     |(refine oLA ?_;first
     |refine LA_pass rfl ?_|(refine oM ?_;first|refine LA_moveV rfl rfl ?_|refine LA_moveP rfl rfl ?_|refine LA_moveT rfl rfl ?_|refine LA_moveU rfl rfl ?_)|(refine oA ?_;first|refine LA_assignV rfl rfl ?_|refine LA_assignP rfl rfl ?_|refine LA_assignT rfl rfl ?_)|(refine oP ?_;first|refine LA_pickTV rfl rfl rfl ?_|refine LA_pickFV rfl rfl rfl ?_)|(refine oN ?_;first|refine LA_notT rfl rfl ?_|refine LA_notF rfl rfl ?_|refine LA_not rfl rfl ?_)|(refine oX ?_;first|refine LA_ext0 rfl rfl ?_|refine LA_ext1 rfl rfl ?_|refine LA_ext30 rfl rfl ?_|refine LA_ext31 rfl rfl ?_|refine LA_ext32 rfl rfl ?_)|(refine oB .add ?_;first|refine stAdd rfl rfl rfl ?_|refine LA_addW rfl rfl rfl ?_)|(refine oB .sub ?_;first|refine stSub rfl rfl rfl ?_|refine LA_subW rfl rfl rfl ?_)|(refine oB .mul ?_;first|refine stMul rfl rfl rfl ?_|refine LA_mulW rfl rfl rfl ?_)|(refine oB .quo ?_;refine stQuo rfl rfl rfl ?_)|(refine oB .rem ?_;refine stRem rfl rfl rfl ?_)|(refine oB .shr ?_;refine stShr rfl rfl rfl ?_;try dsimp only [Int.reduceToNat, Int.reducePow])|(refine oB .shl ?_;refine stShl rfl rfl rfl ?_;try dsimp only [Int.reduceToNat, Int.reducePow])|(refine oB _ ?_;first|refine stT rfl rfl rfl rfl ?_|refine stF rfl rfl rfl rfl ?_|(refine LA_cmp rfl rfl rfl rfl (fun hc => ?_) (fun hc => ?_)<;>dsimp only [cmpP] at hc)|refine stBET rfl rfl rfl rfl ?_|refine stBEF rfl rfl rfl rfl ?_|refine LA_boolEq rfl rfl rfl rfl ?_|refine stBNT rfl rfl rfl rfl ?_|refine stBNF rfl rfl rfl rfl ?_|refine LA_boolNe rfl rfl rfl rfl ?_)|(refine oI ?_;first|refine stIN rfl _ rfl (fun _ => rfl) rfl rfl ?_|(refine stII rfl _ rfl (fun _ => rfl) rfl rfl ?_;try dsimp only [Int.reduceToNat]))|(refine oL ?_;refine LA_load rfl (fun _ => rfl) rfl ?_)|(refine oV ?_;first|refine stCnv rfl rfl rfl rfl ?_|refine LA_conv rfl rfl rfl rfl ?_)|(refine oS ?_;first|(refine stSL rfl _ rfl rfl rfl (fun _ => rfl) ?_;try dsimp only [Int.reduceToNat, Int.toNat_natCast])|(refine stSH rfl _ rfl rfl rfl (fun _ => rfl) ?_;try dsimp only [Int.reduceToNat, Int.toNat_natCast])|(refine stSLH rfl _ rfl rfl rfl rfl (fun _ => rfl) ?_;try dsimp only [Int.reduceToNat, Int.toNat_natCast]))|(refine oLen ?_;refine stLen rfl _ rfl rfl ?_)
     |(refine LA_nil (hK [] _ (LX_nil ?_));clear hK K)|(refine LA_nil (hK _ ?_);clear hK K))
     |(refine oCX ?_;first
     |refine CX_seq ?_|refine CX_skip ?_|refine CX_block ?_|refine CX_exit ?_|refine CX_ret ?_|refine CX_condT rfl ?_|refine CX_condF rfl ?_|refine CX_region (by kernel_rfl) (fun K hK => ?_)|refine CX_regionA (by kernel_rfl) (by kernel_rfl) (fun K hK => ?_)|refine CX_label ?_|refine CX_scope ?_)
     |(refine oPX ?_;first
     |refine PX_then ?_|refine PX_thenX ?_|refine PX_thenR ?_|refine PX_blockN ?_|refine PX_blockR ?_|refine PX_blockX ?_|refine PX_blockO (by decide) ?_|refine PX_scopeN ?_|refine PX_scopeR ?_|refine PX_scopeX ?_)
     |(refine oLX ?_;first
     |refine LX_nil ?_))
    exact PX_retP rfl rfl he (fun u w5 e5 hu' => by obtain rfl : u = _ := hu'; exact ho.ext e5)

/-! ### Are they right? (the document's) -/
set_option maxHeartbeats 4000000 in
theorem rmay06_c (w : World) (v : Value) (rs : List Rn) (h : SlR w v rs) (hu : U16 rs) : Fc Tryd.prog 36 #[v] w (Ret w (.val (.bool (decide (Right rs))))) := by
  have hlen := h.len
  refine Fc.of (args := [_]) Tryd.func36 rfl rfl Tryd.ntmps36 (Nat.le_of_ble_eq_true rfl) ?_
  repeat' (first
   |(refine oLA ?_;first
   |refine LA_pass rfl ?_|(refine oM ?_;first|refine LA_moveV rfl rfl ?_|refine LA_moveP rfl rfl ?_|refine LA_moveT rfl rfl ?_|refine LA_moveU rfl rfl ?_)|(refine oA ?_;first|refine LA_assignV rfl rfl ?_|refine LA_assignP rfl rfl ?_|refine LA_assignT rfl rfl ?_)|(refine oP ?_;first|refine LA_pickTV rfl rfl rfl ?_|refine LA_pickFV rfl rfl rfl ?_)|(refine oN ?_;first|refine LA_notT rfl rfl ?_|refine LA_notF rfl rfl ?_|refine LA_not rfl rfl ?_)|(refine oX ?_;first|refine LA_ext0 rfl rfl ?_|refine LA_ext1 rfl rfl ?_|refine LA_ext30 rfl rfl ?_|refine LA_ext31 rfl rfl ?_|refine LA_ext32 rfl rfl ?_)|(refine oB .add ?_;first|refine stAdd rfl rfl rfl ?_|refine LA_addW rfl rfl rfl ?_)|(refine oB .sub ?_;first|refine stSub rfl rfl rfl ?_|refine LA_subW rfl rfl rfl ?_)|(refine oB .mul ?_;first|refine stMul rfl rfl rfl ?_|refine LA_mulW rfl rfl rfl ?_)|(refine oB .quo ?_;refine stQuo rfl rfl rfl ?_)|(refine oB .rem ?_;refine stRem rfl rfl rfl ?_)|(refine oB .shr ?_;refine stShr rfl rfl rfl ?_;try dsimp only [Int.reduceToNat, Int.reducePow])|(refine oB .shl ?_;refine stShl rfl rfl rfl ?_;try dsimp only [Int.reduceToNat, Int.reducePow])|(refine oB _ ?_;first|refine stT rfl rfl rfl rfl ?_|refine stF rfl rfl rfl rfl ?_|(refine LA_cmp rfl rfl rfl rfl (fun hc => ?_) (fun hc => ?_)<;>dsimp only [cmpP] at hc)|refine stBET rfl rfl rfl rfl ?_|refine stBEF rfl rfl rfl rfl ?_|refine LA_boolEq rfl rfl rfl rfl ?_|refine stBNT rfl rfl rfl rfl ?_|refine stBNF rfl rfl rfl rfl ?_|refine LA_boolNe rfl rfl rfl rfl ?_)|(refine oI ?_;first|refine stIN rfl _ rfl (fun _ => rfl) rfl rfl ?_|(refine stII rfl _ rfl (fun _ => rfl) rfl rfl ?_;try dsimp only [Int.reduceToNat]))|(refine oL ?_;refine LA_load rfl (fun _ => rfl) rfl ?_)|(refine oV ?_;first|refine stCnv rfl rfl rfl rfl ?_|refine LA_conv rfl rfl rfl rfl ?_)|(refine oS ?_;first|(refine stSL rfl _ rfl rfl rfl (fun _ => rfl) ?_;try dsimp only [Int.reduceToNat, Int.toNat_natCast])|(refine stSH rfl _ rfl rfl rfl (fun _ => rfl) ?_;try dsimp only [Int.reduceToNat, Int.toNat_natCast])|(refine stSLH rfl _ rfl rfl rfl rfl (fun _ => rfl) ?_;try dsimp only [Int.reduceToNat, Int.toNat_natCast]))|(refine oLen ?_;refine stLen rfl _ rfl rfl ?_)
   |(refine LA_nil (hK [] _ (LX_nil ?_));clear hK K)|(refine LA_nil (hK _ ?_);clear hK K))
   |(refine oCX ?_;first
   |refine CX_seq ?_|refine CX_skip ?_|refine CX_block ?_|refine CX_exit ?_|refine CX_ret ?_|refine CX_condT rfl ?_|refine CX_condF rfl ?_|refine CX_region (by kernel_rfl) (fun K hK => ?_)|refine CX_regionA (by kernel_rfl) (by kernel_rfl) (fun K hK => ?_)|refine CX_label ?_|refine CX_scope ?_)
   |(refine oPX ?_;first
   |refine PX_then ?_|refine PX_thenX ?_|refine PX_thenR ?_|refine PX_blockN ?_|refine PX_blockR ?_|refine PX_blockX ?_|refine PX_blockO (by decide) ?_|refine PX_scopeN ?_|refine PX_scopeR ?_|refine PX_scopeX ?_)
   |(refine oLX ?_;first
   |refine LX_nil ?_))
  refine CX_loop (ι := Nat) (fun k => [(0, .val v), (3, .val (.int .i64 (lst rs k))), (4, .val (.int .i64 k))]) (fun k => k ≤ rs.length ∧ ∀ j, j < k → lst rs j ≤ fst rs j ∧ fst rs j + mor rs j + 1 ≤ 65536) (fun k => rs.length - k) 0 ⟨Nat.zero_le _, fun j hj => by omega⟩ (by repeat' (first | exact Sub.nil | refine Sub.val rfl (by first | with_reducible rfl | (congr 1; omega)) ?_ | refine Sub.same rfl ?_)) ?_
  rintro k ⟨hk, hr⟩
  by_cases hkl : k < rs.length
  · obtain ⟨u1, u2, u3, u4⟩ := hu.at k
    have hl := rlst_le hu k hkl hr
    have hls : lst rs (k + 1) = fst rs k + mor rs k + 2 := rfl
    by_cases hok : lst rs k ≤ fst rs k ∧ fst rs k + mor rs k + 1 ≤ 65536
    · skip
      repeat' (first
       |(refine oLA ?_;first
       |refine LA_pass rfl ?_
       |(refine oF 0 ?_; refine LA_fieldC (f := 0) (o := 0) rfl rfl (fun _ _ => rfl) ?_)
       |(refine oF 1 ?_; refine LA_fieldC (f := 1) (o := 1) rfl rfl (fun _ _ => rfl) ?_)
       |(refine oLt 30 ?_; refine LA_loadH rfl (fun _ => rfl) rfl rfl ?_)
       |(refine oI ?_; refine LA_indexR rfl _ rfl (fun _ => rfl) rfl (by first | exact HasR.val (by assumption) | exact HasR.own | exact HasR.ownV (by assumption)) rfl (by omega) ?_)
       |(refine oLt 71 ?_; refine LA_loadC rfl (fun _ => rfl) (fun _ => rfl) rfl ?_)
       |(show LA _ _ _ _ (⟨some 99, .alloc _, _, _, _, _⟩ :: _) _; refine LA_stop (hK _ _ (LX_var rfl rfl (by decide) (fun _ => rfl) (fun _ => rfl) (fun _ => rfl) rfl (by intro u hu; simp [Value.cells] at hu; rcases hu with rfl | rfl <;> rfl) (fun bx wx ex hbx hbc => ?_))); clear hK K; refine LX_la (by kernel_rfl) (fun K hK => ?_))
       |(refine oF 0 ?_; refine LA_fieldAddr (a := ⟨bx, 0, none⟩) (a' := ⟨bx, 0, none⟩) rfl rfl (fun _ => rfl) ?_)
       |(refine oF 1 ?_; refine LA_fieldAddr (a := ⟨bx, 0, none⟩) (a' := ⟨bx, 1, none⟩) rfl rfl (fun _ => rfl) ?_)
       |(refine oLt 71 ?_; refine LA_loadBN rfl (fun _ => rfl) (fun _ => rfl) rfl hbc ?_)
       |(refine oLt 30 ?_; refine LA_loadB rfl (fun _ => rfl) rfl hbc rfl ?_)
       |(refine oLen ?_; refine LA_lenR rfl _ rfl rfl (by first | exact HasR.val (by assumption) | exact HasR.own | exact HasR.ownV (by assumption)) ?_)|(refine oM ?_;first|refine LA_moveV rfl rfl ?_|refine LA_moveP rfl rfl ?_|refine LA_moveT rfl rfl ?_|refine LA_moveU rfl rfl ?_)|(refine oA ?_;first|refine LA_assignV rfl rfl ?_|refine LA_assignP rfl rfl ?_|refine LA_assignT rfl rfl ?_)|(refine oP ?_;first|refine LA_pickTV rfl rfl rfl ?_|refine LA_pickFV rfl rfl rfl ?_)|(refine oN ?_;first|refine LA_notT rfl rfl ?_|refine LA_notF rfl rfl ?_|refine LA_not rfl rfl ?_)|(refine oX ?_;first|refine LA_ext0 rfl rfl ?_|refine LA_ext1 rfl rfl ?_|refine LA_ext30 rfl rfl ?_|refine LA_ext31 rfl rfl ?_|refine LA_ext32 rfl rfl ?_)|(refine oB .add ?_;first|refine stAdd rfl rfl rfl ?_|refine LA_addW rfl rfl rfl ?_)|(refine oB .sub ?_;first|refine stSub rfl rfl rfl ?_|refine LA_subW rfl rfl rfl ?_)|(refine oB .mul ?_;first|refine stMul rfl rfl rfl ?_|refine LA_mulW rfl rfl rfl ?_)|(refine oB .quo ?_;refine stQuo rfl rfl rfl ?_)|(refine oB .rem ?_;refine stRem rfl rfl rfl ?_)|(refine oB .shr ?_;refine stShr rfl rfl rfl ?_;try dsimp only [Int.reduceToNat, Int.reducePow])|(refine oB .shl ?_;refine stShl rfl rfl rfl ?_;try dsimp only [Int.reduceToNat, Int.reducePow])|(refine oB _ ?_;first|refine stT rfl rfl rfl rfl ?_|refine stF rfl rfl rfl rfl ?_|(refine LA_cmp rfl rfl rfl rfl (fun hc => ?_) (fun hc => ?_)<;>dsimp only [cmpP] at hc)|refine stBET rfl rfl rfl rfl ?_|refine stBEF rfl rfl rfl rfl ?_|refine LA_boolEq rfl rfl rfl rfl ?_|refine stBNT rfl rfl rfl rfl ?_|refine stBNF rfl rfl rfl rfl ?_|refine LA_boolNe rfl rfl rfl rfl ?_)|(refine oI ?_;first|refine stIN rfl _ rfl (fun _ => rfl) rfl rfl ?_|(refine stII rfl _ rfl (fun _ => rfl) rfl rfl ?_;try dsimp only [Int.reduceToNat]))|(refine oL ?_;refine LA_load rfl (fun _ => rfl) rfl ?_)|(refine oV ?_;first|refine stCnv rfl rfl rfl rfl ?_|refine LA_conv rfl rfl rfl rfl ?_)|(refine oS ?_;first|(refine stSL rfl _ rfl rfl rfl (fun _ => rfl) ?_;try dsimp only [Int.reduceToNat, Int.toNat_natCast])|(refine stSH rfl _ rfl rfl rfl (fun _ => rfl) ?_;try dsimp only [Int.reduceToNat, Int.toNat_natCast])|(refine stSLH rfl _ rfl rfl rfl rfl (fun _ => rfl) ?_;try dsimp only [Int.reduceToNat, Int.toNat_natCast]))|(refine oLen ?_;refine stLen rfl _ rfl rfl ?_)
       |(refine LA_nil (hK [] _ (LX_nil ?_));clear hK K)|(refine LA_nil (hK _ ?_);clear hK K))
       |(refine oCX ?_;first
       |refine CX_seq ?_|refine CX_skip ?_|refine CX_block ?_|refine CX_exit ?_|refine CX_ret ?_|refine CX_condT rfl ?_|refine CX_condF rfl ?_|refine CX_region (by kernel_rfl) (fun K hK => ?_)|refine CX_regionA (by kernel_rfl) (by kernel_rfl) (fun K hK => ?_)|refine CX_label ?_|refine CX_scope ?_)
       |(refine oPX ?_;first
       |refine PX_then ?_|refine PX_thenX ?_|refine PX_thenR ?_|refine PX_blockN ?_|refine PX_blockR ?_|refine PX_blockX ?_|refine PX_blockO (by decide) ?_|refine PX_scopeN ?_|refine PX_scopeR ?_|refine PX_scopeX ?_)
       |(refine oLX ?_;first
       |refine LX_nil ?_))
      refine PX_rnd (k + 1) ⟨hkl, fun j hj => ?_⟩ (by omega) (by rw [hls]; exact (by repeat' (first | exact Sub.nil | refine Sub.val rfl (by first | with_reducible rfl | (congr 1; omega)) ?_ | refine Sub.same rfl ?_)))
      by_cases e : j = k
      · subst e; exact hok
      · exact hr j (by omega)
    · have hno : decide (Right rs) = false := decide_eq_false (fun h => hok (h k hkl))
      rw [hno]
      by_cases h2 : fst rs k < lst rs k
      all_goals
        repeat' (first
         |(refine oLA ?_;first
         |refine LA_pass rfl ?_
         |(refine oF 0 ?_; refine LA_fieldC (f := 0) (o := 0) rfl rfl (fun _ _ => rfl) ?_)
         |(refine oF 1 ?_; refine LA_fieldC (f := 1) (o := 1) rfl rfl (fun _ _ => rfl) ?_)
         |(refine oLt 30 ?_; refine LA_loadH rfl (fun _ => rfl) rfl rfl ?_)
         |(refine oI ?_; refine LA_indexR rfl _ rfl (fun _ => rfl) rfl (by first | exact HasR.val (by assumption) | exact HasR.own | exact HasR.ownV (by assumption)) rfl (by omega) ?_)
         |(refine oLt 71 ?_; refine LA_loadC rfl (fun _ => rfl) (fun _ => rfl) rfl ?_)
         |(show LA _ _ _ _ (⟨some 99, .alloc _, _, _, _, _⟩ :: _) _; refine LA_stop (hK _ _ (LX_var rfl rfl (by decide) (fun _ => rfl) (fun _ => rfl) (fun _ => rfl) rfl (by intro u hu; simp [Value.cells] at hu; rcases hu with rfl | rfl <;> rfl) (fun bx wx ex hbx hbc => ?_))); clear hK K; refine LX_la (by kernel_rfl) (fun K hK => ?_))
         |(refine oF 0 ?_; refine LA_fieldAddr (a := ⟨bx, 0, none⟩) (a' := ⟨bx, 0, none⟩) rfl rfl (fun _ => rfl) ?_)
         |(refine oF 1 ?_; refine LA_fieldAddr (a := ⟨bx, 0, none⟩) (a' := ⟨bx, 1, none⟩) rfl rfl (fun _ => rfl) ?_)
         |(refine oLt 71 ?_; refine LA_loadBN rfl (fun _ => rfl) (fun _ => rfl) rfl hbc ?_)
         |(refine oLt 30 ?_; refine LA_loadB rfl (fun _ => rfl) rfl hbc rfl ?_)
         |(refine oLen ?_; refine LA_lenR rfl _ rfl rfl (by first | exact HasR.val (by assumption) | exact HasR.own | exact HasR.ownV (by assumption)) ?_)|(refine oM ?_;first|refine LA_moveV rfl rfl ?_|refine LA_moveP rfl rfl ?_|refine LA_moveT rfl rfl ?_|refine LA_moveU rfl rfl ?_)|(refine oA ?_;first|refine LA_assignV rfl rfl ?_|refine LA_assignP rfl rfl ?_|refine LA_assignT rfl rfl ?_)|(refine oP ?_;first|refine LA_pickTV rfl rfl rfl ?_|refine LA_pickFV rfl rfl rfl ?_)|(refine oN ?_;first|refine LA_notT rfl rfl ?_|refine LA_notF rfl rfl ?_|refine LA_not rfl rfl ?_)|(refine oX ?_;first|refine LA_ext0 rfl rfl ?_|refine LA_ext1 rfl rfl ?_|refine LA_ext30 rfl rfl ?_|refine LA_ext31 rfl rfl ?_|refine LA_ext32 rfl rfl ?_)|(refine oB .add ?_;first|refine stAdd rfl rfl rfl ?_|refine LA_addW rfl rfl rfl ?_)|(refine oB .sub ?_;first|refine stSub rfl rfl rfl ?_|refine LA_subW rfl rfl rfl ?_)|(refine oB .mul ?_;first|refine stMul rfl rfl rfl ?_|refine LA_mulW rfl rfl rfl ?_)|(refine oB .quo ?_;refine stQuo rfl rfl rfl ?_)|(refine oB .rem ?_;refine stRem rfl rfl rfl ?_)|(refine oB .shr ?_;refine stShr rfl rfl rfl ?_;try dsimp only [Int.reduceToNat, Int.reducePow])|(refine oB .shl ?_;refine stShl rfl rfl rfl ?_;try dsimp only [Int.reduceToNat, Int.reducePow])|(refine oB _ ?_;first|refine stT rfl rfl rfl rfl ?_|refine stF rfl rfl rfl rfl ?_|(refine LA_cmp rfl rfl rfl rfl (fun hc => ?_) (fun hc => ?_)<;>dsimp only [cmpP] at hc)|refine stBET rfl rfl rfl rfl ?_|refine stBEF rfl rfl rfl rfl ?_|refine LA_boolEq rfl rfl rfl rfl ?_|refine stBNT rfl rfl rfl rfl ?_|refine stBNF rfl rfl rfl rfl ?_|refine LA_boolNe rfl rfl rfl rfl ?_)|(refine oI ?_;first|refine stIN rfl _ rfl (fun _ => rfl) rfl rfl ?_|(refine stII rfl _ rfl (fun _ => rfl) rfl rfl ?_;try dsimp only [Int.reduceToNat]))|(refine oL ?_;refine LA_load rfl (fun _ => rfl) rfl ?_)|(refine oV ?_;first|refine stCnv rfl rfl rfl rfl ?_|refine LA_conv rfl rfl rfl rfl ?_)|(refine oS ?_;first|(refine stSL rfl _ rfl rfl rfl (fun _ => rfl) ?_;try dsimp only [Int.reduceToNat, Int.toNat_natCast])|(refine stSH rfl _ rfl rfl rfl (fun _ => rfl) ?_;try dsimp only [Int.reduceToNat, Int.toNat_natCast])|(refine stSLH rfl _ rfl rfl rfl rfl (fun _ => rfl) ?_;try dsimp only [Int.reduceToNat, Int.toNat_natCast]))|(refine oLen ?_;refine stLen rfl _ rfl rfl ?_)
         |(refine LA_nil (hK [] _ (LX_nil ?_));clear hK K)|(refine LA_nil (hK _ ?_);clear hK K))
         |(refine oCX ?_;first
         |refine CX_seq ?_|refine CX_skip ?_|refine CX_block ?_|refine CX_exit ?_|refine CX_ret ?_|refine CX_condT rfl ?_|refine CX_condF rfl ?_|refine CX_region (by kernel_rfl) (fun K hK => ?_)|refine CX_regionA (by kernel_rfl) (by kernel_rfl) (fun K hK => ?_)|refine CX_label ?_|refine CX_scope ?_)
         |(refine oPX ?_;first
         |refine PX_then ?_|refine PX_thenX ?_|refine PX_thenR ?_|refine PX_blockN ?_|refine PX_blockR ?_|refine PX_blockX ?_|refine PX_blockO (by decide) ?_|refine PX_scopeN ?_|refine PX_scopeR ?_|refine PX_scopeX ?_
         |exact PX_retE rfl rfl (Ext.refl _) rfl)
         |(refine oLX ?_;first
         |refine LX_nil ?_))
  · obtain rfl : k = rs.length := by omega
    rw [decide_eq_true (show Right rs from hr)]
    repeat' (first
     |(refine oLA ?_;first
     |refine LA_pass rfl ?_
     |(refine oI ?_; refine LA_indexR rfl _ rfl (fun _ => rfl) rfl (by first | exact HasR.val (by assumption) | exact HasR.own | exact HasR.ownV (by assumption)) rfl (by omega) ?_)
     |(refine oLt 71 ?_; refine LA_loadC rfl (fun _ => rfl) (fun _ => rfl) rfl ?_)
     |(show LA _ _ _ _ (⟨some 99, .alloc _, _, _, _, _⟩ :: _) _; refine LA_stop (hK _ _ (LX_var rfl rfl (by decide) (fun _ => rfl) (fun _ => rfl) (fun _ => rfl) rfl (by intro u hu; simp [Value.cells] at hu; rcases hu with rfl | rfl <;> rfl) (fun bx wx ex hbx hbc => ?_))); clear hK K; refine LX_la (by kernel_rfl) (fun K hK => ?_))
     |(refine oF 0 ?_; refine LA_fieldAddr (a := ⟨bx, 0, none⟩) (a' := ⟨bx, 0, none⟩) rfl rfl (fun _ => rfl) ?_)
     |(refine oF 1 ?_; refine LA_fieldAddr (a := ⟨bx, 0, none⟩) (a' := ⟨bx, 1, none⟩) rfl rfl (fun _ => rfl) ?_)
     |(refine oLt 71 ?_; refine LA_loadBN rfl (fun _ => rfl) (fun _ => rfl) rfl hbc ?_)
     |(refine oLt 30 ?_; refine LA_loadB rfl (fun _ => rfl) rfl hbc rfl ?_)
     |(refine oLen ?_; refine LA_lenR rfl _ rfl rfl (by first | exact HasR.val (by assumption) | exact HasR.own | exact HasR.ownV (by assumption)) ?_)|(refine oM ?_;first|refine LA_moveV rfl rfl ?_|refine LA_moveP rfl rfl ?_|refine LA_moveT rfl rfl ?_|refine LA_moveU rfl rfl ?_)|(refine oA ?_;first|refine LA_assignV rfl rfl ?_|refine LA_assignP rfl rfl ?_|refine LA_assignT rfl rfl ?_)|(refine oP ?_;first|refine LA_pickTV rfl rfl rfl ?_|refine LA_pickFV rfl rfl rfl ?_)|(refine oN ?_;first|refine LA_notT rfl rfl ?_|refine LA_notF rfl rfl ?_|refine LA_not rfl rfl ?_)|(refine oX ?_;first|refine LA_ext0 rfl rfl ?_|refine LA_ext1 rfl rfl ?_|refine LA_ext30 rfl rfl ?_|refine LA_ext31 rfl rfl ?_|refine LA_ext32 rfl rfl ?_)|(refine oB .add ?_;first|refine stAdd rfl rfl rfl ?_|refine LA_addW rfl rfl rfl ?_)|(refine oB .sub ?_;first|refine stSub rfl rfl rfl ?_|refine LA_subW rfl rfl rfl ?_)|(refine oB .mul ?_;first|refine stMul rfl rfl rfl ?_|refine LA_mulW rfl rfl rfl ?_)|(refine oB .quo ?_;refine stQuo rfl rfl rfl ?_)|(refine oB .rem ?_;refine stRem rfl rfl rfl ?_)|(refine oB .shr ?_;refine stShr rfl rfl rfl ?_;try dsimp only [Int.reduceToNat, Int.reducePow])|(refine oB .shl ?_;refine stShl rfl rfl rfl ?_;try dsimp only [Int.reduceToNat, Int.reducePow])|(refine oB _ ?_;first|refine stT rfl rfl rfl rfl ?_|refine stF rfl rfl rfl rfl ?_|(refine LA_cmp rfl rfl rfl rfl (fun hc => ?_) (fun hc => ?_)<;>dsimp only [cmpP] at hc)|refine stBET rfl rfl rfl rfl ?_|refine stBEF rfl rfl rfl rfl ?_|refine LA_boolEq rfl rfl rfl rfl ?_|refine stBNT rfl rfl rfl rfl ?_|refine stBNF rfl rfl rfl rfl ?_|refine LA_boolNe rfl rfl rfl rfl ?_)|(refine oI ?_;first|refine stIN rfl _ rfl (fun _ => rfl) rfl rfl ?_|(refine stII rfl _ rfl (fun _ => rfl) rfl rfl ?_;try dsimp only [Int.reduceToNat]))|(refine oL ?_;refine LA_load rfl (fun _ => rfl) rfl ?_)|(refine oV ?_;first|refine stCnv rfl rfl rfl rfl ?_|refine LA_conv rfl rfl rfl rfl ?_)|(refine oS ?_;first|(refine stSL rfl _ rfl rfl rfl (fun _ => rfl) ?_;try dsimp only [Int.reduceToNat, Int.toNat_natCast])|(refine stSH rfl _ rfl rfl rfl (fun _ => rfl) ?_;try dsimp only [Int.reduceToNat, Int.toNat_natCast])|(refine stSLH rfl _ rfl rfl rfl rfl (fun _ => rfl) ?_;try dsimp only [Int.reduceToNat, Int.toNat_natCast]))|(refine oLen ?_;refine stLen rfl _ rfl rfl ?_)
     |(refine LA_nil (hK [] _ (LX_nil ?_));clear hK K)|(refine LA_nil (hK _ ?_);clear hK K))
     |(refine oCX ?_;first
     |refine CX_seq ?_|refine CX_skip ?_|refine CX_block ?_|refine CX_exit ?_|refine CX_ret ?_|refine CX_condT rfl ?_|refine CX_condF rfl ?_|refine CX_region (by kernel_rfl) (fun K hK => ?_)|refine CX_regionA (by kernel_rfl) (by kernel_rfl) (fun K hK => ?_)|refine CX_label ?_|refine CX_scope ?_)
     |(refine oPX ?_;first
     |refine PX_then ?_|refine PX_thenX ?_|refine PX_thenR ?_|refine PX_blockN ?_|refine PX_blockR ?_|refine PX_blockX ?_|refine PX_blockO (by decide) ?_|refine PX_scopeN ?_|refine PX_scopeR ?_|refine PX_scopeX ?_)
     |(refine oLX ?_;first
     |refine LX_nil ?_))
    exact PX_retE rfl rfl (Ext.refl _) rfl

end Go.Proofs.YthcpljmibcacaaaDoor
