import Derived.Test.YthcpljmibcacaaaDoorW12
set_option linter.unusedSimpArgs false
set_option linter.unusedVariables false
namespace Go.Proofs.YthcpljmibcacaaaDoor
open Go.LA Go.ArrP Go.RowKit
/-! ### The calls of words over a set p of numbers below 65536 -/
section
variable (w : World) (v u : Value) (p q : Nat → Bool) (h : SlI .u64 w v (wordsOf p))
theorem cnt_wbit (n : Nat) (hn : n ≤ 65536) : cnt (wbit (wordsOf p)) n = cnt p n := cnt_congr n fun i hi => wordsOf_bit p (by omega)
theorem listS_wbit : listS (wbit (wordsOf p)) 65536 = listS p 65536 := listS_congr 65536 fun i hi => wordsOf_bit p hi
theorem cnt16 (n : Nat) : cnt p n ≤ n := cnt_le p n
include h
theorem wlenP : Fc Tryd.prog 14 #[v] w (Ret w (.val (.int .i64 (cnt p 65536)))) := by
  have := wlen_c w v _ h (wordsOf_lw p) (by rw [wordsOf_len]; decide)
  rwa [wordsOf_len, cnt_wbit p _ (by decide)] at this
theorem wrankP (x : Int) (hx : -9223372036854775808 ≤ x ∧ x < 9223372036854775808) : Fc Tryd.prog 16 #[v, .int .i64 x] w (Ret w (.val (.int .i64 (cnt p (min (max x 0) 65536).toNat)))) := by
  have := wrank_c w v _ x h (wordsOf_lw p) (by rw [wordsOf_len]; decide) hx
  rw [wordsOf_len] at this
  have e : (min (max x 0) (64 * ((1024 : Nat) : Int))).toNat = (min (max x 0) 65536).toNat := by omega
  rwa [e, cnt_wbit p _ (by omega)] at this
def selP (k : Int) : Int × Bool := if 0 ≤ k ∧ k < cnt p 65536 then ((listS p 65536).getD k.toNat 0, true) else (0, false)
omit h in
theorem selS_P (k : Int) : selS (wordsOf p) k = selP p k := by
  unfold selS selP
  rw [wordsOf_len, show 64 * min 1024 1024 = 65536 by decide, cnt_wbit p _ (Nat.le_refl _), listS_wbit]
theorem wselP (hT : Tab w) (k : Int) (hk : -9223372036854775808 ≤ k ∧ k < 9223372036854775808) : Fc Tryd.prog 15 #[v, .int .i64 k] w (Ret w (.tup2 (.val (.int .u16 (selP p k).1)) (.val (.bool (selP p k).2)))) := by
  have := wsel_c w v _ k h (wordsOf_lw p) hT hk
  rwa [selS_P] at this
theorem wlistP (hT : Tab w) : Fc Tryd.prog 11 #[v] w (Ret w (.pred (ownI w.heap.size 30 .u16 (listS p 65536)))) := by
  have := wlist_c w v _ h (wordsOf_lw p) hT
  rwa [wordsOf_len, show 64 * min 1024 1024 = 65536 by decide, listS_wbit] at this
theorem whasP (x : Nat) (hx : x < 65536) : Fc Tryd.prog 17 #[v, .int .u16 x] w (Ret w (.val (.bool (p x)))) := by
  have := whas_c w v _ x h (wordsOf_lw p) hx
  rwa [wordsOf_bit p hx] at this
theorem wrunsP : Fc Tryd.prog 29 #[v] w (Ret w (.val (.int .i64 (cnt (startsS p) 65536)))) := by
  have := wruns_c w v _ h (wordsOf_lw p) (by rw [wordsOf_len]; decide)
  have e : cnt (startsS (wbit (wordsOf p))) (64 * 1024) = cnt (startsS p) 65536 := cnt_congr 65536 fun i hi => by
    unfold startsS
    rw [wordsOf_bit p hi]
    by_cases h0 : i = 0
    · subst h0; rfl
    · rw [wordsOf_bit p (by omega)]
  rwa [wordsOf_len, e] at this
theorem wflipP (lo hi : Int) (hlo : -9223372036854775808 ≤ lo ∧ lo < 9223372036854775808) (hhi : -9223372036854775808 ≤ hi ∧ hi < 9223372036854775808) :
    Fc Tryd.prog 13 #[v, .int .i64 lo, .int .i64 hi] w (Ret w (.pred (ownI w.heap.size 43 .u64 (wordsOf (flipM p lo hi))))) := by
  have := wflip_c w v _ lo hi h (wordsOf_lw p) hlo hhi
  rwa [wordsOf_congr (q := flipM p lo hi) (fun i hi => by unfold flipP flipM; rw [wordsOf_bit p hi])] at this
omit h in
theorem eachP_P (F : Bool → Bool → Bool) : wordsOf (eachP F (wordsOf p) (wordsOf q)) = wordsOf (fun i => F (p i) (q i)) := wordsOf_congr fun i hi => by
  unfold eachP
  rw [wordsOf_len, wordsOf_len, wordsOf_bit p hi, wordsOf_bit q hi, decide_eq_true (by omega)]; rfl
variable (h' : SlI .u64 w u (wordsOf q))
include h'
theorem wandP : Fc Tryd.prog 18 #[v, u] w (Ret w (.pred (ownI w.heap.size 43 .u64 (wordsOf (fun i => p i && q i))))) := by
  have := wand_c w v u _ _ h h' (wordsOf_lw p) (wordsOf_lw q)
  rwa [eachP_P p q (fun x y => x && y)] at this
theorem worP : Fc Tryd.prog 20 #[v, u] w (Ret w (.pred (ownI w.heap.size 43 .u64 (wordsOf (fun i => p i || q i))))) := by
  have := wor_c w v u _ _ h h' (wordsOf_lw p) (wordsOf_lw q)
  rwa [eachP_P p q (fun x y => x || y)] at this
theorem wnotP : Fc Tryd.prog 21 #[v, u] w (Ret w (.pred (ownI w.heap.size 43 .u64 (wordsOf (fun i => p i && !q i))))) := by
  have := wnot_c w v u _ _ h h' (wordsOf_lw p) (wordsOf_lw q)
  rwa [eachP_P p q (fun x y => x && !y)] at this
theorem wxorP : Fc Tryd.prog 22 #[v, u] w (Ret w (.pred (ownI w.heap.size 43 .u64 (wordsOf (fun i => !(p i == q i)))))) := by
  have := wxor_c w v u _ _ h h' (wordsOf_lw p) (wordsOf_lw q)
  rwa [eachP_P p q (fun x y => !(x == y))] at this
end

/-- A fact that arithmetic is not to see. -/
structure Hid (P : Prop) : Prop where
  out : P
theorem ret_w {w : World} {base base' e : Nat} {xs ys : List Int} {k : IntKind} (hb : base' ≤ base) (hx : xs = ys) (en : Ending) (w' : World) (h : Ret w (.pred (ownI base e k xs)) en w') : Ret w (.pred (ownI base' e k ys)) en w' := hx ▸ ret_base hb en w' h
theorem ret_tup2 {f : FuncId} {args : Array Value} {w : World} {a b a' b' : Value} (ha : a = a') (hb : b = b') (h : Fc Tryd.prog f args w (Ret w (.tup2 (.val a) (.val b)))) : Fc Tryd.prog f args w (Ret w (.tup2 (.val a') (.val b'))) := by
  subst ha; subst hb; exact h
theorem k_of : wordsOf (memb [9, 1, 5, 1]) = wordsOf (memb [1, 5, 9]) := wordsOf_congr fun i _ => by
  unfold memb; rw [decide_eq_decide]; simp only [List.mem_cons, List.not_mem_nil, or_false]; omega
theorem k_list : listS (memb [1, 5, 9]) 65536 = [1, 5, 9] := listS_memb (by decide) (by unfold Low; decide)
theorem k_cnt : cnt (memb [1, 5, 9]) 65536 = 3 := by rw [← listS_len, k_list]; rfl
theorem k_sel2 : selP (memb [1, 5, 9]) 2 = (9, true) := by unfold selP; rw [k_cnt, k_list]; rfl
theorem k_sel3 : selP (memb [1, 5, 9]) 3 = (0, false) := by unfold selP; rw [k_cnt]; rfl
theorem k_rank : cnt (memb [1, 5, 9]) (min (max (6 : Int) 0) 65536).toNat = 2 := by decide
theorem k_flip : listS (flipM (memb [1]) 0 3) 65536 = [0, 2] := by
  rw [← listS_memb (xs := [0, 2]) (by decide) (by unfold Low; decide)]
  refine listS_congr 65536 fun i _ => ?_
  unfold flipM memb
  by_cases h0 : i = 0
  · subst h0; decide
  · by_cases h1 : i = 1
    · subst h1; decide
    · by_cases h2 : i = 2
      · subst h2; decide
      · have e1 : decide ((i : Int) ∈ [(1 : Int)]) = false := by simp; omega
        have e2 : decide ((i : Int) ∈ [(0 : Int), 2]) = false := by simp; omega
        rw [e1, e2, decide_eq_false (by omega : ¬ (i : Int) < 3)]; simp
theorem k_list_c (w : World) (v : Value) (h : SlI .u64 w v (wordsOf (flipM (memb [1]) 0 3))) (hT : Tab w) : Fc Tryd.prog 11 #[v] w (Ret w (.pred (ownI w.heap.size 30 .u16 [0, 2]))) := by
  have := wlistP w v (flipM (memb [1]) 0 3) h hT
  rw [k_flip] at this
  exact this
theorem known_c (w : World) (hT : Tab w) : Fc Tryd.prog 9 #[] w (Ret w (.val (.bool true))) := by
  refine Fc.of (args := []) Tryd.func9 rfl rfl Tryd.ntmps9 (Nat.le_of_ble_eq_true rfl) ?_
  repeat' (first
   |(refine oLA ?_;first
   |refine LA_pass rfl ?_
   |refine LA_litI 30 .u16 [9, 1, 5, 1] rfl (fun _ => rfl) (fun _ => by kernel_rfl) rfl (by decide) ?_
   |refine LA_litI 30 .u16 [1] rfl (fun _ => rfl) (fun _ => by kernel_rfl) rfl (by decide) ?_
   |(refine oC 10 ?_; refine LA_call1 (f := 10) rfl rfl rfl  (.pred (ownI w.heap.size 43 .u64 (wordsOf (memb [1, 5, 9])))) (by intro u1 w e hu1; (try obtain rfl : u1 = _ := hu1); exact (wof_c _ _ [9, 1, 5, 1] (OwnI.slI hu1) (by unfold Low; decide)).mono (ret_w e.size k_of)) ?_)
   |(refine oC 10 ?_; refine LA_call1 (f := 10) rfl rfl rfl  (.pred (ownI w.heap.size 43 .u64 (wordsOf (memb [1])))) (by intro u1 w e hu1; (try obtain rfl : u1 = _ := hu1); exact (wof_c _ _ [1] (OwnI.slI hu1) (by unfold Low; decide)).mono (ret_base e.size)) ?_)
   |(refine oC 15 ?_; refine LA_call2 (f := 15) rfl rfl rfl rfl  (.tup2 (.val (.int .u16 9)) (.val (.bool true))) (by intro u1 u2 w e hu1 hu2; (try obtain rfl : u1 = _ := hu1); (try obtain rfl : u2 = _ := hu2); exact ret_tup2 (by rw [k_sel2]) (by rw [k_sel2]) (wselP _ _ _ (OwnI.slI hu1) (hT.ext e) 2 (by decide))) ?_)
   |(refine oC 15 ?_; refine LA_call2 (f := 15) rfl rfl rfl rfl  (.tup2 (.val (.int .u16 0)) (.val (.bool false))) (by intro u1 u2 w e hu1 hu2; (try obtain rfl : u1 = _ := hu1); (try obtain rfl : u2 = _ := hu2); exact ret_tup2 (by rw [k_sel3]) (by rw [k_sel3]) (wselP _ _ _ (OwnI.slI hu1) (hT.ext e) 3 (by decide))) ?_)
   |(refine oC 13 ?_; refine LA_call3 (f := 13) rfl rfl rfl rfl rfl  (.pred (ownI w.heap.size 43 .u64 (wordsOf (flipM (memb [1]) 0 3)))) (by intro u1 u2 u3 w e hu1 hu2 hu3; (try obtain rfl : u1 = _ := hu1); (try obtain rfl : u2 = _ := hu2); (try obtain rfl : u3 = _ := hu3); exact (wflipP _ _ _ (OwnI.slI hu1) 0 3 (by decide) (by decide)).mono (ret_base e.size)) ?_)
   |(refine oC 11 ?_; refine LA_call1 (f := 11) rfl rfl rfl  (.pred (ownI w.heap.size 30 .u16 [0, 2])) (by intro u1 w e hu1; (try obtain rfl : u1 = _ := hu1); exact (by have h9 := wlistP _ _ _ (OwnI.slI hu1) (hT.ext e); exact h9.mono (ret_w e.size k_flip))) ?_)
   |(refine oC 14 ?_; refine LA_call1 (f := 14) rfl rfl rfl  (.val (.int .i64 3)) (by intro u1 w e hu1; (try obtain rfl : u1 = _ := hu1); exact ret_eq (by rw [k_cnt]; rfl) (wlenP _ _ _ (OwnI.slI hu1))) ?_)
   |(refine oC 16 ?_; refine LA_call2 (f := 16) rfl rfl rfl rfl  (.val (.int .i64 2)) (by intro u1 u2 w e hu1 hu2; (try obtain rfl : u1 = _ := hu1); (try obtain rfl : u2 = _ := hu2); exact ret_eq (by rw [k_rank]; rfl) (wrankP _ _ _ (OwnI.slI hu1) 6 (by decide))) ?_)
   |(refine LA_len rfl _ rfl rfl (by first | exact (HasI.val (by assumption)).c | exact HasI.pred.c | exact HasC.val (by assumption) | exact HasC.pred | exact HasI.own.c | exact HasC.own | exact (HasI.ownV (by assumption)).c | exact HasC.ownV (by assumption)) ?_; rw [wordsOf_len])|(refine oM ?_;first|refine LA_moveV rfl rfl ?_|refine LA_moveP rfl rfl ?_|refine LA_moveT rfl rfl ?_|refine LA_moveU rfl rfl ?_)|(refine oA ?_;first|refine LA_assignV rfl rfl ?_|refine LA_assignP rfl rfl ?_|refine LA_assignT rfl rfl ?_)|(refine oP ?_;first|refine LA_pickTV rfl rfl rfl ?_|refine LA_pickFV rfl rfl rfl ?_)|(refine oN ?_;first|refine LA_notT rfl rfl ?_|refine LA_notF rfl rfl ?_|refine LA_not rfl rfl ?_)|(refine oX ?_;first|refine LA_ext0 rfl rfl ?_|refine LA_ext1 rfl rfl ?_|refine LA_ext30 rfl rfl ?_|refine LA_ext31 rfl rfl ?_|refine LA_ext32 rfl rfl ?_)|(refine oB .add ?_;first|refine stAdd rfl rfl rfl ?_|refine LA_addW rfl rfl rfl ?_)|(refine oB .sub ?_;first|refine stSub rfl rfl rfl ?_|refine LA_subW rfl rfl rfl ?_)|(refine oB .mul ?_;first|refine stMul rfl rfl rfl ?_|refine LA_mulW rfl rfl rfl ?_)|(refine oB .quo ?_;refine stQuo rfl rfl rfl ?_)|(refine oB .rem ?_;refine stRem rfl rfl rfl ?_)|(refine oB .shr ?_;refine stShr rfl rfl rfl ?_;try dsimp only [Int.reduceToNat, Int.reducePow])|(refine oB .shl ?_;refine stShl rfl rfl rfl ?_;try dsimp only [Int.reduceToNat, Int.reducePow])|(refine oB _ ?_;first|refine stT rfl rfl rfl rfl ?_|refine stF rfl rfl rfl rfl ?_|(refine LA_cmp rfl rfl rfl rfl (fun hc => ?_) (fun hc => ?_)<;>dsimp only [cmpP] at hc)|refine stBET rfl rfl rfl rfl ?_|refine stBEF rfl rfl rfl rfl ?_|refine LA_boolEq rfl rfl rfl rfl ?_|refine stBNT rfl rfl rfl rfl ?_|refine stBNF rfl rfl rfl rfl ?_|refine LA_boolNe rfl rfl rfl rfl ?_)|(refine oI ?_;first|refine stIN rfl _ rfl (fun _ => rfl) rfl rfl ?_|(refine stII rfl _ rfl (fun _ => rfl) rfl rfl ?_;try dsimp only [Int.reduceToNat]))|(refine oL ?_;refine LA_load rfl (fun _ => rfl) rfl ?_)|(refine oV ?_;first|refine stCnv rfl rfl rfl rfl ?_|refine LA_conv rfl rfl rfl rfl ?_)|(refine oS ?_;first|(refine stSL rfl _ rfl rfl rfl (fun _ => rfl) ?_;try dsimp only [Int.reduceToNat, Int.toNat_natCast])|(refine stSH rfl _ rfl rfl rfl (fun _ => rfl) ?_;try dsimp only [Int.reduceToNat, Int.toNat_natCast])|(refine stSLH rfl _ rfl rfl rfl rfl (fun _ => rfl) ?_;try dsimp only [Int.reduceToNat, Int.toNat_natCast]))|(refine oLen ?_;refine stLen rfl _ rfl rfl ?_)
   |(refine LA_nil (hK [] _ (LX_nil ?_));clear hK K)|(refine LA_nil (hK _ ?_);clear hK K))
   |(refine oCX ?_;first
   |refine CX_seq ?_|refine CX_skip ?_|refine CX_block ?_|refine CX_exit ?_|refine CX_ret ?_|refine CX_condT rfl ?_|refine CX_condF rfl ?_|refine CX_region (by kernel_rfl) (fun K hK => ?_)|refine CX_regionA (by kernel_rfl) (by kernel_rfl) (fun K hK => ?_)|refine CX_label ?_|refine CX_scope ?_)
   |(refine oPX ?_;first
   |refine PX_then ?_|refine PX_thenX ?_|refine PX_thenR ?_|refine PX_blockN ?_|refine PX_blockR ?_|refine PX_blockX ?_|refine PX_blockO (by decide) ?_|refine PX_scopeN ?_|refine PX_scopeR ?_|refine PX_scopeX ?_)
   |(refine oLX ?_;first
   |refine LX_nil ?_))
  all_goals first | exact PX_retE rfl rfl (Ext.refl _) rfl | exact absurd (by decide) hc
end Go.Proofs.YthcpljmibcacaaaDoor
