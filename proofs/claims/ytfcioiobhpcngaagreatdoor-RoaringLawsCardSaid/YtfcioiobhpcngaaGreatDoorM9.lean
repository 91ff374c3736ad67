import Derived.Test.YtfcioiobhpcngaaGreatDoorM6
import Derived.Test.YtfcioiobhpcngaaGreatDoorM8
section
set_option linter.unusedSimpArgs false
set_option linter.unusedVariables false
set_option maxRecDepth 3000
namespace Go.Proofs.YtfcioiobhpcngaaGreatDoor
open Go.LA Go.ArrP Go.RowKit
section
variable (w : World) (v u : Value) (p q : Nat → Bool) (h : SlI .u64 w v (wordsOf p))
theorem cnt_wbit (n : Nat) (hn : n ≤ 65536) : cnt (wbit (wordsOf p)) n = cnt p n := cnt_congr n fun i hi => wordsOf_bit p (by omega)
theorem listS_wbit : listS (wbit (wordsOf p)) 65536 = listS p 65536 := listS_congr 65536 fun i hi => wordsOf_bit p hi
include h
theorem wlenP : Fc Tryz.prog 141 #[v] w (Ret w (.val (.int .i64 (cnt p 65536)))) := by
  have := wlen_c w v _ h (wordsOf_lw p) (by rw [wordsOf_len]; decide)
  rwa [wordsOf_len, cnt_wbit p _ (by decide)] at this
theorem wrankP (x : Int) (hx : -9223372036854775808 ≤ x ∧ x < 9223372036854775808) : Fc Tryz.prog 144 #[v, .int .i64 x] w (Ret w (.val (.int .i64 (cnt p (min (max x 0) 65536).toNat)))) := by
  have := wrank_c w v _ x h (wordsOf_lw p) (by rw [wordsOf_len]; decide) hx
  rw [wordsOf_len] at this
  have e : (min (max x 0) (64 * ((1024 : Nat) : Int))).toNat = (min (max x 0) 65536).toNat := by omega
  rwa [e, cnt_wbit p _ (by omega)] at this
theorem wlistP (hT : Tab w) : Fc Tryz.prog 114 #[v] w (Ret w (.pred (ownI w.heap.size 72 .u16 (listS p 65536)))) := by
  have := wlist_c w v _ h (wordsOf_lw p) hT
  rwa [wordsOf_len, show 64 * min 1024 1024 = 65536 by decide, listS_wbit] at this
theorem whasP (x : Nat) (hx : x < 65536) : Fc Tryz.prog 146 #[v, .int .u16 x] w (Ret w (.val (.bool (p x)))) := by
  have := whas_c w v _ x h (wordsOf_lw p) hx
  rwa [wordsOf_bit p hx] at this
theorem wrunsP : Fc Tryz.prog 175 #[v] w (Ret w (.val (.int .i64 (cnt (startsS p) 65536)))) := by
  have := wruns_c w v _ h (wordsOf_lw p) (by rw [wordsOf_len]; decide)
  have e : cnt (startsS (wbit (wordsOf p))) (64 * 1024) = cnt (startsS p) 65536 := cnt_congr 65536 fun i hi => by
    unfold startsS
    rw [wordsOf_bit p hi]
    by_cases h0 : i = 0
    · subst h0; rfl
    · rw [wordsOf_bit p (by omega)]
  rwa [wordsOf_len, e] at this
theorem wflipP (lo hi : Int) (hlo : -9223372036854775808 ≤ lo ∧ lo < 9223372036854775808) (hhi : -9223372036854775808 ≤ hi ∧ hi < 9223372036854775808) :
    Fc Tryz.prog 71 #[v, .int .i64 lo, .int .i64 hi] w (Ret w (.pred (ownI w.heap.size 22 .u64 (wordsOf (flipM p lo hi))))) := by
  have := wflip_c w v _ lo hi h (wordsOf_lw p) hlo hhi
  rwa [wordsOf_congr (q := flipM p lo hi) (fun i hi => by unfold flipP flipM; rw [wordsOf_bit p hi])] at this
omit h in
theorem eachP_P (F : Bool → Bool → Bool) : wordsOf (eachP F (wordsOf p) (wordsOf q)) = wordsOf (fun i => F (p i) (q i)) := wordsOf_congr fun i hi => by
  unfold eachP
  rw [wordsOf_len, wordsOf_len, wordsOf_bit p hi, wordsOf_bit q hi, decide_eq_true (by omega)]; rfl
variable (h' : SlI .u64 w u (wordsOf q))
include h'
theorem wandP : Fc Tryz.prog 117 #[v, u] w (Ret w (.pred (ownI w.heap.size 22 .u64 (wordsOf (fun i => p i && q i))))) := by
  have := wand_c w v u _ _ h h' (wordsOf_lw p) (wordsOf_lw q)
  rwa [eachP_P p q (fun x y => x && y)] at this
theorem worP : Fc Tryz.prog 91 #[v, u] w (Ret w (.pred (ownI w.heap.size 22 .u64 (wordsOf (fun i => p i || q i))))) := by
  have := wor_c w v u _ _ h h' (wordsOf_lw p) (wordsOf_lw q)
  rwa [eachP_P p q (fun x y => x || y)] at this
theorem wnotP : Fc Tryz.prog 110 #[v, u] w (Ret w (.pred (ownI w.heap.size 22 .u64 (wordsOf (fun i => p i && !q i))))) := by
  have := wnot_c w v u _ _ h h' (wordsOf_lw p) (wordsOf_lw q)
  rwa [eachP_P p q (fun x y => x && !y)] at this
theorem wxorP : Fc Tryz.prog 120 #[v, u] w (Ret w (.pred (ownI w.heap.size 22 .u64 (wordsOf (fun i => !(p i == q i)))))) := by
  have := agA w v u _ _ h h' (wordsOf_lw p) (wordsOf_lw q)
  rwa [eachP_P p q (fun x y => !(x == y))] at this
end
structure Hid (P : Prop) : Prop where
  out : P
theorem ret_w {w : World} {base base' e : Nat} {xs ys : List Int} {k : IntKind} (hb : base' ≤ base) (hx : xs = ys) (en : Ending) (w' : World) (h : Ret w (.pred (ownI base e k xs)) en w') : Ret w (.pred (ownI base' e k ys)) en w' := hx ▸ ret_base hb en w' h
theorem ret_tup2 {f : FuncId} {args : Array Value} {w : World} {a b a' b' : Value} (ha : a = a') (hb : b = b') (h : Fc Tryz.prog f args w (Ret w (.tup2 (.val a) (.val b)))) : Fc Tryz.prog f args w (Ret w (.tup2 (.val a') (.val b'))) := by
  subst ha; subst hb; exact h
theorem may_c (w : World) (v : Value) (xs : List Int) (h : SlI .u16 w v xs) : Fc Tryz.prog 68 #[v] w (Ret w (.val (.bool (decide (Inc xs))))) := by
  have hl := h.len
  refine Fc.of (args := [_]) Tryz.func68 rfl rfl Tryz.ntmps68 (Nat.le_of_ble_eq_true rfl) ?_
  repeat' (first|(refine oLA ?_;first|refine LA_pass rfl ?_|refine wOp ?_|(refine wCm ?_ ?_<;>intro hc)|(refine wNl hK ?_;clear hK K))|refine wG ?_|(refine wCR ?_;intro K hK)|fail)
  refine CX_loop (ι := Nat) (fun k => [(0, .val v), (3, .val (.int .i64 k))]) (fun k => 1 ≤ k ∧ ∀ i, 1 ≤ i → i < k → i < xs.length → xs.getD (i - 1) 0 < xs.getD i 0) (fun k => xs.length - k) 1 ⟨by omega, fun i h1 h2 => by omega⟩ (Sub.same rfl (Sub.same rfl Sub.nil)) ?_
  rintro k ⟨hk, hin⟩
  have ek : ((k : Int) - 1).toNat = k - 1 := by omega
  repeat' (first|(refine oLA ?_;first|refine LA_pass rfl ?_|refine wOp ?_|(refine wCm ?_ ?_<;>intro hc)|(refine wNl hK ?_;clear hK K))|refine wG ?_|(refine wCR ?_;intro K hK)|fail)
  · refine PX_retE rfl rfl (Ext.refl _) ?_
    rw [ek] at hc
    have : ¬ Inc xs := fun hi => by have := hi.at (i := k - 1) (j := k) (by omega) (by omega); omega
    simp [this]
  · refine PX_rnd (k + 1) ⟨by omega, fun i h1 h2 h3 => ?_⟩ (by omega) (Sub.same rfl (Sub.val rfl (by simp) Sub.nil))
    rw [ek] at hc
    rcases Nat.lt_or_ge i k with h4 | h4
    · exact hin i h1 h4 h3
    · obtain rfl : i = k := by omega
      omega
  · refine PX_retE rfl rfl (Ext.refl _) ?_
    have : Inc xs := inc_of fun i h1 h2 => hin i h1 (by omega) h2
    simp [this]
theorem isNaN_c (w : World) (a : Int) : Fc Tryz.prog 199 #[.int .u16 a] w (Ret w (.val (.bool false))) := by
  refine Fc.of (args := [_]) Tryz.func199 rfl rfl Tryz.ntmps199 (Nat.le_of_ble_eq_true rfl) ?_
  repeat' (first|(refine oLA ?_;first|refine LA_pass rfl ?_|refine wOp ?_|(refine wCm ?_ ?_<;>intro hc)|(refine wNl hK ?_;clear hK K))|refine wG ?_|(refine wCR ?_;intro K hK)|fail)
  exact PX_retE rfl rfl (Ext.refl _) rfl
theorem isNaN_s (w : World) (a : Int) : Fc Tryz.prog 178 #[.int .u16 a] w (Ret w (.val (.bool false))) := by
  refine Fc.of (args := [_]) Tryz.func178 rfl rfl Tryz.ntmps178 (Nat.le_of_ble_eq_true rfl) ?_
  repeat' (first|(refine oLA ?_;first|refine LA_pass rfl ?_|refine wOp ?_|(refine wCm ?_ ?_<;>intro hc)|(refine wNl hK ?_;clear hK K))|refine wG ?_|(refine wCR ?_;intro K hK)|fail)
  exact PX_retE rfl rfl (Ext.refl _) rfl
theorem less_c (w : World) (a b : Int) : Fc Tryz.prog 177 #[.int .u16 a, .int .u16 b] w (Ret w (.val (.bool (decide (a < b))))) := by
  refine Fc.of (args := [_, _]) Tryz.func177 rfl rfl Tryz.ntmps177 (Nat.le_of_ble_eq_true rfl) ?_
  repeat' (first|(refine oLA ?_;first|refine LA_pass rfl ?_|refine wOp ?_|(refine wCm ?_ ?_<;>intro hc)|(refine oCv ?_;first|(refine oC 199 ?_; refine LA_call1 (f := 199) rfl rfl rfl  (.val (.bool false)) (by intro u1 w e hu1; (try obtain rfl : u1 = _ := hu1); exact isNaN_c _ _) ?_))|(refine wNl hK ?_;clear hK K))|refine wG ?_|(refine wCR ?_;intro K hK)|fail)
  all_goals (refine PX_retE rfl rfl (Ext.refl _) ?_; simp [hc])
theorem bs_c (w : World) (v : Value) (xs : List Int) (x : Int) (h : SlI .u16 w v xs) (hb : xs.length ≤ 4611686018427387903) : Fc Tryz.prog 128 #[v, .int .u16 x] w (Ret w (.tup2 (.val (.int .i64 (bsS xs x))) (.val (.bool (foundS xs x))))) := by
  refine Fc.of (args := [_, _]) Tryz.func128 rfl rfl Tryz.ntmps128 (Nat.le_of_ble_eq_true rfl) ?_
  repeat' (first|(refine oLA ?_;first|refine LA_pass rfl ?_|refine wOp ?_|(refine wCm ?_ ?_<;>intro hc)|(refine wNl hK ?_;clear hK K))|refine wG ?_|(refine wCR ?_;intro K hK)|fail)
  refine CX_loop (ι := Nat × Nat) (fun k => [(0, .val v), (1, .val (.int .u16 x)), (6, .val (.int .i64 xs.length)), (7, .val (.int .i64 k.1)), (8, .val (.int .i64 k.2))]) (fun k => k.1 ≤ k.2 ∧ k.2 ≤ xs.length ∧ bsGo xs x k.1 k.2 = bsS xs x) (fun k => k.2 - k.1) (0, xs.length)
    ⟨by simp, by simp, rfl⟩ (Sub.same rfl (Sub.same rfl (Sub.same rfl (Sub.same rfl (Sub.same rfl Sub.nil))))) ?_
  rintro ⟨i, j⟩ ⟨h1, h2, h3⟩
  dsimp only at h1 h2 h3 ⊢
  have em : (((i : Int) + j) / 2).toNat = (i + j) / 2 := by omega
  repeat' (first|(refine oLA ?_;first|refine LA_pass rfl ?_|refine wOp ?_|(refine wCm ?_ ?_<;>intro hc)|(refine oCv ?_;first|(refine oC 177 ?_; refine LA_call2 (f := 177) rfl rfl rfl rfl  (.val (.bool (decide (xs.getD ((i + j) / 2) 0 < x)))) (by intro u1 u2 w e hu1 hu2; (try obtain rfl : u1 = _ := hu1); (try obtain rfl : u2 = _ := hu2); exact (by rw [em]; exact less_c _ _ _)) ?_)|(refine oC 178 ?_; refine LA_call1 (f := 178) rfl rfl rfl  (.val (.bool false)) (by intro u1 w e hu1; (try obtain rfl : u1 = _ := hu1); exact isNaN_s _ _) ?_))|(refine wNl hK ?_;clear hK K))|refine wG ?_|(refine wCR ?_;intro K hK)|(refine oCX ?_;first|refine CX_condB rfl (fun hc => ?_) (fun hc => ?_))|fail)
  · rw [decide_eq_true_eq] at hc
    rename_i hc1
    refine PX_rnd ((i + j) / 2 + 1, j) ⟨?_, h2, ?_⟩ ?_ (by repeat' (first | exact Sub.nil | refine Sub.val rfl (by first | with_reducible rfl | (congr 1; omega)) ?_ | refine Sub.same rfl ?_))
    · dsimp only; omega
    · rw [← h3]; conv => rhs; rw [bsGo, if_pos (by omega), if_pos hc]
    · dsimp only; omega
  · rw [decide_eq_false_iff_not] at hc
    rename_i hc1
    refine PX_rnd (i, (i + j) / 2) ⟨?_, ?_, ?_⟩ ?_ (by repeat' (first | exact Sub.nil | refine Sub.val rfl (by first | with_reducible rfl | (congr 1; omega)) ?_ | refine Sub.same rfl ?_))
    · dsimp only; omega
    · dsimp only; omega
    · rw [← h3]; conv => rhs; rw [bsGo, if_pos (by omega), if_neg hc]
    · dsimp only; omega
  all_goals
    rename_i hc1
    have e1 : i = bsS xs x := by rw [← h3, bsGo, if_neg (by omega)]
    refine PX_retE2 rfl rfl rfl (Ext.refl _) (by rw [e1]) ?_
    unfold foundS
    rw [← e1]
  · have : i < xs.length := by omega
    rw [getD_eq this] at hc
    simp [this, hc]
  · have h7 : i < xs.length := by omega
    rw [getD_eq h7] at hc
    simp [h7, hc]
  · have : ¬ i < xs.length := by omega
    simp [this]
theorem find_c (w : World) (v : Value) (xs : List Int) (x : Int) (h : SlI .u16 w v xs) (hb : xs.length ≤ 4611686018427387903) : Fc Tryz.prog 143 #[v, .int .u16 x] w (Ret w (.tup2 (.val (.int .i64 (bsS xs x))) (.val (.bool (foundS xs x))))) := by
  refine Fc.of (args := [_, _]) Tryz.func143 rfl rfl Tryz.ntmps143 (Nat.le_of_ble_eq_true rfl) ?_
  repeat' (first|(refine oLA ?_;first|refine LA_pass rfl ?_|refine wOp ?_|(refine wCm ?_ ?_<;>intro hc)|(refine oCv ?_;first|(refine oC 128 ?_; refine LA_call2 (f := 128) rfl rfl rfl rfl  (.tup2 (.val (.int .i64 (bsS xs x))) (.val (.bool (foundS xs x)))) (by intro u1 u2 w e hu1 hu2; (try obtain rfl : u1 = _ := hu1); (try obtain rfl : u2 = _ := hu2); exact bs_c _ _ _ _ (by first | exact hu1 | exact hu2 | exact hu3 | exact hu4 | exact hu5 | exact OwnI.slI hu1 | exact OwnI.slI hu2 | exact OwnI.slI hu3 | exact SlI.ext (by assumption) e | exact OwnI.slI (OwnI.ext (by assumption) e)) hb) ?_))|(refine wNl hK ?_;clear hK K))|refine wG ?_|(refine wCR ?_;intro K hK)|fail)
  exact PX_retE2 rfl rfl rfl (Ext.refl _) rfl rfl
theorem wrap16 (n : Int) : IntKind.u16.wrap n = n % 65536 := by simp [IntKind.wrap, IntKind.bits, IntKind.signed]
theorem runs_c (w : World) (v : Value) (xs : List Int) (h : SlI .u16 w v xs) : Fc Tryz.prog 176 #[v] w (Ret w (.val (.int .i64 (runsS xs)))) := by
  have hl := h.len
  refine Fc.of (args := [_]) Tryz.func176 rfl rfl Tryz.ntmps176 (Nat.le_of_ble_eq_true rfl) ?_
  repeat' (first|(refine oLA ?_;first|refine LA_pass rfl ?_|refine wOp ?_|(refine wCm ?_ ?_<;>intro hc)|(refine wNl hK ?_;clear hK K))|refine wG ?_|(refine wCR ?_;intro K hK)|fail)
  refine CX_loop (ι := Nat) (fun k => [(0, .val v), (6, .val v), (7, .val (.int .i64 xs.length)), (8, .val (.int .i64 k)), (3, .val (.int .i64 (runsTo xs k)))]) (fun k => k ≤ xs.length) (fun k => xs.length - k) 0 (by omega) (by repeat' (first | exact Sub.nil | refine Sub.val rfl (by first | with_reducible rfl | (congr 1; omega)) ?_ | refine Sub.same rfl ?_)) ?_
  intro k hk
  have hr := runsTo_le xs k
  have hs := runsTo_succ xs k
  have ek : ((k : Int) - 1).toNat = k - 1 := by omega
  repeat' (first|(refine oLA ?_;first|refine LA_pass rfl ?_|refine wOp ?_|(refine wCm ?_ ?_<;>intro hc)|(refine wNl hK ?_;clear hK K))|refine wG ?_|(refine wCR ?_;intro K hK)|fail)
  · rename_i hc1
    obtain rfl : k = 0 := by omega
    simp only [runAt, true_or, decide_true, if_true] at hs
    refine PX_rnd 1 ?_ ?_ (by repeat' (first | exact Sub.nil | refine Sub.val rfl (by first | with_reducible rfl | (congr 1; omega)) ?_ | refine Sub.same rfl ?_))
    · omega
    · omega
  · rename_i hc1 hc2
    rw [wrap16, ek] at hc
    have e : runAt xs k = true := by simp only [runAt, decide_eq_true_eq]; exact .inr hc
    rw [e] at hs; simp only [if_true] at hs
    refine PX_rnd (k + 1) ?_ ?_ (by repeat' (first | exact Sub.nil | refine Sub.val rfl (by first | with_reducible rfl | (congr 1; omega)) ?_ | refine Sub.same rfl ?_))
    · omega
    · omega
  · rename_i hc1 hc2
    rw [wrap16, ek] at hc
    have e : runAt xs k = false := by
      simp only [runAt, decide_eq_false_iff_not, not_or]
      exact ⟨fun h => hc2 (by omega), hc⟩
    rw [e] at hs; simp only [Bool.false_eq_true, if_false] at hs
    refine PX_rnd (k + 1) ?_ ?_ (by repeat' (first | exact Sub.nil | refine Sub.val rfl (by first | with_reducible rfl | (congr 1; omega)) ?_ | refine Sub.same rfl ?_))
    · omega
    · omega
  · refine PX_retE rfl rfl (Ext.refl _) ?_
    obtain rfl : k = xs.length := by omega
    rfl
theorem or1_c (x y : Bool) (w : World) : Fc Tryz.prog 134 #[.bool x, .bool y] w (Ret w (.val (.bool (fOr x y)))) := by
  refine Fc.of (args := [_, _]) Tryz.func134 rfl rfl Tryz.ntmps134 (Nat.le_of_ble_eq_true rfl) ?_
  repeat' (first|(refine oLA ?_;first|refine LA_pass rfl ?_|refine wOp ?_|(refine wCm ?_ ?_<;>intro hc)|(refine wNl hK ?_;clear hK K))|refine wG ?_|(refine wCR ?_;intro K hK)|fail)
  exact PX_retE rfl rfl (Ext.refl _) rfl
theorem and1_c (x y : Bool) (w : World) : Fc Tryz.prog 167 #[.bool x, .bool y] w (Ret w (.val (.bool (fAnd x y)))) := by
  cases x <;> cases y
  all_goals
    refine Fc.of (args := [_, _]) Tryz.func167 rfl rfl Tryz.ntmps167 (Nat.le_of_ble_eq_true rfl) ?_
    repeat' (first|(refine oLA ?_;first|refine LA_pass rfl ?_|refine wOp ?_|(refine wCm ?_ ?_<;>intro hc)|(refine wNl hK ?_;clear hK K))|refine wG ?_|(refine wCR ?_;intro K hK)|fail)
    exact PX_retE rfl rfl (Ext.refl _) rfl
theorem afA (x y : Bool) (w : World) : Fc Tryz.prog 170 #[.bool x, .bool y] w (Ret w (.val (.bool (fXor x y)))) := by
  refine Fc.of (args := [_, _]) Tryz.func170 rfl rfl Tryz.ntmps170 (Nat.le_of_ble_eq_true rfl) ?_
  repeat' (first|(refine oLA ?_;first|refine LA_pass rfl ?_|refine wOp ?_|(refine wCm ?_ ?_<;>intro hc)|(refine wNl hK ?_;clear hK K))|refine wG ?_|(refine wCR ?_;intro K hK)|fail)
  exact PX_retE rfl rfl (Ext.refl _) rfl
theorem not1_c (x y : Bool) (w : World) : Fc Tryz.prog 152 #[.bool x, .bool y] w (Ret w (.val (.bool (fNot x y)))) := by
  refine Fc.of (args := [_, _]) Tryz.func152 rfl rfl Tryz.ntmps152 (Nat.le_of_ble_eq_true rfl) ?_
  repeat' (first|(refine oLA ?_;first|refine LA_pass rfl ?_|refine wOp ?_|(refine wCm ?_ ?_<;>intro hc)|(refine wNl hK ?_;clear hK K))|refine wG ?_|(refine wCR ?_;intro K hK)|fail)
  exact PX_retE rfl rfl (Ext.refl _) rfl
theorem merge_c (F : Bool → Bool → Bool) (ft : FuncId) (hT : ∀ x y w, Fc Tryz.prog ft #[.bool x, .bool y] w (Ret w (.val (.bool (F x y))))) (w : World) (va vb : Value) (xs ys : List Int) (ha : SlI .u16 w va xs) (hb : SlI .u16 w vb ys) (hlen : xs.length + ys.length ≤ 70368744177663) :
    Fc Tryz.prog 133 #[va, vb, .func (.func ft) #[] #[]] w (Ret w (.pred (ownI w.heap.size 72 .u16 (mergeS F xs ys)))) := by
  refine Fc.of (args := [_, _, _]) Tryz.func133 rfl rfl Tryz.ntmps133 (Nat.le_of_ble_eq_true rfl) ?_
  repeat' (first|(refine oLA ?_;first|refine LA_pass rfl ?_|refine wOp ?_|(refine wCm ?_ ?_<;>intro hc)|(refine wNl hK ?_;clear hK K))|refine wG ?_|(refine wCR ?_;intro K hK)|fail)
  refine CX_loopV (ι := (List Int × List Int × List Int) × Value × Value × Value) (fun i => [(0, .val i.2.1), (1, .val i.2.2.1), (2, .val (.func (.func ft) #[] #[])), (7, .val i.2.2.2)])
    (fun i wr => Ext w wr ∧ SlI .u16 w i.2.1 i.1.1 ∧ SlI .u16 w i.2.2.1 i.1.2.1 ∧ OwnI w.heap.size 72 .u16 wr i.2.2.2 i.1.2.2 ∧ mergeS F xs ys = i.1.2.2 ++ mergeS F i.1.1 i.1.2.1 ∧ i.1.2.2.length + i.1.1.length + i.1.2.1.length ≤ xs.length + ys.length)
    (fun i => i.1.1.length + i.1.2.1.length) ?_ ?_
  · exact fun wr he => ⟨((xs, ys, []), va, vb, .slice none 0 0), ⟨he, ha, hb, OwnI.nil, rfl, by simp⟩, (by repeat' (first | exact Sub.nil | refine Sub.val rfl (by first | with_reducible rfl | (congr 1; omega)) ?_ | refine Sub.same rfl ?_))⟩
  · rintro ⟨⟨l1, l2, l3⟩, a, b, o⟩ wb ⟨he, h1, h2, h3, h4, h5⟩
    dsimp only at h1 h2 h3 h4 h5 ⊢
    have h1' := h1.ext he
    have h2' := h2.ext he
    have ho := h3
    repeat' (first|(refine oLA ?_;first|refine LA_pass rfl ?_|refine LA_one rfl u16_el rfl rfl ?_|(refine LA_stop (hK _ _ (LX_appendI rfl (by decide) u16_el rfl ho rfl (by omega) (by omega) he (fun v' w' he' ho' => ?_))); clear hK K; dsimp only [vals]; refine LX_la (by kernel_rfl) (fun K hK => ?_))|refine wOp ?_|(refine wCm ?_ ?_<;>intro hc)|(refine oCv ?_;first|refine LA_call2 (f := ft) (r1 := .val (.bool _)) (r2 := .val (.bool _)) rfl rfl rfl rfl (.val (.bool (F _ _))) (by intro u1 u2 w e hu1 hu2; obtain rfl : u1 = _ := hu1; obtain rfl : u2 = _ := hu2; exact hT _ _ _) ?_)|(refine wNl hK ?_;clear hK K))|refine wG ?_|(refine wCR ?_;intro K hK)|(refine oCX ?_;first|refine CX_condB rfl (fun hc => ?_) (fun hc => ?_))|fail)
    · refine PX_rndV ((l1.drop 1, l2, l3 ++ [l1.getD 0 0]), subS a 1 l1.length 1, b, v') (fun w2 e2 => ⟨he'.trans e2, h1.drop (by omega), h2, ho'.ext e2, ?_, ?_⟩) ?_ (by repeat' (first | exact Sub.nil | refine Sub.val rfl (by first | with_reducible rfl | (congr 1; omega)) ?_ | refine Sub.same rfl ?_))
      · dsimp only; rw [h4, merge_A F (by omega) (by omega), hc]; simp
      · dsimp only; simp only [List.length_append, List.length_drop, List.length_cons, List.length_nil]; omega
      · dsimp only; simp only [List.length_drop]; omega
    · refine PX_rndV ((l1.drop 1, l2, l3), subS a 1 l1.length 1, b, o) (fun w2 e2 => ⟨he.trans e2, h1.drop (by omega), h2, ho.ext e2, ?_, ?_⟩) ?_ (by repeat' (first | exact Sub.nil | refine Sub.val rfl (by first | with_reducible rfl | (congr 1; omega)) ?_ | refine Sub.same rfl ?_))
      · dsimp only; rw [h4, merge_A F (by omega) (by omega), hc]; simp
      · dsimp only; simp only [List.length_append, List.length_drop, List.length_cons, List.length_nil]; omega
      · dsimp only; simp only [List.length_drop]; omega
    · refine PX_rndV ((l1.drop 1, l2.drop 1, l3 ++ [l2.getD 0 0]), subS a 1 l1.length 1, subS b 1 l2.length 1, v') (fun w2 e2 => ⟨he'.trans e2, h1.drop (by omega), h2.drop (by omega), ho'.ext e2, ?_, ?_⟩) ?_ (by repeat' (first | exact Sub.nil | refine Sub.val rfl (by first | with_reducible rfl | (congr 1; omega)) ?_ | refine Sub.same rfl ?_))
      · dsimp only; rw [h4, merge_eq F (by omega) (by omega) (by omega), hc]; simp
      · dsimp only; simp only [List.length_append, List.length_drop, List.length_cons, List.length_nil]; omega
      · dsimp only; simp only [List.length_drop]; omega
    · refine PX_rndV ((l1.drop 1, l2.drop 1, l3), subS a 1 l1.length 1, subS b 1 l2.length 1, o) (fun w2 e2 => ⟨he.trans e2, h1.drop (by omega), h2.drop (by omega), ho.ext e2, ?_, ?_⟩) ?_ (by repeat' (first | exact Sub.nil | refine Sub.val rfl (by first | with_reducible rfl | (congr 1; omega)) ?_ | refine Sub.same rfl ?_))
      · dsimp only; rw [h4, merge_eq F (by omega) (by omega) (by omega), hc]; simp
      · dsimp only; simp only [List.length_append, List.length_drop, List.length_cons, List.length_nil]; omega
      · dsimp only; simp only [List.length_drop]; omega
    · refine PX_rndV ((l1.drop 1, l2, l3 ++ [l1.getD 0 0]), subS a 1 l1.length 1, b, v') (fun w2 e2 => ⟨he'.trans e2, h1.drop (by omega), h2, ho'.ext e2, ?_, ?_⟩) ?_ (by repeat' (first | exact Sub.nil | refine Sub.val rfl (by first | with_reducible rfl | (congr 1; omega)) ?_ | refine Sub.same rfl ?_))
      · dsimp only; rw [h4, merge_lt F (by omega) (by omega) (by omega), hc]; simp
      · dsimp only; simp only [List.length_append, List.length_drop, List.length_cons, List.length_nil]; omega
      · dsimp only; simp only [List.length_drop]; omega
    · refine PX_rndV ((l1.drop 1, l2, l3), subS a 1 l1.length 1, b, o) (fun w2 e2 => ⟨he.trans e2, h1.drop (by omega), h2, ho.ext e2, ?_, ?_⟩) ?_ (by repeat' (first | exact Sub.nil | refine Sub.val rfl (by first | with_reducible rfl | (congr 1; omega)) ?_ | refine Sub.same rfl ?_))
      · dsimp only; rw [h4, merge_lt F (by omega) (by omega) (by omega), hc]; simp
      · dsimp only; simp only [List.length_append, List.length_drop, List.length_cons, List.length_nil]; omega
      · dsimp only; simp only [List.length_drop]; omega
    · refine PX_rndV ((l1, l2.drop 1, l3 ++ [l2.getD 0 0]), a, subS b 1 l2.length 1, v') (fun w2 e2 => ⟨he'.trans e2, h1, h2.drop (by omega), ho'.ext e2, ?_, ?_⟩) ?_ (by repeat' (first | exact Sub.nil | refine Sub.val rfl (by first | with_reducible rfl | (congr 1; omega)) ?_ | refine Sub.same rfl ?_))
      · dsimp only; rw [h4, merge_gt F (by omega) (by omega) (by omega), hc]; simp
      · dsimp only; simp only [List.length_append, List.length_drop, List.length_cons, List.length_nil]; omega
      · dsimp only; simp only [List.length_drop]; omega
    · refine PX_rndV ((l1, l2.drop 1, l3), a, subS b 1 l2.length 1, o) (fun w2 e2 => ⟨he.trans e2, h1, h2.drop (by omega), ho.ext e2, ?_, ?_⟩) ?_ (by repeat' (first | exact Sub.nil | refine Sub.val rfl (by first | with_reducible rfl | (congr 1; omega)) ?_ | refine Sub.same rfl ?_))
      · dsimp only; rw [h4, merge_gt F (by omega) (by omega) (by omega), hc]; simp
      · dsimp only; simp only [List.length_append, List.length_drop, List.length_cons, List.length_nil]; omega
      · dsimp only; simp only [List.length_drop]; omega
    · refine PX_rndV ((l1, l2.drop 1, l3 ++ [l2.getD 0 0]), a, subS b 1 l2.length 1, v') (fun w2 e2 => ⟨he'.trans e2, h1, h2.drop (by omega), ho'.ext e2, ?_, ?_⟩) ?_ (by repeat' (first | exact Sub.nil | refine Sub.val rfl (by first | with_reducible rfl | (congr 1; omega)) ?_ | refine Sub.same rfl ?_))
      · dsimp only; rw [h4, merge_B F (by omega) (by omega), hc]; simp
      · dsimp only; simp only [List.length_append, List.length_drop, List.length_cons, List.length_nil]; omega
      · dsimp only; simp only [List.length_drop]; omega
    · refine PX_rndV ((l1, l2.drop 1, l3), a, subS b 1 l2.length 1, o) (fun w2 e2 => ⟨he.trans e2, h1, h2.drop (by omega), ho.ext e2, ?_, ?_⟩) ?_ (by repeat' (first | exact Sub.nil | refine Sub.val rfl (by first | with_reducible rfl | (congr 1; omega)) ?_ | refine Sub.same rfl ?_))
      · dsimp only; rw [h4, merge_B F (by omega) (by omega), hc]; simp
      · dsimp only; simp only [List.length_append, List.length_drop, List.length_cons, List.length_nil]; omega
      · dsimp only; simp only [List.length_drop]; omega
    · refine PX_retP rfl rfl he (fun u w2 e2 hu => ?_)
      obtain rfl : u = o := hu
      have e1 : l1 = [] := List.eq_nil_of_length_eq_zero (by omega)
      have e3 : l2 = [] := List.eq_nil_of_length_eq_zero (by omega)
      have e4 : mergeS F xs ys = l3 := by rw [h4, e1, e3]; simp [mergeS]
      rw [e4]
      exact ho.ext e2
theorem or_c (w : World) (va vb : Value) (xs ys : List Int) (ha : SlI .u16 w va xs) (hb : SlI .u16 w vb ys) (hlen : xs.length + ys.length ≤ 70368744177663) :
    Fc Tryz.prog 90 #[va, vb] w (Ret w (.pred (ownI w.heap.size 72 .u16 (mergeS fOr xs ys)))) := by
  refine Fc.of (args := [_, _]) Tryz.func90 rfl rfl Tryz.ntmps90 (Nat.le_of_ble_eq_true rfl) ?_
  repeat' (first|(refine oLA ?_;first|refine LA_pass rfl ?_|refine wOp ?_|(refine wCm ?_ ?_<;>intro hc)|(refine oCv ?_;first|(refine oC 133 ?_; refine LA_call3 (f := 133) rfl rfl rfl rfl rfl  (.pred (ownI w.heap.size 72 .u16 (mergeS fOr xs ys))) (by intro u1 u2 u3 w e hu1 hu2 hu3; (try obtain rfl : u1 = _ := hu1); (try obtain rfl : u2 = _ := hu2); (try obtain rfl : u3 = _ := hu3); exact (merge_c fOr _ or1_c _ _ _ xs ys (by first | exact hu1 | exact hu2 | exact hu3 | exact hu4 | exact hu5 | exact OwnI.slI hu1 | exact OwnI.slI hu2 | exact OwnI.slI hu3 | exact SlI.ext (by assumption) e | exact OwnI.slI (OwnI.ext (by assumption) e)) (by first | exact hu1 | exact hu2 | exact hu3 | exact hu4 | exact hu5 | exact OwnI.slI hu1 | exact OwnI.slI hu2 | exact OwnI.slI hu3 | exact SlI.ext (by assumption) e | exact OwnI.slI (OwnI.ext (by assumption) e)) hlen).mono (ret_base e.size)) ?_))|(refine wNl hK ?_;clear hK K))|refine wG ?_|(refine wCR ?_;intro K hK)|fail)
  exact PX_retP rfl rfl (Ext.refl _) (fun _ _ _ h => h)
theorem and_c (w : World) (va vb : Value) (xs ys : List Int) (ha : SlI .u16 w va xs) (hb : SlI .u16 w vb ys) (hlen : xs.length + ys.length ≤ 70368744177663) :
    Fc Tryz.prog 116 #[va, vb] w (Ret w (.pred (ownI w.heap.size 72 .u16 (mergeS fAnd xs ys)))) := by
  refine Fc.of (args := [_, _]) Tryz.func116 rfl rfl Tryz.ntmps116 (Nat.le_of_ble_eq_true rfl) ?_
  repeat' (first|(refine oLA ?_;first|refine LA_pass rfl ?_|refine wOp ?_|(refine wCm ?_ ?_<;>intro hc)|(refine oCv ?_;first|(refine oC 133 ?_; refine LA_call3 (f := 133) rfl rfl rfl rfl rfl  (.pred (ownI w.heap.size 72 .u16 (mergeS fAnd xs ys))) (by intro u1 u2 u3 w e hu1 hu2 hu3; (try obtain rfl : u1 = _ := hu1); (try obtain rfl : u2 = _ := hu2); (try obtain rfl : u3 = _ := hu3); exact (merge_c fAnd _ and1_c _ _ _ xs ys (by first | exact hu1 | exact hu2 | exact hu3 | exact hu4 | exact hu5 | exact OwnI.slI hu1 | exact OwnI.slI hu2 | exact OwnI.slI hu3 | exact SlI.ext (by assumption) e | exact OwnI.slI (OwnI.ext (by assumption) e)) (by first | exact hu1 | exact hu2 | exact hu3 | exact hu4 | exact hu5 | exact OwnI.slI hu1 | exact OwnI.slI hu2 | exact OwnI.slI hu3 | exact SlI.ext (by assumption) e | exact OwnI.slI (OwnI.ext (by assumption) e)) hlen).mono (ret_base e.size)) ?_))|(refine wNl hK ?_;clear hK K))|refine wG ?_|(refine wCR ?_;intro K hK)|fail)
  exact PX_retP rfl rfl (Ext.refl _) (fun _ _ _ h => h)
theorem xor_c (w : World) (va vb : Value) (xs ys : List Int) (ha : SlI .u16 w va xs) (hb : SlI .u16 w vb ys) (hlen : xs.length + ys.length ≤ 70368744177663) :
    Fc Tryz.prog 119 #[va, vb] w (Ret w (.pred (ownI w.heap.size 72 .u16 (mergeS fXor xs ys)))) := by
  refine Fc.of (args := [_, _]) Tryz.func119 rfl rfl Tryz.ntmps119 (Nat.le_of_ble_eq_true rfl) ?_
  repeat' (first|(refine oLA ?_;first|refine LA_pass rfl ?_|refine wOp ?_|(refine wCm ?_ ?_<;>intro hc)|(refine oCv ?_;first|(refine oC 133 ?_; refine LA_call3 (f := 133) rfl rfl rfl rfl rfl  (.pred (ownI w.heap.size 72 .u16 (mergeS fXor xs ys))) (by intro u1 u2 u3 w e hu1 hu2 hu3; (try obtain rfl : u1 = _ := hu1); (try obtain rfl : u2 = _ := hu2); (try obtain rfl : u3 = _ := hu3); exact (merge_c fXor _ afA _ _ _ xs ys (by first | exact hu1 | exact hu2 | exact hu3 | exact hu4 | exact hu5 | exact OwnI.slI hu1 | exact OwnI.slI hu2 | exact OwnI.slI hu3 | exact SlI.ext (by assumption) e | exact OwnI.slI (OwnI.ext (by assumption) e)) (by first | exact hu1 | exact hu2 | exact hu3 | exact hu4 | exact hu5 | exact OwnI.slI hu1 | exact OwnI.slI hu2 | exact OwnI.slI hu3 | exact SlI.ext (by assumption) e | exact OwnI.slI (OwnI.ext (by assumption) e)) hlen).mono (ret_base e.size)) ?_))|(refine wNl hK ?_;clear hK K))|refine wG ?_|(refine wCR ?_;intro K hK)|fail)
  exact PX_retP rfl rfl (Ext.refl _) (fun _ _ _ h => h)
theorem andnot_c (w : World) (va vb : Value) (xs ys : List Int) (ha : SlI .u16 w va xs) (hb : SlI .u16 w vb ys) (hlen : xs.length + ys.length ≤ 70368744177663) :
    Fc Tryz.prog 109 #[va, vb] w (Ret w (.pred (ownI w.heap.size 72 .u16 (mergeS fNot xs ys)))) := by
  refine Fc.of (args := [_, _]) Tryz.func109 rfl rfl Tryz.ntmps109 (Nat.le_of_ble_eq_true rfl) ?_
  repeat' (first|(refine oLA ?_;first|refine LA_pass rfl ?_|refine wOp ?_|(refine wCm ?_ ?_<;>intro hc)|(refine oCv ?_;first|(refine oC 133 ?_; refine LA_call3 (f := 133) rfl rfl rfl rfl rfl  (.pred (ownI w.heap.size 72 .u16 (mergeS fNot xs ys))) (by intro u1 u2 u3 w e hu1 hu2 hu3; (try obtain rfl : u1 = _ := hu1); (try obtain rfl : u2 = _ := hu2); (try obtain rfl : u3 = _ := hu3); exact (merge_c fNot _ not1_c _ _ _ xs ys (by first | exact hu1 | exact hu2 | exact hu3 | exact hu4 | exact hu5 | exact OwnI.slI hu1 | exact OwnI.slI hu2 | exact OwnI.slI hu3 | exact SlI.ext (by assumption) e | exact OwnI.slI (OwnI.ext (by assumption) e)) (by first | exact hu1 | exact hu2 | exact hu3 | exact hu4 | exact hu5 | exact OwnI.slI hu1 | exact OwnI.slI hu2 | exact OwnI.slI hu3 | exact SlI.ext (by assumption) e | exact OwnI.slI (OwnI.ext (by assumption) e)) hlen).mono (ret_base e.size)) ?_))|(refine wNl hK ?_;clear hK K))|refine wG ?_|(refine wCR ?_;intro K hK)|fail)
  exact PX_retP rfl rfl (Ext.refl _) (fun _ _ _ h => h)
theorem four_eq (f : Bool → Bool → Bool) (what : Int) (xs ys : List Int) (h : Inc xs) (h' : Inc ys) (hl : Low xs) (hl' : Low ys) (hm : ∀ z, z ∈ mergeS f xs ys ↔ bothF what (decide (z ∈ xs)) (decide (z ∈ ys)) = true) (hff : bothF what false false = false) :
    mergeS f xs ys = listS (fun i => bothF what (memb xs i) (memb ys i)) 65536 := by
  refine inc_ext (merge_inc _ _ _ h h') (listS_inc _ _) fun z => ?_
  rw [hm, listS_mem]
  constructor
  · intro hz
    have : 0 ≤ z ∧ z < 65536 := by
      by_cases h1 : z ∈ xs
      · exact hl z h1
      · by_cases h2 : z ∈ ys
        · exact hl' z h2
        · rw [decide_eq_false h1, decide_eq_false h2, hff] at hz; cases hz
    exact ⟨z.toNat, by omega, by simp only [memb, show ((z.toNat : Nat) : Int) = z by omega]; exact hz, by omega⟩
  · rintro ⟨i, g1, g2, rfl⟩
    exact g2
section
variable {xs ys : List Int} (h : Inc xs) (h' : Inc ys) (hl : Low xs) (hl' : Low ys)
include h h' hl hl'
theorem and_eq : mergeS fAnd xs ys = listS (fun i => bothF 1 (memb xs i) (memb ys i)) 65536 := four_eq _ _ _ _ h h' hl hl' (fun z => by rw [mem_and h h']; simp [bothF]) rfl
theorem or_eq' : mergeS fOr xs ys = listS (fun i => bothF 2 (memb xs i) (memb ys i)) 65536 := four_eq _ _ _ _ h h' hl hl' (fun z => by rw [mem_or h h']; simp [bothF]) rfl
theorem not_eq : mergeS fNot xs ys = listS (fun i => bothF 3 (memb xs i) (memb ys i)) 65536 := four_eq _ _ _ _ h h' hl hl' (fun z => by rw [mem_not h h']; simp [bothF]) rfl
theorem xor_eq : mergeS fXor xs ys = listS (fun i => bothF 4 (memb xs i) (memb ys i)) 65536 := four_eq _ _ _ _ h h' hl hl' (fun z => by rw [mem_xor h h']; simp [bothF]) rfl
end
end Go.Proofs.YtfcioiobhpcngaaGreatDoor
end
