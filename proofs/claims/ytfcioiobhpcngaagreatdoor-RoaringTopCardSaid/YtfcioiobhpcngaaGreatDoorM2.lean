import Derived.Test.YtfcioiobhpcngaaGreatDoorProg
import Derived.WalkKit
import Derived.KernelRfl
import Derived.Laws.AppendOwnNone
import Derived.Scope
import Derived.Lib.Overlaps
import Derived.Laws.Externs
import Derived.Laws.OwnMore
import Init
import Derived.Laws.Tables
import Derived.Lib.TrailingZeros
import Derived.Laws.Bits64b
import Derived.ChangeSame
import Derived.ChangeSlices
import Derived.Laws.StructEq
import Derived.Maps.AppendAt
import Derived.Sort.AssemblyPlain
import Derived.Laws.Bits64
import Derived.Test.YtfcioiobhpcngaaGreatDoorM1
section
set_option linter.unusedSimpArgs false
set_option linter.unusedVariables false
set_option maxRecDepth 3000
namespace Go.Proofs.YtfcioiobhpcngaaGreatDoor
open Go.LA Go.ArrP Go.RowKit
section
variable (w : World) (v u : Value) (p q : Nat → Bool) (h : SlI .u64 w v (wordsOf p))
theorem m4A (n : Nat) (hn : n ≤ 65536) : cnt (c3A (wordsOf p)) n = cnt p n := ccA n fun i hi => bsA p (by omega)
theorem mrA : adA (c3A (wordsOf p)) 65536 = adA p 65536 := cxA 65536 fun i hi => bsA p hi
include h
theorem wlenP : Fc Tryz.prog 141 #[v] w (Ret w (.val (.int .i64 (cnt p 65536)))) := by
  have := n8A w v _ h (bqA p) (by rw [bdA]; decide)
  rwa [bdA, m4A p _ (by decide)] at this
theorem w7A (x : Int) (hx : -9223372036854775808 ≤ x ∧ x < 9223372036854775808) : Fc Tryz.prog 144 #[v, .int .i64 x] w (Ret w (.val (.int .i64 (cnt p (min (max x 0) 65536).toNat)))) := by
  have := tkA w v _ x h (bqA p) (by rw [bdA]; decide) hx
  rw [bdA] at this
  have e : (min (max x 0) (64 * ((1024 : Nat) : Int))).toNat = (min (max x 0) 65536).toNat := by omega
  rwa [e, m4A p _ (by omega)] at this
theorem wbA (hT : Tab w) : Fc Tryz.prog 114 #[v] w (Ret w (.pred (bjA w.heap.size 72 .u16 (adA p 65536)))) := by
  have := tmA w v _ h (bqA p) hT
  rwa [bdA, show 64 * min 1024 1024 = 65536 by decide, mrA] at this
theorem whasP (x : Nat) (hx : x < 65536) : Fc Tryz.prog 146 #[v, .int .u16 x] w (Ret w (.val (.bool (p x)))) := by
  have := wcA w v _ x h (bqA p) hx
  rwa [bsA p hx] at this
theorem w6A : Fc Tryz.prog 175 #[v] w (Ret w (.val (.int .i64 (cnt (biA p) 65536)))) := by
  have := tjA w v _ h (bqA p) (by rw [bdA]; decide)
  have e : cnt (biA (c3A (wordsOf p))) (64 * 1024) = cnt (biA p) 65536 := ccA 65536 fun i hi => by
    unfold biA
    rw [bsA p hi]
    by_cases h0 : i = 0
    · subst h0; rfl
    · rw [bsA p (by omega)]
  rwa [bdA, e] at this
theorem l3A (lo hi : Int) (hlo : -9223372036854775808 ≤ lo ∧ lo < 9223372036854775808) (hhi : -9223372036854775808 ≤ hi ∧ hi < 9223372036854775808) :
    Fc Tryz.prog 71 #[v, .int .i64 lo, .int .i64 hi] w (Ret w (.pred (bjA w.heap.size 22 .u64 (wordsOf (jrA p lo hi))))) := by
  have := tnA w v _ lo hi h (bqA p) hlo hhi
  rwa [beA (q := jrA p lo hi) (fun i hi => by unfold kjA jrA; rw [bsA p hi])] at this
omit h in
theorem orA (F : Bool → Bool → Bool) : wordsOf (iuA F (wordsOf p) (wordsOf q)) = wordsOf (fun i => F (p i) (q i)) := beA fun i hi => by
  unfold iuA
  rw [bdA, bdA, bsA p hi, bsA q hi, decide_eq_true (by omega)]; rfl
variable (h' : SlI .u64 w u (wordsOf q))
include h'
theorem worP : Fc Tryz.prog 91 #[v, u] w (Ret w (.pred (bjA w.heap.size 22 .u64 (wordsOf (fun i => p i || q i))))) := by
  have := wor_c w v u _ _ h h' (bqA p) (bqA q)
  rwa [orA p q (fun x y => x || y)] at this
theorem wnotP : Fc Tryz.prog 110 #[v, u] w (Ret w (.pred (bjA w.heap.size 22 .u64 (wordsOf (fun i => p i && !q i))))) := by
  have := waA w v u _ _ h h' (bqA p) (bqA q)
  rwa [orA p q (fun x y => x && !y)] at this
end
structure Hid (P : Prop) : Prop where
  out : P
theorem moA {w : World} {base base' e : Nat} {xs ys : List Int} {k : IntKind} (hb : base' ≤ base) (hx : xs = ys) (en : Ending) (w' : World) (h : Ret w (.pred (bjA base e k xs)) en w') : Ret w (.pred (bjA base' e k ys)) en w' := hx ▸ aaA hb en w' h
theorem qlA {f : FuncId} {args : Array Value} {w : World} {a b a' b' : Value} (ha : a = a') (hb : b = b') (h : Fc Tryz.prog f args w (Ret w (.tup2 (.val a) (.val b)))) : Fc Tryz.prog f args w (Ret w (.tup2 (.val a') (.val b'))) := by
  subst ha; subst hb; exact h
theorem may_c (w : World) (v : Value) (xs : List Int) (h : SlI .u16 w v xs) : Fc Tryz.prog 68 #[v] w (Ret w (.val (.bool (decide (Inc xs))))) := by
  have hl := h.len
  refine Fc.of (args := [_]) Tryz.func68 rfl rfl Tryz.ntmps68 (Nat.le_of_ble_eq_true rfl) ?_
  repeat' (first|(refine oLA ?_;first|refine a0A rfl ?_|refine wOp ?_|(refine wCm ?_ ?_<;>intro hc)|(refine wNl hK ?_;clear hK K))|refine wG ?_|(refine wCR ?_;intro K hK)|fail)
  refine b8A (ι := Nat) (fun k => [(0, .val v), (3, .val (.int .i64 k))]) (fun k => 1 ≤ k ∧ ∀ i, 1 ≤ i → i < k → i < xs.length → xs.getD (i - 1) 0 < xs.getD i 0) (fun k => xs.length - k) 1 ⟨by omega, fun i h1 h2 => by omega⟩ (Sub.same rfl (Sub.same rfl Sub.nil)) ?_
  rintro k ⟨hk, hin⟩
  have ek : ((k : Int) - 1).toNat = k - 1 := by omega
  repeat' (first|(refine oLA ?_;first|refine a0A rfl ?_|refine wOp ?_|(refine wCm ?_ ?_<;>intro hc)|(refine wNl hK ?_;clear hK K))|refine wG ?_|(refine wCR ?_;intro K hK)|fail)
  · refine abA rfl rfl (Ext.refl _) ?_
    rw [ek] at hc
    have : ¬ Inc xs := fun hi => by have := hi.at (i := k - 1) (j := k) (by omega) (by omega); omega
    simp [this]
  · refine bpA (k + 1) ⟨by omega, fun i h1 h2 h3 => ?_⟩ (by omega) (Sub.same rfl (Sub.val rfl (by simp) Sub.nil))
    rw [ek] at hc
    rcases Nat.lt_or_ge i k with h4 | h4
    · exact hin i h1 h4 h3
    · obtain rfl : i = k := by omega
      omega
  · refine abA rfl rfl (Ext.refl _) ?_
    have : Inc xs := x5A fun i h1 h2 => hin i h1 (by omega) h2
    simp [this]
theorem uyA (w : World) (a : Int) : Fc Tryz.prog 199 #[.int .u16 a] w (Ret w (.val (.bool false))) := by
  refine Fc.of (args := [_]) Tryz.func199 rfl rfl Tryz.ntmps199 (Nat.le_of_ble_eq_true rfl) ?_
  repeat' (first|(refine oLA ?_;first|refine a0A rfl ?_|refine wOp ?_|(refine wCm ?_ ?_<;>intro hc)|(refine wNl hK ?_;clear hK K))|refine wG ?_|(refine wCR ?_;intro K hK)|fail)
  exact abA rfl rfl (Ext.refl _) rfl
theorem uxA (w : World) (a : Int) : Fc Tryz.prog 178 #[.int .u16 a] w (Ret w (.val (.bool false))) := by
  refine Fc.of (args := [_]) Tryz.func178 rfl rfl Tryz.ntmps178 (Nat.le_of_ble_eq_true rfl) ?_
  repeat' (first|(refine oLA ?_;first|refine a0A rfl ?_|refine wOp ?_|(refine wCm ?_ ?_<;>intro hc)|(refine wNl hK ?_;clear hK K))|refine wG ?_|(refine wCR ?_;intro K hK)|fail)
  exact abA rfl rfl (Ext.refl _) rfl
theorem x1A (w : World) (a b : Int) : Fc Tryz.prog 177 #[.int .u16 a, .int .u16 b] w (Ret w (.val (.bool (decide (a < b))))) := by
  refine Fc.of (args := [_, _]) Tryz.func177 rfl rfl Tryz.ntmps177 (Nat.le_of_ble_eq_true rfl) ?_
  repeat' (first|(refine oLA ?_;first|refine a0A rfl ?_|refine wOp ?_|(refine wCm ?_ ?_<;>intro hc)|(refine oCv ?_;first|(refine oC 199 ?_; refine a1A (f := 199) rfl rfl rfl  (.val (.bool false)) (by intro u1 w e hu1; (try obtain rfl : u1 = _ := hu1); exact uyA _ _) ?_))|(refine wNl hK ?_;clear hK K))|refine wG ?_|(refine wCR ?_;intro K hK)|fail)
  all_goals (refine abA rfl rfl (Ext.refl _) ?_; simp [hc])
theorem bs_c (w : World) (v : Value) (xs : List Int) (x : Int) (h : SlI .u16 w v xs) (hb : xs.length ≤ 4611686018427387903) : Fc Tryz.prog 128 #[v, .int .u16 x] w (Ret w (.tup2 (.val (.int .i64 (bsS xs x))) (.val (.bool (crA xs x))))) := by
  refine Fc.of (args := [_, _]) Tryz.func128 rfl rfl Tryz.ntmps128 (Nat.le_of_ble_eq_true rfl) ?_
  repeat' (first|(refine oLA ?_;first|refine a0A rfl ?_|refine wOp ?_|(refine wCm ?_ ?_<;>intro hc)|(refine wNl hK ?_;clear hK K))|refine wG ?_|(refine wCR ?_;intro K hK)|fail)
  refine b8A (ι := Nat × Nat) (fun k => [(0, .val v), (1, .val (.int .u16 x)), (6, .val (.int .i64 xs.length)), (7, .val (.int .i64 k.1)), (8, .val (.int .i64 k.2))]) (fun k => k.1 ≤ k.2 ∧ k.2 ≤ xs.length ∧ bsGo xs x k.1 k.2 = bsS xs x) (fun k => k.2 - k.1) (0, xs.length)
    ⟨by simp, by simp, rfl⟩ (Sub.same rfl (Sub.same rfl (Sub.same rfl (Sub.same rfl (Sub.same rfl Sub.nil))))) ?_
  rintro ⟨i, j⟩ ⟨h1, h2, h3⟩
  dsimp only at h1 h2 h3 ⊢
  have em : (((i : Int) + j) / 2).toNat = (i + j) / 2 := by omega
  repeat' (first|(refine oLA ?_;first|refine a0A rfl ?_|refine wOp ?_|(refine wCm ?_ ?_<;>intro hc)|(refine oCv ?_;first|(refine oC 177 ?_; refine a3A (f := 177) rfl rfl rfl rfl  (.val (.bool (decide (xs.getD ((i + j) / 2) 0 < x)))) (by intro u1 u2 w e hu1 hu2; (try obtain rfl : u1 = _ := hu1); (try obtain rfl : u2 = _ := hu2); exact (by rw [em]; exact x1A _ _ _)) ?_)|(refine oC 178 ?_; refine a1A (f := 178) rfl rfl rfl  (.val (.bool false)) (by intro u1 w e hu1; (try obtain rfl : u1 = _ := hu1); exact uxA _ _) ?_))|(refine wNl hK ?_;clear hK K))|refine wG ?_|(refine wCR ?_;intro K hK)|(refine oCX ?_;first|refine mjA rfl (fun hc => ?_) (fun hc => ?_))|fail)
  · rw [decide_eq_true_eq] at hc
    rename_i hc1
    refine bpA ((i + j) / 2 + 1, j) ⟨?_, h2, ?_⟩ ?_ (by repeat' (first | exact Sub.nil | refine Sub.val rfl (by first | with_reducible rfl | (congr 1; omega)) ?_ | refine Sub.same rfl ?_))
    · dsimp only; omega
    · rw [← h3]; conv => rhs; rw [bsGo, if_pos (by omega), if_pos hc]
    · dsimp only; omega
  · rw [decide_eq_false_iff_not] at hc
    rename_i hc1
    refine bpA (i, (i + j) / 2) ⟨?_, ?_, ?_⟩ ?_ (by repeat' (first | exact Sub.nil | refine Sub.val rfl (by first | with_reducible rfl | (congr 1; omega)) ?_ | refine Sub.same rfl ?_))
    · dsimp only; omega
    · dsimp only; omega
    · rw [← h3]; conv => rhs; rw [bsGo, if_pos (by omega), if_neg hc]
    · dsimp only; omega
  all_goals
    rename_i hc1
    have e1 : i = bsS xs x := by rw [← h3, bsGo, if_neg (by omega)]
    refine edA rfl rfl rfl (Ext.refl _) (by rw [e1]) ?_
    unfold crA
    rw [← e1]
  · have : i < xs.length := by omega
    rw [axA this] at hc
    simp [this, hc]
  · have h7 : i < xs.length := by omega
    rw [axA h7] at hc
    simp [h7, hc]
  · have : ¬ i < xs.length := by omega
    simp [this]
theorem tdA (w : World) (v : Value) (xs : List Int) (x : Int) (h : SlI .u16 w v xs) (hb : xs.length ≤ 4611686018427387903) : Fc Tryz.prog 143 #[v, .int .u16 x] w (Ret w (.tup2 (.val (.int .i64 (bsS xs x))) (.val (.bool (crA xs x))))) := by
  refine Fc.of (args := [_, _]) Tryz.func143 rfl rfl Tryz.ntmps143 (Nat.le_of_ble_eq_true rfl) ?_
  repeat' (first|(refine oLA ?_;first|refine a0A rfl ?_|refine wOp ?_|(refine wCm ?_ ?_<;>intro hc)|(refine oCv ?_;first|(refine oC 128 ?_; refine a3A (f := 128) rfl rfl rfl rfl  (.tup2 (.val (.int .i64 (bsS xs x))) (.val (.bool (crA xs x)))) (by intro u1 u2 w e hu1 hu2; (try obtain rfl : u1 = _ := hu1); (try obtain rfl : u2 = _ := hu2); exact bs_c _ _ _ _ (by first | exact hu1 | exact hu2 | exact hu3 | exact hu4 | exact hu5 | exact OwnI.slI hu1 | exact OwnI.slI hu2 | exact OwnI.slI hu3 | exact SlI.ext (by assumption) e | exact OwnI.slI (OwnI.ext (by assumption) e)) hb) ?_))|(refine wNl hK ?_;clear hK K))|refine wG ?_|(refine wCR ?_;intro K hK)|fail)
  exact edA rfl rfl rfl (Ext.refl _) rfl rfl
theorem ssA (n : Int) : IntKind.u16.wrap n = n % 65536 := by simp [IntKind.wrap, IntKind.bits, IntKind.signed]
theorem wiA (w : World) (v : Value) (xs : List Int) (h : SlI .u16 w v xs) : Fc Tryz.prog 176 #[v] w (Ret w (.val (.int .i64 (tzA xs)))) := by
  have hl := h.len
  refine Fc.of (args := [_]) Tryz.func176 rfl rfl Tryz.ntmps176 (Nat.le_of_ble_eq_true rfl) ?_
  repeat' (first|(refine oLA ?_;first|refine a0A rfl ?_|refine wOp ?_|(refine wCm ?_ ?_<;>intro hc)|(refine wNl hK ?_;clear hK K))|refine wG ?_|(refine wCR ?_;intro K hK)|fail)
  refine b8A (ι := Nat) (fun k => [(0, .val v), (6, .val v), (7, .val (.int .i64 xs.length)), (8, .val (.int .i64 k)), (3, .val (.int .i64 (g8A xs k)))]) (fun k => k ≤ xs.length) (fun k => xs.length - k) 0 (by omega) (by repeat' (first | exact Sub.nil | refine Sub.val rfl (by first | with_reducible rfl | (congr 1; omega)) ?_ | refine Sub.same rfl ?_)) ?_
  intro k hk
  have hr := nlA xs k
  have hs := gpA xs k
  have ek : ((k : Int) - 1).toNat = k - 1 := by omega
  repeat' (first|(refine oLA ?_;first|refine a0A rfl ?_|refine wOp ?_|(refine wCm ?_ ?_<;>intro hc)|(refine wNl hK ?_;clear hK K))|refine wG ?_|(refine wCR ?_;intro K hK)|fail)
  · rename_i hc1
    obtain rfl : k = 0 := by omega
    simp only [gsA, true_or, decide_true, if_true] at hs
    refine bpA 1 ?_ ?_ (by repeat' (first | exact Sub.nil | refine Sub.val rfl (by first | with_reducible rfl | (congr 1; omega)) ?_ | refine Sub.same rfl ?_))
    · omega
    · omega
  · rename_i hc1 hc2
    rw [ssA, ek] at hc
    have e : gsA xs k = true := by simp only [gsA, decide_eq_true_eq]; exact .inr hc
    rw [e] at hs; simp only [if_true] at hs
    refine bpA (k + 1) ?_ ?_ (by repeat' (first | exact Sub.nil | refine Sub.val rfl (by first | with_reducible rfl | (congr 1; omega)) ?_ | refine Sub.same rfl ?_))
    · omega
    · omega
  · rename_i hc1 hc2
    rw [ssA, ek] at hc
    have e : gsA xs k = false := by
      simp only [gsA, decide_eq_false_iff_not, not_or]
      exact ⟨fun h => hc2 (by omega), hc⟩
    rw [e] at hs; simp only [Bool.false_eq_true, if_false] at hs
    refine bpA (k + 1) ?_ ?_ (by repeat' (first | exact Sub.nil | refine Sub.val rfl (by first | with_reducible rfl | (congr 1; omega)) ?_ | refine Sub.same rfl ?_))
    · omega
    · omega
  · refine abA rfl rfl (Ext.refl _) ?_
    obtain rfl : k = xs.length := by omega
    rfl
theorem or1_c (x y : Bool) (w : World) : Fc Tryz.prog 134 #[.bool x, .bool y] w (Ret w (.val (.bool (fOr x y)))) := by
  refine Fc.of (args := [_, _]) Tryz.func134 rfl rfl Tryz.ntmps134 (Nat.le_of_ble_eq_true rfl) ?_
  repeat' (first|(refine oLA ?_;first|refine a0A rfl ?_|refine wOp ?_|(refine wCm ?_ ?_<;>intro hc)|(refine wNl hK ?_;clear hK K))|refine wG ?_|(refine wCR ?_;intro K hK)|fail)
  exact abA rfl rfl (Ext.refl _) rfl
theorem wwA (x y : Bool) (w : World) : Fc Tryz.prog 152 #[.bool x, .bool y] w (Ret w (.val (.bool (q3A x y)))) := by
  refine Fc.of (args := [_, _]) Tryz.func152 rfl rfl Tryz.ntmps152 (Nat.le_of_ble_eq_true rfl) ?_
  repeat' (first|(refine oLA ?_;first|refine a0A rfl ?_|refine wOp ?_|(refine wCm ?_ ?_<;>intro hc)|(refine wNl hK ?_;clear hK K))|refine wG ?_|(refine wCR ?_;intro K hK)|fail)
  exact abA rfl rfl (Ext.refl _) rfl
theorem o4A (F : Bool → Bool → Bool) (ft : FuncId) (hT : ∀ x y w, Fc Tryz.prog ft #[.bool x, .bool y] w (Ret w (.val (.bool (F x y))))) (w : World) (va vb : Value) (xs ys : List Int) (ha : SlI .u16 w va xs) (hb : SlI .u16 w vb ys) (hlen : xs.length + ys.length ≤ 70368744177663) :
    Fc Tryz.prog 133 #[va, vb, .func (.func ft) #[] #[]] w (Ret w (.pred (bjA w.heap.size 72 .u16 (awA F xs ys)))) := by
  refine Fc.of (args := [_, _, _]) Tryz.func133 rfl rfl Tryz.ntmps133 (Nat.le_of_ble_eq_true rfl) ?_
  repeat' (first|(refine oLA ?_;first|refine a0A rfl ?_|refine wOp ?_|(refine wCm ?_ ?_<;>intro hc)|(refine wNl hK ?_;clear hK K))|refine wG ?_|(refine wCR ?_;intro K hK)|fail)
  refine ahA (ι := (List Int × List Int × List Int) × Value × Value × Value) (fun i => [(0, .val i.2.1), (1, .val i.2.2.1), (2, .val (.func (.func ft) #[] #[])), (7, .val i.2.2.2)])
    (fun i wr => Ext w wr ∧ SlI .u16 w i.2.1 i.1.1 ∧ SlI .u16 w i.2.2.1 i.1.2.1 ∧ OwnI w.heap.size 72 .u16 wr i.2.2.2 i.1.2.2 ∧ awA F xs ys = i.1.2.2 ++ awA F i.1.1 i.1.2.1 ∧ i.1.2.2.length + i.1.1.length + i.1.2.1.length ≤ xs.length + ys.length)
    (fun i => i.1.1.length + i.1.2.1.length) ?_ ?_
  · exact fun wr he => ⟨((xs, ys, []), va, vb, .slice none 0 0), ⟨he, ha, hb, OwnI.nil, rfl, by simp⟩, (by repeat' (first | exact Sub.nil | refine Sub.val rfl (by first | with_reducible rfl | (congr 1; omega)) ?_ | refine Sub.same rfl ?_))⟩
  · rintro ⟨⟨l1, l2, l3⟩, a, b, o⟩ wb ⟨he, h1, h2, h3, h4, h5⟩
    dsimp only at h1 h2 h3 h4 h5 ⊢
    have h1' := h1.ext he
    have h2' := h2.ext he
    have ho := h3
    repeat' (first|(refine oLA ?_;first|refine a0A rfl ?_|refine poA rfl htA rfl rfl ?_|(refine a4A (hK _ _ (i1A rfl (by decide) htA rfl ho rfl (by omega) (by omega) he (fun v' w' he' ho' => ?_))); clear hK K; dsimp only [vals]; refine amA (by kernel_rfl) (fun K hK => ?_))|refine wOp ?_|(refine wCm ?_ ?_<;>intro hc)|(refine oCv ?_;first|refine a3A (f := ft) (r1 := .val (.bool _)) (r2 := .val (.bool _)) rfl rfl rfl rfl (.val (.bool (F _ _))) (by intro u1 u2 w e hu1 hu2; obtain rfl : u1 = _ := hu1; obtain rfl : u2 = _ := hu2; exact hT _ _ _) ?_)|(refine wNl hK ?_;clear hK K))|refine wG ?_|(refine wCR ?_;intro K hK)|(refine oCX ?_;first|refine mjA rfl (fun hc => ?_) (fun hc => ?_))|fail)
    · refine a7A ((l1.drop 1, l2, l3 ++ [l1.getD 0 0]), dyA a 1 l1.length 1, b, v') (fun w2 e2 => ⟨he'.trans e2, h1.drop (by omega), h2, ho'.ext e2, ?_, ?_⟩) ?_ (by repeat' (first | exact Sub.nil | refine Sub.val rfl (by first | with_reducible rfl | (congr 1; omega)) ?_ | refine Sub.same rfl ?_))
      · dsimp only; rw [h4, o6A F (by omega) (by omega), hc]; simp
      · dsimp only; simp only [List.length_append, List.length_drop, List.length_cons, List.length_nil]; omega
      · dsimp only; simp only [List.length_drop]; omega
    · refine a7A ((l1.drop 1, l2, l3), dyA a 1 l1.length 1, b, o) (fun w2 e2 => ⟨he.trans e2, h1.drop (by omega), h2, ho.ext e2, ?_, ?_⟩) ?_ (by repeat' (first | exact Sub.nil | refine Sub.val rfl (by first | with_reducible rfl | (congr 1; omega)) ?_ | refine Sub.same rfl ?_))
      · dsimp only; rw [h4, o6A F (by omega) (by omega), hc]; simp
      · dsimp only; simp only [List.length_append, List.length_drop, List.length_cons, List.length_nil]; omega
      · dsimp only; simp only [List.length_drop]; omega
    · refine a7A ((l1.drop 1, l2.drop 1, l3 ++ [l2.getD 0 0]), dyA a 1 l1.length 1, dyA b 1 l2.length 1, v') (fun w2 e2 => ⟨he'.trans e2, h1.drop (by omega), h2.drop (by omega), ho'.ext e2, ?_, ?_⟩) ?_ (by repeat' (first | exact Sub.nil | refine Sub.val rfl (by first | with_reducible rfl | (congr 1; omega)) ?_ | refine Sub.same rfl ?_))
      · dsimp only; rw [h4, lrA F (by omega) (by omega) (by omega), hc]; simp
      · dsimp only; simp only [List.length_append, List.length_drop, List.length_cons, List.length_nil]; omega
      · dsimp only; simp only [List.length_drop]; omega
    · refine a7A ((l1.drop 1, l2.drop 1, l3), dyA a 1 l1.length 1, dyA b 1 l2.length 1, o) (fun w2 e2 => ⟨he.trans e2, h1.drop (by omega), h2.drop (by omega), ho.ext e2, ?_, ?_⟩) ?_ (by repeat' (first | exact Sub.nil | refine Sub.val rfl (by first | with_reducible rfl | (congr 1; omega)) ?_ | refine Sub.same rfl ?_))
      · dsimp only; rw [h4, lrA F (by omega) (by omega) (by omega), hc]; simp
      · dsimp only; simp only [List.length_append, List.length_drop, List.length_cons, List.length_nil]; omega
      · dsimp only; simp only [List.length_drop]; omega
    · refine a7A ((l1.drop 1, l2, l3 ++ [l1.getD 0 0]), dyA a 1 l1.length 1, b, v') (fun w2 e2 => ⟨he'.trans e2, h1.drop (by omega), h2, ho'.ext e2, ?_, ?_⟩) ?_ (by repeat' (first | exact Sub.nil | refine Sub.val rfl (by first | with_reducible rfl | (congr 1; omega)) ?_ | refine Sub.same rfl ?_))
      · dsimp only; rw [h4, lpA F (by omega) (by omega) (by omega), hc]; simp
      · dsimp only; simp only [List.length_append, List.length_drop, List.length_cons, List.length_nil]; omega
      · dsimp only; simp only [List.length_drop]; omega
    · refine a7A ((l1.drop 1, l2, l3), dyA a 1 l1.length 1, b, o) (fun w2 e2 => ⟨he.trans e2, h1.drop (by omega), h2, ho.ext e2, ?_, ?_⟩) ?_ (by repeat' (first | exact Sub.nil | refine Sub.val rfl (by first | with_reducible rfl | (congr 1; omega)) ?_ | refine Sub.same rfl ?_))
      · dsimp only; rw [h4, lpA F (by omega) (by omega) (by omega), hc]; simp
      · dsimp only; simp only [List.length_append, List.length_drop, List.length_cons, List.length_nil]; omega
      · dsimp only; simp only [List.length_drop]; omega
    · refine a7A ((l1, l2.drop 1, l3 ++ [l2.getD 0 0]), a, dyA b 1 l2.length 1, v') (fun w2 e2 => ⟨he'.trans e2, h1, h2.drop (by omega), ho'.ext e2, ?_, ?_⟩) ?_ (by repeat' (first | exact Sub.nil | refine Sub.val rfl (by first | with_reducible rfl | (congr 1; omega)) ?_ | refine Sub.same rfl ?_))
      · dsimp only; rw [h4, lqA F (by omega) (by omega) (by omega), hc]; simp
      · dsimp only; simp only [List.length_append, List.length_drop, List.length_cons, List.length_nil]; omega
      · dsimp only; simp only [List.length_drop]; omega
    · refine a7A ((l1, l2.drop 1, l3), a, dyA b 1 l2.length 1, o) (fun w2 e2 => ⟨he.trans e2, h1, h2.drop (by omega), ho.ext e2, ?_, ?_⟩) ?_ (by repeat' (first | exact Sub.nil | refine Sub.val rfl (by first | with_reducible rfl | (congr 1; omega)) ?_ | refine Sub.same rfl ?_))
      · dsimp only; rw [h4, lqA F (by omega) (by omega) (by omega), hc]; simp
      · dsimp only; simp only [List.length_append, List.length_drop, List.length_cons, List.length_nil]; omega
      · dsimp only; simp only [List.length_drop]; omega
    · refine a7A ((l1, l2.drop 1, l3 ++ [l2.getD 0 0]), a, dyA b 1 l2.length 1, v') (fun w2 e2 => ⟨he'.trans e2, h1, h2.drop (by omega), ho'.ext e2, ?_, ?_⟩) ?_ (by repeat' (first | exact Sub.nil | refine Sub.val rfl (by first | with_reducible rfl | (congr 1; omega)) ?_ | refine Sub.same rfl ?_))
      · dsimp only; rw [h4, o5A F (by omega) (by omega), hc]; simp
      · dsimp only; simp only [List.length_append, List.length_drop, List.length_cons, List.length_nil]; omega
      · dsimp only; simp only [List.length_drop]; omega
    · refine a7A ((l1, l2.drop 1, l3), a, dyA b 1 l2.length 1, o) (fun w2 e2 => ⟨he.trans e2, h1, h2.drop (by omega), ho.ext e2, ?_, ?_⟩) ?_ (by repeat' (first | exact Sub.nil | refine Sub.val rfl (by first | with_reducible rfl | (congr 1; omega)) ?_ | refine Sub.same rfl ?_))
      · dsimp only; rw [h4, o5A F (by omega) (by omega), hc]; simp
      · dsimp only; simp only [List.length_append, List.length_drop, List.length_cons, List.length_nil]; omega
      · dsimp only; simp only [List.length_drop]; omega
    · refine alA rfl rfl he (fun u w2 e2 hu => ?_)
      obtain rfl : u = o := hu
      have e1 : l1 = [] := List.eq_nil_of_length_eq_zero (by omega)
      have e3 : l2 = [] := List.eq_nil_of_length_eq_zero (by omega)
      have e4 : awA F xs ys = l3 := by rw [h4, e1, e3]; simp [awA]
      rw [e4]
      exact ho.ext e2
theorem or_c (w : World) (va vb : Value) (xs ys : List Int) (ha : SlI .u16 w va xs) (hb : SlI .u16 w vb ys) (hlen : xs.length + ys.length ≤ 70368744177663) :
    Fc Tryz.prog 90 #[va, vb] w (Ret w (.pred (bjA w.heap.size 72 .u16 (awA fOr xs ys)))) := by
  refine Fc.of (args := [_, _]) Tryz.func90 rfl rfl Tryz.ntmps90 (Nat.le_of_ble_eq_true rfl) ?_
  repeat' (first|(refine oLA ?_;first|refine a0A rfl ?_|refine wOp ?_|(refine wCm ?_ ?_<;>intro hc)|(refine oCv ?_;first|(refine oC 133 ?_; refine bhA (f := 133) rfl rfl rfl rfl rfl  (.pred (bjA w.heap.size 72 .u16 (awA fOr xs ys))) (by intro u1 u2 u3 w e hu1 hu2 hu3; (try obtain rfl : u1 = _ := hu1); (try obtain rfl : u2 = _ := hu2); (try obtain rfl : u3 = _ := hu3); exact (o4A fOr _ or1_c _ _ _ xs ys (by first | exact hu1 | exact hu2 | exact hu3 | exact hu4 | exact hu5 | exact OwnI.slI hu1 | exact OwnI.slI hu2 | exact OwnI.slI hu3 | exact SlI.ext (by assumption) e | exact OwnI.slI (OwnI.ext (by assumption) e)) (by first | exact hu1 | exact hu2 | exact hu3 | exact hu4 | exact hu5 | exact OwnI.slI hu1 | exact OwnI.slI hu2 | exact OwnI.slI hu3 | exact SlI.ext (by assumption) e | exact OwnI.slI (OwnI.ext (by assumption) e)) hlen).mono (aaA e.size)) ?_))|(refine wNl hK ?_;clear hK K))|refine wG ?_|(refine wCR ?_;intro K hK)|fail)
  exact alA rfl rfl (Ext.refl _) (fun _ _ _ h => h)
theorem ryA (w : World) (va vb : Value) (xs ys : List Int) (ha : SlI .u16 w va xs) (hb : SlI .u16 w vb ys) (hlen : xs.length + ys.length ≤ 70368744177663) :
    Fc Tryz.prog 109 #[va, vb] w (Ret w (.pred (bjA w.heap.size 72 .u16 (awA q3A xs ys)))) := by
  refine Fc.of (args := [_, _]) Tryz.func109 rfl rfl Tryz.ntmps109 (Nat.le_of_ble_eq_true rfl) ?_
  repeat' (first|(refine oLA ?_;first|refine a0A rfl ?_|refine wOp ?_|(refine wCm ?_ ?_<;>intro hc)|(refine oCv ?_;first|(refine oC 133 ?_; refine bhA (f := 133) rfl rfl rfl rfl rfl  (.pred (bjA w.heap.size 72 .u16 (awA q3A xs ys))) (by intro u1 u2 u3 w e hu1 hu2 hu3; (try obtain rfl : u1 = _ := hu1); (try obtain rfl : u2 = _ := hu2); (try obtain rfl : u3 = _ := hu3); exact (o4A q3A _ wwA _ _ _ xs ys (by first | exact hu1 | exact hu2 | exact hu3 | exact hu4 | exact hu5 | exact OwnI.slI hu1 | exact OwnI.slI hu2 | exact OwnI.slI hu3 | exact SlI.ext (by assumption) e | exact OwnI.slI (OwnI.ext (by assumption) e)) (by first | exact hu1 | exact hu2 | exact hu3 | exact hu4 | exact hu5 | exact OwnI.slI hu1 | exact OwnI.slI hu2 | exact OwnI.slI hu3 | exact SlI.ext (by assumption) e | exact OwnI.slI (OwnI.ext (by assumption) e)) hlen).mono (aaA e.size)) ?_))|(refine wNl hK ?_;clear hK K))|refine wG ?_|(refine wCR ?_;intro K hK)|fail)
  exact alA rfl rfl (Ext.refl _) (fun _ _ _ h => h)
theorem ooA (f : Bool → Bool → Bool) (what : Int) (xs ys : List Int) (h : Inc xs) (h' : Inc ys) (hl : Low xs) (hl' : Low ys) (hm : ∀ z, z ∈ awA f xs ys ↔ iyA what (decide (z ∈ xs)) (decide (z ∈ ys)) = true) (hff : iyA what false false = false) :
    awA f xs ys = adA (fun i => iyA what (bkA xs i) (bkA ys i)) 65536 := by
  refine ffA (o3A _ _ _ h h') (bfA _ _) fun z => ?_
  rw [hm, buA]
  constructor
  · intro hz
    have : 0 ≤ z ∧ z < 65536 := by
      by_cases h1 : z ∈ xs
      · exact hl z h1
      · by_cases h2 : z ∈ ys
        · exact hl' z h2
        · rw [decide_eq_false h1, decide_eq_false h2, hff] at hz; cases hz
    exact ⟨z.toNat, by omega, by simp only [bkA, show ((z.toNat : Nat) : Int) = z by omega]; exact hz, by omega⟩
  · rintro ⟨i, g1, g2, rfl⟩
    exact g2
section
variable {xs ys : List Int} (h : Inc xs) (h' : Inc ys) (hl : Low xs) (hl' : Low ys)
include h h' hl hl'
theorem wrA : awA fOr xs ys = adA (fun i => iyA 2 (bkA xs i) (bkA ys i)) 65536 := ooA _ _ _ _ h h' hl hl' (fun z => by rw [wzA h h']; simp [iyA]) rfl
theorem wuA : awA q3A xs ys = adA (fun i => iyA 3 (bkA xs i) (bkA ys i)) 65536 := ooA _ _ _ _ h h' hl hl' (fun z => by rw [unA h h']; simp [iyA]) rfl
end
end Go.Proofs.YtfcioiobhpcngaaGreatDoor
end
section
set_option linter.unusedSimpArgs false
set_option linter.unusedVariables false
namespace Go.LA
open Go.RowKit Go.ArrP
abbrev Rn := Int × Int
def bel (p : Nat → Bool) : Nat → Bool
  | 0 => false
  | n + 1 => p n
def frm (p : Nat → Bool) : Nat → Nat
  | 0 => 0
  | n + 1 => if p n && !bel p n then n else frm p n
def rnC (p : Nat → Bool) : Nat → List Rn
  | 0 => []
  | n + 1 => rnC p n ++ if !p n && bel p n then [((frm p n : Int), (n : Int) - frm p n - 1)] else []
def opn (p : Nat → Bool) (T : Nat) : List Rn := rnC p T ++ if bel p T then [((frm p T : Int), (T : Int) - frm p T - 1)] else []
def aoA (p : Nat → Bool) : List Rn := opn p 65536
theorem euA (p : Nat → Bool) : ∀ T, bel p T = true → frm p T < T
  | 0, h => by cases h
  | T + 1, h => by
    have hp : p T = true := h
    simp only [frm, hp, Bool.true_and]
    cases hb : bel p T
    · simp
    · have := euA p T hb
      simp; omega
theorem duA {p : Nat → Bool} {T : Nat} (h : p T = true) (hb : bel p T = true) : opn p (T + 1) = rnC p T ++ [((frm p T : Int), (T : Int) - frm p T)] := by
  have h1 : bel p (T + 1) = true := h
  have h2 : frm p (T + 1) = frm p T := by simp [frm, h, hb]
  have h3 : rnC p (T + 1) = rnC p T := by simp [rnC, h]
  unfold opn
  rw [h1, h2, h3, if_pos rfl]
  congr 3
  omega
theorem e2A {p : Nat → Bool} {T : Nat} (hb : bel p T = true) : opn p T = rnC p T ++ [((frm p T : Int), (T : Int) - frm p T - 1)] := by
  unfold opn; rw [hb, if_pos rfl]
theorem enA {p : Nat → Bool} {T : Nat} (hb : bel p T = false) : opn p T = rnC p T := by
  unfold opn; rw [hb]; simp
theorem eoA {p : Nat → Bool} {T : Nat} (h : p T = true) (hb : bel p T = false) : opn p (T + 1) = opn p T ++ [((T : Int), 0)] := by
  have h1 : bel p (T + 1) = true := h
  have h2 : frm p (T + 1) = T := by simp [frm, h, hb]
  have h3 : rnC p (T + 1) = rnC p T := by simp [rnC, h]
  rw [enA hb, e2A h1, h2, h3]
  congr 3
  omega
theorem faA {p : Nat → Bool} {T : Nat} (h : p T = false) : opn p (T + 1) = opn p T := by
  have h1 : bel p (T + 1) = false := h
  rw [enA h1, rnC, h]
  cases hb : bel p T
  · rw [enA hb]; simp
  · rw [e2A hb]; simp
theorem h8A {p q : Nat → Bool} : ∀ T, (∀ i, i < T → p i = q i) → bel p T = bel q T
  | 0, _ => rfl
  | T + 1, h => h T (by omega)
theorem h3A {p q : Nat → Bool} : ∀ T, (∀ i, i < T → p i = q i) → frm p T = frm q T
  | 0, _ => rfl
  | T + 1, h => by
    simp only [frm, h T (by omega), h8A T (fun i hi => h i (by omega)), h3A T (fun i hi => h i (by omega))]
theorem jeA {p q : Nat → Bool} : ∀ T, (∀ i, i < T → p i = q i) → rnC p T = rnC q T
  | 0, _ => rfl
  | T + 1, h => by
    simp only [rnC, h T (by omega), h8A T (fun i hi => h i (by omega)), h3A T (fun i hi => h i (by omega)), jeA T (fun i hi => h i (by omega))]
theorem jiA {p q : Nat → Bool} (T : Nat) (h : ∀ i, i < T → p i = q i) : opn p T = opn q T := by
  unfold opn; rw [h8A T h, h3A T h, jeA T h]
theorem eaA {p q : Nat → Bool} (h : ∀ i, i < 65536 → p i = q i) : aoA p = aoA q := jiA 65536 h
def hkA (g : Rn → Int) : List Rn → Int
  | [] => 0
  | x :: r => g x + hkA g r
theorem czA (g : Rn → Int) : ∀ a b, hkA g (a ++ b) = hkA g a + hkA g b
  | [], b => by simp [hkA]
  | x :: a, b => by simp only [List.cons_append, hkA, czA g a b]; omega
def kdA (rs : List Rn) : Int := hkA (fun x => x.2 + 1) rs
def hnA (rs : List Rn) (x : Int) : Int := hkA (fun y => min (max (x - y.1) 0) (y.2 + 1)) rs
theorem obA (p : Nat → Bool) : ∀ T, kdA (opn p T) = cnt p T
  | 0 => rfl
  | T + 1 => by
    have ih := obA p T
    unfold kdA at ih ⊢
    simp only [cnt]
    cases h : p T
    · rw [faA h]; simpa using ih
    · cases hb : bel p T
      · rw [eoA h hb, czA, ih]; simp [hkA]
      · rw [e2A hb, czA] at ih
        rw [duA h hb, czA]
        simp only [hkA, if_true] at ih ⊢
        omega
theorem lgA (p : Nat → Bool) (x : Int) : ∀ T : Nat, hnA (opn p T) x = cnt p (min (max x 0) T).toNat
  | 0 => by rw [show (min (max x 0) ((0 : Nat) : Int)).toNat = 0 by omega]; rfl
  | T + 1 => by
    have ih := lgA p x T
    unfold hnA at ih ⊢
    by_cases hx : x ≤ T
    · rw [show (min (max x 0) ((T + 1 : Nat) : Int)).toNat = (min (max x 0) (T : Int)).toNat by omega, ← ih]
      cases h : p T
      · rw [faA h]
      · cases hb : bel p T
        · rw [eoA h hb, czA]; simp only [hkA]; omega
        · have := euA p T hb
          rw [duA h hb, e2A hb, czA, czA]; simp only [hkA]; omega
    · rw [show (min (max x 0) ((T + 1 : Nat) : Int)).toNat = T + 1 by omega]
      rw [show (min (max x 0) (T : Int)).toNat = T by omega] at ih
      simp only [cnt]
      cases h : p T
      · rw [faA h, ih]; simp
      · cases hb : bel p T
        · rw [eoA h hb, czA, ih]; simp only [hkA, if_true]; omega
        · have := euA p T hb
          rw [e2A hb, czA] at ih
          rw [duA h hb, czA]; simp only [hkA, if_true] at ih ⊢; omega
theorem geA (p : Nat → Bool) : ∀ T, (opn p T).length = cnt (biA p) T
  | 0 => rfl
  | T + 1 => by
    have ih := geA p T
    have hs : biA p T = (p T && !bel p T) := by cases T <;> rfl
    simp only [cnt, hs]
    cases h : p T
    · rw [faA h, ih]; simp
    · cases hb : bel p T
      · rw [eoA h hb, List.length_append, ih]; rfl
      · rw [e2A hb] at ih
        rw [duA h hb]; simpa using ih
def n3A (f m : Int) : List Int := (List.range (m + 1).toNat).map (fun j => f + ((j : Nat) : Int))
def ebA : List Rn → List Int
  | [] => []
  | x :: r => n3A x.1 x.2 ++ ebA r
theorem esA : ∀ a b, ebA (a ++ b) = ebA a ++ ebA b
  | [], b => rfl
  | x :: a, b => by simp only [List.cons_append, ebA, esA a b, List.append_assoc]
theorem leA (f m : Int) : (n3A f m).length = (m + 1).toNat := by simp [n3A]
theorem jdA (f : Int) (j : Nat) : n3A f j = n3A f ((j : Int) - 1) ++ [f + j] := by
  unfold n3A
  rw [show ((j : Int) + 1).toNat = j + 1 by omega, show ((j : Int) - 1 + 1).toNat = j by omega, List.range_succ, List.map_append]
  rfl
theorem jmA : ∀ rs : List Rn, (∀ x ∈ rs, 0 ≤ x.2) → ((ebA rs).length : Int) = kdA rs
  | [], _ => rfl
  | x :: r, h => by
    have ih := jmA r (fun y hy => h y (List.mem_cons_of_mem _ hy))
    have := h x (List.mem_cons_self ..)
    unfold kdA at ih ⊢
    simp only [ebA, hkA, List.length_append, leA]
    omega
theorem ltA (p : Nat → Bool) : ∀ T, ebA (opn p T) = adA p T
  | 0 => rfl
  | T + 1 => by
    have ih := ltA p T
    simp only [adA]
    cases h : p T
    · rw [faA h, ih]; simp
    · cases hb : bel p T
      · rw [eoA h hb, esA, ih]; simp [ebA, n3A]
      · have := euA p T hb
        rw [e2A hb, esA] at ih
        rw [duA h hb, esA, if_pos rfl, ← ih]
        simp only [ebA, List.append_nil]
        rw [List.append_assoc]
        congr 1
        obtain ⟨j, hj⟩ : ∃ j : Nat, (T : Int) - frm p T = j := ⟨T - frm p T, by omega⟩
        rw [show (T : Int) - frm p T - 1 = (j : Int) - 1 by omega, hj, jdA]
        congr 2; omega
def fst (rs : List Rn) (k : Nat) : Int := (rs.getD k (0, 0)).1
def mor (rs : List Rn) (k : Nat) : Int := (rs.getD k (0, 0)).2
def lst (rs : List Rn) : Nat → Int
  | 0 => 0
  | k + 1 => fst rs k + mor rs k + 2
def Right (rs : List Rn) : Prop := ∀ k, k < rs.length → lst rs k ≤ fst rs k ∧ fst rs k + mor rs k + 1 ≤ 65536
def U16 (rs : List Rn) : Prop := ∀ x ∈ rs, 0 ≤ x.1 ∧ x.1 < 65536 ∧ 0 ≤ x.2 ∧ x.2 < 65536
def inR (rs : List Rn) (i : Nat) : Bool := rs.any (fun x => decide (x.1 ≤ i) && decide ((i : Int) ≤ x.1 + x.2))
noncomputable instance (rs : List Rn) : Decidable (Right rs) := Classical.propDecidable _
theorem U16.at {rs : List Rn} (h : U16 rs) (k : Nat) : 0 ≤ fst rs k ∧ fst rs k < 65536 ∧ 0 ≤ mor rs k ∧ mor rs k < 65536 := by
  unfold fst mor
  by_cases hk : k < rs.length
  · have : rs.getD k (0, 0) = rs[k] := by simp [List.getD, hk]
    rw [this]; exact h _ (List.getElem_mem hk)
  · have : rs.getD k (0, 0) = (0, 0) := by simp [List.getD, List.getElem?_eq_none (by omega : rs.length ≤ k)]
    rw [this]; decide
theorem fkA {rs : List Rn} {k : Nat} (hk : k < rs.length) : rs.take (k + 1) = rs.take k ++ [(fst rs k, mor rs k)] := by
  rw [List.take_succ_eq_append_getElem hk]
  have : rs.getD k (0, 0) = rs[k] := by simp [List.getD, hk]
  unfold fst mor; rw [this]
theorem h1A (a b : List Rn) (i : Nat) : inR (a ++ b) i = (inR a i || inR b i) := by unfold inR; rw [List.any_append]
theorem h0A (f m : Int) (i : Nat) : inR [(f, m)] i = (decide (f ≤ i) && decide ((i : Int) ≤ f + m)) := by simp [inR]
theorem f3A {p : Nat → Bool} {a : Nat} : ∀ T, a ≤ T → (∀ i, a ≤ i → i < T → p i = false) → opn p T = opn p a
  | 0, h, _ => by obtain rfl : a = 0 := by omega
                  rfl
  | T + 1, h, hf => by
    rcases Nat.lt_or_ge T a with h1 | h1
    · obtain rfl : a = T + 1 := by omega
      rfl
    · rw [faA (hf T h1 (by omega)), f3A T h1 (fun i g1 g2 => hf i g1 (by omega))]
theorem jfA {rs : List Rn} (hr : Right rs) (hu : U16 rs) : ∀ k, k ≤ rs.length → (∀ i : Nat, lst rs k ≤ (i : Int) + 1 → inR (rs.take k) i = false) ∧ (∀ T : Nat, lst rs k ≤ (T : Int) + 1 → opn (inR (rs.take k)) T = rs.take k)
  | 0, _ => ⟨fun i _ => rfl, fun T _ => by
      rw [List.take_zero]
      exact f3A (a := 0) T (Nat.zero_le _) (fun i _ _ => rfl)⟩
  | k + 1, hk => by
    obtain ⟨ih1, ih2⟩ := jfA hr hu k (by omega)
    obtain ⟨g1, g2⟩ := hr k (by omega)
    obtain ⟨u1, u2, u3, u4⟩ := hu.at k
    obtain ⟨f, hf⟩ := Int.eq_ofNat_of_zero_le u1
    obtain ⟨m, hm⟩ := Int.eq_ofNat_of_zero_le u3
    have hl : lst rs (k + 1) = (f : Int) + m + 2 := by rw [← hf, ← hm]; rfl
    rw [hl, fkA (by omega), hf, hm]
    rw [hf] at g1
    have hq : ∀ i : Nat, inR (rs.take k ++ [((f : Int), (m : Int))]) i = (inR (rs.take k) i || (decide ((f : Int) ≤ i) && decide ((i : Int) ≤ f + m))) := fun i => by rw [h1A, h0A]
    obtain ⟨q, hqd⟩ : ∃ q, q = inR (rs.take k ++ [((f : Int), (m : Int))]) := ⟨_, rfl⟩
    rw [← hqd] at hq ⊢
    have hlow : ∀ i, i < f → q i = inR (rs.take k) i := fun i hi => by rw [hq, decide_eq_false (by omega : ¬ ((f : Int) ≤ i))]; simp
    have hin : ∀ i, f ≤ i → i ≤ f + m → q i = true := fun i h1 h2 => by rw [hq, decide_eq_true (by omega : (f : Int) ≤ i), decide_eq_true (by omega : (i : Int) ≤ f + m)]; simp
    have hhi : ∀ i, f + m < i → q i = false := fun i h1 => by rw [hq, ih1 i (by omega), decide_eq_false (by omega : ¬ (i : Int) ≤ f + m)]; simp
    have hof : opn q f = rs.take k := by rw [jiA f hlow]; exact ih2 f (by omega)
    have hbf : bel q f = false := by
      cases f with
      | zero => rfl
      | succ f' =>
        show q f' = false
        rw [hlow f' (by omega)]; exact ih1 f' (by omega)
    have key : ∀ j, j ≤ m → rnC q (f + 1 + j) = rs.take k ∧ frm q (f + 1 + j) = f ∧ bel q (f + 1 + j) = true := by
      intro j
      induction j with
      | zero =>
        intro _
        have hqf := hin f (Nat.le_refl _) (by omega)
        refine ⟨?_, by simp [frm, hqf, hbf], hqf⟩
        rw [enA hbf] at hof
        simp [rnC, hqf, hof]
      | succ j ih =>
        intro hj
        obtain ⟨a1, a2, a3⟩ := ih (by omega)
        have hqf := hin (f + 1 + j) (by omega) (by omega)
        refine ⟨?_, ?_, hqf⟩
        · show rnC q (f + 1 + j + 1) = _
          simp [rnC, hqf, a1]
        · show frm q (f + 1 + j + 1) = _
          simp [frm, hqf, a3, a2]
    refine ⟨fun i hi => hhi i (by omega), fun T hT => ?_⟩
    rw [f3A (a := f + 1 + m) T (by omega) (fun i h1 h2 => hhi i (by omega))]
    obtain ⟨a1, a2, a3⟩ := key m (Nat.le_refl _)
    rw [e2A a3, a1, a2]
    congr 3
    omega
theorem ktA {a : List Rn} {x : Rn} (k : Nat) : (a ++ [x]).getD k (0, 0) = if k < a.length then a.getD k (0, 0) else if k = a.length then x else (0, 0) := by
  by_cases h : k < a.length
  · rw [if_pos h, List.getD, List.getElem?_append_left h]; rfl
  · rw [if_neg h, List.getD, List.getElem?_append_right (by omega)]
    by_cases e : k = a.length
    · subst e; simp
    · rw [if_neg e, List.getElem?_eq_none (by simp; omega)]; rfl
theorem Right.snoc {a : List Rn} {f m : Int} (h : Right a) (h1 : lst a a.length ≤ f) (h2 : f + m + 1 ≤ 65536) : Right (a ++ [(f, m)]) := by
  have hl : ∀ k, k ≤ a.length → lst (a ++ [(f, m)]) k = lst a k := fun k hk => by
    cases k with
    | zero => rfl
    | succ k => simp only [lst, fst, mor]; rw [ktA, if_pos (by omega)]
  intro k hk
  rw [List.length_append] at hk
  have hk : k < a.length + 1 := hk
  rw [hl k (by omega)]
  unfold fst mor
  rw [ktA]
  by_cases e : k < a.length
  · rw [if_pos e]; exact h k e
  · obtain rfl : k = a.length := by omega
    rw [if_neg e, if_pos rfl]; exact ⟨h1, h2⟩
theorem U16.app {a b : List Rn} (ha : U16 a) (hb : U16 b) : U16 (a ++ b) := fun x hx => (List.mem_append.1 hx).elim (ha x) (hb x)
theorem U16.one {f m : Int} (h1 : 0 ≤ f) (h2 : f < 65536) (h3 : 0 ≤ m) (h4 : m < 65536) : U16 [(f, m)] := fun x hx => by
  rw [List.mem_singleton] at hx; subst hx; exact ⟨h1, h2, h3, h4⟩
theorem gdA (p : Nat → Bool) : ∀ T, T ≤ 65536 → (Right (rnC p T) ∧ U16 (rnC p T) ∧ lst (rnC p T) (rnC p T).length ≤ (if bel p T then (frm p T : Int) else (T : Int) + 1)) ∧ (Right (opn p T) ∧ U16 (opn p T))
  | 0, _ => ⟨⟨fun k hk => by simp [rnC] at hk, fun x hx => by simp [rnC] at hx, by simp [rnC, lst, bel]⟩, fun k hk => by simp [opn, rnC, bel] at hk, fun x hx => by simp [opn, rnC, bel] at hx⟩
  | T + 1, hT => by
    obtain ⟨⟨i1, i2, i3⟩, i4, i5⟩ := gdA p T (by omega)
    have lastA : ∀ (a : List Rn) (f m : Int), lst (a ++ [(f, m)]) (a ++ [(f, m)]).length = f + m + 2 := fun a f m => by
      rw [List.length_append]
      show fst (a ++ [(f, m)]) a.length + mor (a ++ [(f, m)]) a.length + 2 = _
      unfold fst mor
      rw [ktA, if_neg (by omega), if_pos rfl]
    have A : Right (rnC p (T + 1)) ∧ U16 (rnC p (T + 1)) ∧ lst (rnC p (T + 1)) (rnC p (T + 1)).length ≤ (if bel p (T + 1) then (frm p (T + 1) : Int) else ((T + 1 : Nat) : Int) + 1) := by
      have hb1 : bel p (T + 1) = p T := rfl
      rw [hb1]
      cases h : p T
      · cases hb : bel p T
        · have e : rnC p (T + 1) = rnC p T := by simp [rnC, h, hb]
          rw [e]
          rw [hb] at i3
          refine ⟨i1, i2, ?_⟩
          simp only [Bool.false_eq_true, if_false] at i3 ⊢
          omega
        · have e : rnC p (T + 1) = rnC p T ++ [((frm p T : Int), (T : Int) - frm p T - 1)] := by simp [rnC, h, hb]
          have := euA p T hb
          rw [hb, if_pos rfl] at i3
          rw [e]
          refine ⟨i1.snoc i3 (by omega), i2.app (U16.one (by omega) (by omega) (by omega) (by omega)), ?_⟩
          rw [lastA]
          simp only [Bool.false_eq_true, if_false]; omega
      · have e : rnC p (T + 1) = rnC p T := by simp [rnC, h]
        rw [e, if_pos rfl]
        refine ⟨i1, i2, ?_⟩
        cases hb : bel p T
        · have e2 : frm p (T + 1) = T := by simp [frm, h, hb]
          rw [hb] at i3
          simp only [Bool.false_eq_true, if_false] at i3
          rw [e2]
          -- the run ahead ended below T
          have hlt : lst (rnC p T) (rnC p T).length ≤ (T : Int) := by
            cases T with
            | zero => simp [rnC, lst]
            | succ T' =>
              have hp' : p T' = false := hb
              obtain ⟨⟨j1, j2, j3⟩, -, -⟩ := gdA p T' (by omega)
              cases hb' : bel p T'
              · have e3 : rnC p (T' + 1) = rnC p T' := by simp [rnC, hp', hb']
                rw [hb'] at j3
                simp only [Bool.false_eq_true, if_false] at j3
                rw [e3]; omega
              · have e3 : rnC p (T' + 1) = rnC p T' ++ [((frm p T' : Int), (T' : Int) - frm p T' - 1)] := by simp [rnC, hp', hb']
                rw [e3, lastA]; omega
          exact hlt
        · have e2 : frm p (T + 1) = frm p T := by simp [frm, h, hb]
          rw [hb, if_pos rfl] at i3
          rw [e2]; exact i3
    refine ⟨A, ?_⟩
    obtain ⟨a1, a2, a3⟩ := A
    cases hb : bel p (T + 1)
    · rw [enA hb]; exact ⟨a1, a2⟩
    · have := euA p (T + 1) hb
      rw [hb, if_pos rfl] at a3
      rw [e2A hb]
      exact ⟨a1.snoc a3 (by omega), a2.app (U16.one (by omega) (by omega) (by omega) (by omega))⟩
theorem e0A (p : Nat → Bool) : Right (aoA p) := (gdA p 65536 (Nat.le_refl _)).2.1
theorem dtA (p : Nat → Bool) : U16 (aoA p) := (gdA p 65536 (Nat.le_refl _)).2.2
theorem olA (p : Nat → Bool) : ∀ (T i : Nat), inR (opn p T) i = (decide (i < T) && p i)
  | 0, i => by simp [opn, rnC, bel, inR]
  | T + 1, i => by
    have ih := olA p T i
    cases h : p T
    · rw [faA h, ih]
      by_cases e : i = T
      · subst e; simp [h]
      · rw [show decide (i < T + 1) = decide (i < T) by rw [decide_eq_decide]; omega]
    · cases hb : bel p T
      · rw [eoA h hb, h1A, ih, h0A]
        by_cases e : i = T
        · subst e; simp [h]
        · rw [show decide (i < T + 1) = decide (i < T) by rw [decide_eq_decide]; omega]
          rcases Nat.lt_or_ge i T with h1 | h1
          · rw [decide_eq_false (by omega : ¬ ((T : Nat) : Int) ≤ i)]; simp
          · rw [decide_eq_false (by omega : ¬ (i : Int) ≤ ((T : Nat) : Int) + 0)]; simp
      · have := euA p T hb
        rw [e2A hb, h1A, h0A] at ih
        rw [duA h hb, h1A, h0A]
        by_cases e : i = T
        · subst e
          rw [decide_eq_true (by omega : ((frm p i : Nat) : Int) ≤ i), decide_eq_true (by omega : (i : Int) ≤ (frm p i : Int) + ((i : Int) - frm p i))]
          simp [h]
        · rw [show decide (i < T + 1) = decide (i < T) by rw [decide_eq_decide]; omega, ← ih]
          congr 2
          rw [decide_eq_decide]; omega
theorem gfA (p : Nat → Bool) {i : Nat} (hi : i < 65536) : inR (aoA p) i = p i := by
  unfold aoA; rw [olA]; simp [hi]
def chg (p : Nat → Bool) (x : Nat) : Bool := p x != bel p x
def lcA : List Rn → List Int
  | [] => []
  | x :: r => x.1 :: (x.1 + x.2 + 1) :: lcA r
theorem ibA : ∀ a b, lcA (a ++ b) = lcA a ++ lcA b
  | [], b => rfl
  | x :: a, b => by simp only [List.cons_append, lcA, ibA a b]
theorem lbA : ∀ a, (lcA a).length = 2 * a.length
  | [] => rfl
  | x :: a => by simp only [lcA, List.length_cons, lbA a]; omega
theorem szA (p : Nat → Bool) : ∀ T, lcA (rnC p T) ++ (if bel p T then [(frm p T : Int)] else []) = adA (chg p) T
  | 0 => rfl
  | T + 1 => by
    have ih := szA p T
    have hc : chg p T = (p T != bel p T) := rfl
    have hb1 : bel p (T + 1) = p T := rfl
    simp only [adA, ← ih]
    cases h : p T
    · rw [h] at hc hb1
      rw [hb1]
      cases hb : bel p T
      · rw [hb] at hc
        rw [hc]; simp [rnC, h, hb]
      · rw [hb] at hc
        have e : rnC p (T + 1) = rnC p T ++ [((frm p T : Int), (T : Int) - frm p T - 1)] := by simp [rnC, h, hb]
        rw [hc, e, ibA]
        simp only [lcA, if_true, Bool.false_eq_true, if_false, List.append_nil, Bool.false_bne]
        rw [show (frm p T : Int) + ((T : Int) - frm p T - 1) + 1 = T by omega]
        simp
    · rw [h] at hc hb1
      rw [hb1]
      cases hb : bel p T
      · rw [hb] at hc
        rw [hc]; simp [rnC, frm, h, hb]
      · rw [hb] at hc
        rw [hc]; simp [rnC, frm, h, hb]
theorem qhA {p : Nat → Bool} (hp : p 65536 = false) : lcA (aoA p) = adA (chg p) 65537 := by
  have h := szA p 65537
  have hb : bel p 65537 = false := hp
  rw [hb] at h
  unfold aoA
  rw [← faA hp, enA hb, ← h]; simp
theorem wjA {p : Nat → Bool} (hp : p 65536 = false) : aoA p = rnC p 65537 := by
  have hb : bel p 65537 = false := hp
  unfold aoA
  rw [← faA hp, enA hb]
theorem kcA (p : Nat → Bool) : ∀ T, cnt (chg p) T % 2 = if bel p T then 1 else 0
  | 0 => rfl
  | T + 1 => by
    have ih := kcA p T
    have hc : chg p T = (p T != bel p T) := rfl
    have hb1 : bel p (T + 1) = p T := rfl
    simp only [cnt]
    cases h : p T <;> rw [h] at hc hb1 <;> rw [hb1] <;> cases hb : bel p T <;> rw [hb] at hc ih <;> rw [hc] <;> simp at ih ⊢ <;> omega
theorem still {p : Nat → Bool} {T : Nat} : ∀ t, T ≤ t → (∀ x, T ≤ x → x < t → chg p x = false) → rnC p t = rnC p T ∧ bel p t = bel p T ∧ frm p t = frm p T
  | 0, h, _ => by obtain rfl : T = 0 := by omega
                  exact ⟨rfl, rfl, rfl⟩
  | t + 1, h, hc => by
    rcases Nat.lt_or_ge t T with h1 | h1
    · obtain rfl : T = t + 1 := by omega
      exact ⟨rfl, rfl, rfl⟩
    · obtain ⟨a1, a2, a3⟩ := still t h1 (fun x g1 g2 => hc x g1 (by omega))
      have hx := hc t h1 (by omega)
      have hpb : p t = bel p t := by simpa [chg] using hx
      refine ⟨?_, ?_, ?_⟩
      · rw [← a1]; simp only [rnC, hpb]; cases bel p t <;> simp
      · rw [← a2]; exact hpb
      · rw [← a3]; simp only [frm, hpb]; cases bel p t <;> simp
def two (F : Bool → Bool → Bool) (p q : Nat → Bool) (i : Nat) : Bool := F (p i) (q i)
theorem vkA {F : Bool → Bool → Bool} (hF : F false false = false) (p q : Nat → Bool) : ∀ T, bel (two F p q) T = F (bel p T) (bel q T)
  | 0 => hF.symm
  | _ + 1 => rfl
theorem veA {F : Bool → Bool → Bool} (hF : F false false = false) {p q : Nat → Bool} {x : Nat} (hp : chg p x = false) (hq : chg q x = false) : chg (two F p q) x = false := by
  have h1 : p x = bel p x := by simpa [chg] using hp
  have h2 : q x = bel q x := by simpa [chg] using hq
  simp [chg, vkA hF, two, h1, h2]
theorem oqA (P : Nat → Bool) {n i t : Nat} (hi : i < cnt P n) : ∃ x : Nat, x < n ∧ P x = true ∧ cnt P x = i ∧ (adA P n).getD i 0 = x ∧ (x ≤ t ↔ i < cnt P (t + 1)) := by
  obtain ⟨x, h1, h2, h3, h4⟩ := e3A P n i hi
  refine ⟨x, h1, h2, h3, h4, fun h => ?_, fun h => ?_⟩
  · have := cnt_mono P (m := x + 1) (t + 1) (by omega)
    simp only [cnt, h2, if_true] at this ⊢; omega
  · rcases Nat.lt_or_ge t x with h5 | h5
    · have := cnt_mono P (m := t + 1) x (by omega); omega
    · exact h5
theorem m5A (P : Nat → Bool) {T : Nat} : ∀ t, T ≤ t → cnt P t = cnt P T → ∀ x, T ≤ x → x < t → P x = false := by
  intro t ht hc x h1 h2
  cases h : P x
  · rfl
  · have a := cnt_mono P (m := T) x h1
    have b := cnt_mono P (m := x + 1) t (by omega)
    simp only [cnt, h, if_true] at b; omega
theorem f2A {rs : List Rn} (hr : Right rs) (hu : U16 rs) (j : Nat) : ∀ k, j < k → k < rs.length → fst rs j + mor rs j + 2 ≤ fst rs k
  | 0, h, _ => by omega
  | k + 1, h, hk => by
    have h1 := (hr (k + 1) hk).1
    simp only [lst] at h1
    by_cases e : j = k
    · subst e; exact h1
    · have := f2A hr hu j k (by omega) (by omega)
      have := hu.at k
      omega
theorem fwA {rs : List Rn} {k : Nat} (hk : k < rs.length) : (rs.map Prod.fst).getD k 0 = fst rs k := by
  simp [fst, List.getD, hk]
theorem v2A {rs : List Rn} (hr : Right rs) (hu : U16 rs) : Inc (rs.map Prod.fst) := by
  unfold Inc
  rw [List.pairwise_iff_getElem]
  intro i j hi hj hij
  rw [List.length_map] at hi hj
  have h1 := fwA hi; have h2 := fwA hj
  rw [axA (by rw [List.length_map]; exact hi)] at h1
  rw [axA (by rw [List.length_map]; exact hj)] at h2
  rw [h1, h2]
  have := f2A hr hu i j hij hj
  have := hu.at i
  omega
theorem iqA (rs : List Rn) (i : Nat) : inR rs i = true ↔ ∃ k, k < rs.length ∧ fst rs k ≤ i ∧ (i : Int) ≤ fst rs k + mor rs k := by
  unfold inR
  rw [List.any_eq_true]
  constructor
  · rintro ⟨x, hx, h⟩
    obtain ⟨k, hk, rfl⟩ := List.getElem_of_mem hx
    have : rs.getD k (0, 0) = rs[k] := by simp [List.getD, hk]
    refine ⟨k, hk, ?_⟩
    unfold fst mor; rw [this]; simpa using h
  · rintro ⟨k, hk, h⟩
    have : rs.getD k (0, 0) = rs[k] := by simp [List.getD, hk]
    refine ⟨rs[k], List.getElem_mem hk, ?_⟩
    unfold fst mor at h; rw [this] at h; simpa using h
def hasR (rs : List Rn) (x : Int) : Bool := crA (rs.map Prod.fst) x || (decide (0 < bsS (rs.map Prod.fst) x) && decide (x < fst rs (bsS (rs.map Prod.fst) x - 1) + mor rs (bsS (rs.map Prod.fst) x - 1) + 1))
theorem has_eq {rs : List Rn} (hr : Right rs) (hu : U16 rs) (x : Nat) : hasR rs x = inR rs x := by
  have hi := v2A hr hu
  obtain ⟨g1, g2⟩ := giA (x : Int) hi
  have g3 := m8A (rs.map Prod.fst) (x : Int)
  rw [List.length_map] at g2 g3
  have hf := e5A (x : Int) hi
  unfold hasR
  obtain ⟨i, hid⟩ : ∃ i, i = bsS (rs.map Prod.fst) (x : Int) := ⟨_, rfl⟩
  rw [← hid] at g1 g2 g3 ⊢
  rw [hf, Bool.eq_iff_iff, iqA, Bool.or_eq_true, Bool.and_eq_true, decide_eq_true_eq, decide_eq_true_eq, decide_eq_true_eq]
  constructor
  · rintro (h | ⟨h1, h2⟩)
    · rw [List.mem_map] at h
      obtain ⟨y, hy, he⟩ := h
      obtain ⟨k, hk, rfl⟩ := List.getElem_of_mem hy
      have e1 : rs.getD k (0, 0) = rs[k] := by simp [List.getD, hk]
      have e2 : fst rs k = x := by unfold fst; rw [e1]; exact he
      have := hu.at k
      exact ⟨k, hk, by omega, by omega⟩
    · have a := g1 (i - 1) (by omega)
      rw [fwA (by omega)] at a
      exact ⟨i - 1, by omega, by omega, by omega⟩
  · rintro ⟨k, hk, h1, h2⟩
    rcases Nat.lt_or_ge k i with h3 | h3
    · right
      by_cases e : k = i - 1
      · subst e; exact ⟨by omega, by omega⟩
      · have a := f2A hr hu k (i - 1) (by omega) (by omega)
        have b := g1 (i - 1) (by omega)
        rw [fwA (by omega)] at b
        omega
    · left
      have a := g2 k h3 hk
      rw [fwA hk] at a
      rw [List.mem_map]
      have e1 : rs.getD k (0, 0) = rs[k] := by simp [List.getD, hk]
      refine ⟨rs[k], List.getElem_mem hk, ?_⟩
      have : fst rs k = x := by omega
      unfold fst at this; rw [e1] at this; exact this
end Go.LA
end
section
set_option linter.unusedSimpArgs false
set_option linter.unusedVariables false
namespace Go.LA
open Go.RowKit Go.ArrP
structure Hide (P : Prop) : Prop where
  out : P
section
variable {P : Program} {l : List Oper} {N : Nat} {wb : World} {K : List Oper → Env → Prop} {rest : List Oper} {E : Env} {Q : Exit → Act → World → Prop}
variable {d : Tmp} {ty ty' t t' : TypeId} {pos pos' : String} {after after' : Array Edge} {g g' : Option (Nat × Bool)} {x y z : Operand} {k k' : IntKind}
theorem anA {cs : List Value} (hg : b5A l E g = some true) (ht : ∀ w, (isAgg t).run P w = .ok true w) (hs : ∀ w, (sizeOf t).run P w = .ok cs.length w) (hx : opE E x = .pred (guA cs)) (h : LA P l wb K rest ((d, .val (.agg cs.toArray)) :: E)) :
    LA P l wb K (⟨some d, .load t x, ty, pos, after, g⟩ :: rest) E :=
  b0A _ hg (bcA fun a w he hh => by
    have h1 := hh x (by simp [Op.operands])
    rw [hx] at h1
    obtain ⟨p, hv, hc⟩ := h1
    have hl := run_loadCells_list (P := P) w p cs hc
    simp only [execOp, hv, Instr.loadAt, Instr.sureAddr, loadVar, Sem.run_bind, Sem.run_pure, Result.andThen_ok, ht, if_true, hs, hl]) h
theorem lzA : ∀ (l : List Value) (k : Nat) (A : Array Value), k + l.length = A.size → (l.zipIdx k).foldl (fun cs x => cs.setIfInBounds x.2 x.1) A = (A.toList.take k ++ l).toArray
  | [], k, A, h => by
    apply Array.ext'
    simp only [List.zipIdx_nil, List.foldl_nil, List.append_nil]
    rw [List.take_of_length_le (by simp at h ⊢; omega)]
  | v :: l, k, A, h => by
    simp only [List.zipIdx_cons, List.foldl_cons]
    rw [lzA l (k + 1) _ (by simp at h ⊢; omega)]
    apply Array.ext'
    simp only [Array.toList_setIfInBounds]
    rw [List.take_set, List.set_eq_take_append_cons_drop, if_pos (by simp at h ⊢; omega)]
    simp at h ⊢
    rw [List.take_take, Nat.min_eq_left (by omega)]
theorem h4A {c : Value} {z : Array Value} {s : Nat} (hc : c.cells.size = s) : Instr.fill (fun i => some (i * s, s)) ((Array.range (1 * s)).map (fun j => z[j % z.size]!)) [(0, c)] = some c.cells := by
  have e : ((Array.range (1 * s)).map (fun j => z[j % z.size]!)).size = s := by simp
  obtain ⟨A, hA⟩ : ∃ A, A = (Array.range (1 * s)).map (fun j => z[j % z.size]!) := ⟨_, rfl⟩
  rw [← hA] at e ⊢
  have hf := lzA c.cells.toList 0 A (by simp [e, hc])
  simp only [Instr.fill, Nat.zero_mul, hc]
  simp
  subst hc
  refine ⟨by omega, ?_⟩
  have hz : c.cells.size = c.cells.zipIdx.size := by simp
  rw [hz, ← Array.foldl_toList]
  simpa using hf
theorem drA {c z : Value} {s b : Nat} {e : TypeId} (hg : b5A l E g = some true) (hel : El P t e z s b) (hx : opE E x = .val c) (hc : c.cells.size = s) (hs1 : s ≤ 1000) (h : LA P l wb K rest ((d, .pred (hpA wb.heap.size e s 1 c.cells.toList)) :: E)) :
    LA P l wb K (⟨some d, .buildSlice t 1 #[(0, x)], ty, pos, after, g⟩ :: rest) E := by
  refine b0A (.pred (hpA wb.heap.size e s 1 c.cells.toList)) hg (fun a w he hh => ?_) h
  have h1 := hh x (by simp [Op.operands])
  rw [hx] at h1; simp only [AD.ok] at h1
  have hne : ¬ s = 0 := by have := hel.pos; omega
  have hrun : (Instr.buildSlice t 1 #[(0, c)]).run P w = .ok (.slice (some ⟨w.heap.size, 0, none⟩) 1 1) (w.alloc (.cells c.cells e)) := by
    have hf := h4A (c := c) (z := z.cells) (s := s) hc
    simp only [Instr.buildSlice, Sem.run_bind, run_underlying hel.ht, Result.andThen_ok, hel.sizeOf, Nat.one_mul, gt_iff_lt, show ¬ (2 ^ 24 < s) by omega, if_false, hne, Sem.run_pure, hel.zero]
    simp only [Nat.one_mul] at hf
    rw [hf]
    rfl
  simp only [execOp, List.map_toArray, List.map_cons, List.map_nil, h1, Sem.run_bind, hrun, Result.andThen_ok, Sem.run_pure]
  refine ⟨Ext.alloc _ _, ?_⟩
  refine ⟨by simp [hc], .inr ⟨w.heap.size, 1, c.cells, rfl, he.size, heap_alloc_new w _, Nat.le_refl _, by decide, by simp [hc], ?_⟩⟩
  rw [Nat.one_mul, ← hc]
  exact List.take_of_length_le (by simp)
def Cut (N : Nat) (wb : World) (E' : Env) : Act → World → Prop := fun a w => St N wb E' a w
theorem g5A {c c' : Code} (E' : Env) (h1 : CX P N wb c E (Exit.then (Cut N wb E') Q)) (h2 : CX P N wb c' E' Q) : CX P N wb (.seq c c') E Q := by
  refine q0A ?_
  unfold CX at *
  intro a w s
  refine Code.wp_mono ?_ (h1 a w s)
  intro e a' w' h
  cases e with
  | normal => exact h2 a' w' h
  | exit id => exact h
  | goto l => exact h
  | ret => exact h
  | panic ch => exact h
  | outgrown => exact h
theorem boA {E' : Env} (hs : Sub wb E E') : PX N wb (Exit.then (Cut N wb E') Q) .normal E := by
  unfold PX
  intro a w s
  exact hs.st s
theorem arA {cs : List Value} {f o : Nat} (hg : b5A l E g = some true) (hx : opE E x = .pred (guA cs)) (hr : ∀ (a : Addr) w, (Instr.fieldAt t (.pointer (some a)) f).run P w = .ok (.pointer (some (a.add o))) w)
    (h : LA P l wb K rest ((d, .pred (guA (cs.drop o))) :: E)) : LA P l wb K (⟨some d, .fieldAddr t x f, ty, pos, after, g⟩ :: rest) E :=
  b0A _ hg (fun ac w he hh => by
    have e1 := hh x (by simp [Op.operands])
    rw [hx] at e1
    obtain ⟨p, hv, hc⟩ := e1
    simp only [execOp, Sem.run_bind, hv, hr, Result.andThen_ok, Sem.run_pure]
    refine ⟨Ext.refl _, p.add o, rfl, fun j c hj => ?_⟩
    rw [List.getElem?_drop] at hj
    have := hc _ _ hj
    have ea : (p.add o).add j = p.add (o + j) := by
      unfold Addr.add
      by_cases h1 : o = 0
      · subst h1; simp
      · by_cases h2 : j = 0
        · subst h2; simp [h1]
        · rw [if_neg h1, if_neg h2, if_neg (by omega), Nat.add_assoc]
    rw [ea]; exact this) h
theorem cwA {cs : List Value} {c : Value} (hg : b5A l E g = some true) (ht : ∀ w, (isAgg t).run P w = .ok false w) (hx : opE E x = .pred (guA cs)) (hc : cs[0]? = some c) (h : LA P l wb K rest ((d, .val c) :: E)) :
    LA P l wb K (⟨some d, .load t x, ty, pos, after, g⟩ :: rest) E :=
  b0A _ hg (bcA fun a w he hh => by
    have h1 := hh x (by simp [Op.operands])
    rw [hx] at h1
    obtain ⟨p, hv, hcs⟩ := h1
    have hc := hcs 0 c hc
    have e0 : p.add 0 = p := Addr.add_zero' p
    rw [e0] at hc
    simp only [execOp, hv, Instr.loadAt, Instr.sureAddr, loadVar, Sem.run_bind, Sem.run_pure, Result.andThen_ok, ht, Bool.false_eq_true, if_false, run_load, hc]) h
theorem pvA {op : BinOp} {a b : Int} {v : Bool} (hg : b5A l E g = some true) (hx : opE E x = .val (.int k a)) (hy : opE E y = .val (.int k b)) (hc : ioA op = true) (hv : j8A op a b ↔ v = true)
    (h : LA P l wb K rest ((d, .val (.bool v)) :: E)) : LA P l wb K (⟨some d, .binOp op t x y t', ty, pos, after, g⟩ :: rest) E := b0A _ hg (peA hx hy hc hv) h
theorem reA {c0 c1 : Value} {z : Array Value} (h0 : c0.cells = #[c0]) (h1 : c1.cells = #[c1]) : Instr.fill (fun i => some (i * 1, 1)) ((Array.range (2 * 1)).map (fun j => z[j % z.size]!)) [(0, c0), (1, c1)] = some #[c0, c1] := by
  have e : Array.range (2 * 1) = #[0, 1] := rfl
  rw [e]; simp [Instr.fill, h0, h1]
theorem meA {c0 c1 z0 : Value} {b : Nat} {e : TypeId} (hg : b5A l E g = some true) (hel : El P t e z0 1 b) (hx : opE E x = .val c0) (hy : opE E y = .val c1) (h0 : c0.cells = #[c0]) (h1 : c1.cells = #[c1]) (h : LA P l wb K rest ((d, .pred (hpA wb.heap.size e 1 2 [c0, c1])) :: E)) :
    LA P l wb K (⟨some d, .buildSlice t 2 #[(0, x), (1, y)], ty, pos, after, g⟩ :: rest) E := by
  refine b0A (.pred (hpA wb.heap.size e 1 2 [c0, c1])) hg (fun a w he hh => ?_) h
  have e1 := hh x (by simp [Op.operands])
  have e2 := hh y (by simp [Op.operands])
  rw [hx] at e1; rw [hy] at e2; simp only [AD.ok] at e1 e2
  have hrun : (Instr.buildSlice t 2 #[(0, c0), (1, c1)]).run P w = .ok (.slice (some ⟨w.heap.size, 0, none⟩) 2 2) (w.alloc (.cells #[c0, c1] e)) := by
    simp only [Instr.buildSlice, Sem.run_bind, run_underlying hel.ht, Result.andThen_ok, hel.sizeOf, Nat.reduceMul, Nat.reducePow, gt_iff_lt, Nat.reduceLT, if_false, Sem.run_pure, Nat.reduceEqDiff, hel.zero, reA h0 h1]
    rfl
  simp only [execOp, List.map_toArray, List.map_cons, List.map_nil, e1, e2, Sem.run_bind, hrun, Result.andThen_ok, Sem.run_pure]
  exact ⟨Ext.alloc _ _, by simp, .inr ⟨w.heap.size, 2, #[c0, c1], rfl, he.size, heap_alloc_new w _, Nat.le_refl _, by decide, by simp, by simp⟩⟩
theorem c7A {e : TypeId} {z0 c : Value} (hg : g = none) (hg' : g' = none) (hd : d < N) (hz : ∀ w, (zeroValue e).run P w = .ok z0 w) (hy : ∀ v, opE ((d, .val v) :: E) y = .val c)
    (hs : ∀ w, (sizeOf t).run P w = .ok c.cells.size w) (hfit : c.cells.size = z0.cells.size) (h1 : ∀ u ∈ c.cells.toList, u.oneCell' = true)
    (h : ∀ b w', Ext wb w' → wb.heap.size ≤ b → w'.heap[b]? = some (.cells c.cells e (0, 0)) → LX P N w' l Q rest ((d, .val (.pointer (some ⟨b, 0, none⟩))) :: E)) :
    LX P N wb l Q (⟨some d, .alloc e, ty, pos, after, g⟩ :: ⟨none, .store t (.tmp d) y, ty', pos', after', g'⟩ :: rest) E := by
  unfold LX
  intro a w st
  have ra : (Instr.alloc e true (.tuple #[])).run P w = .ok (.pointer (some ⟨w.heap.size, 0, none⟩)) (w.alloc (.cells z0.cells e)) := by
    simp only [Instr.alloc, Sem.run_bind, hz, Result.andThen_ok]
    rfl
  refine wpList_plain hg fun Kc hK => ?_
  unfold Oper.wp
  simp only [execOp, Sem.run_bind, ra, Result.andThen_ok, Sem.run_pure, Oper.upon]
  refine hK _ _ ?_
  have st1 : St N wb ((d, .val (.pointer (some ⟨w.heap.size, 0, none⟩))) :: E) (a.put (some d) (.pointer (some ⟨w.heap.size, 0, none⟩))) (w.alloc (.cells z0.cells e)) :=
    st.push (Ext.alloc _ _) (dst := some d) (r := .val _) (fun d' hd' => by cases hd'; exact hd) (.inr rfl)
  have e1 := st1.opd (.tmp d)
  have e2 := st1.opd y; rw [hy] at e2; simp only [AD.ok] at e2
  have e1' : (a.put (some d) (.pointer (some ⟨w.heap.size, 0, none⟩))).eval (.tmp d) = .pointer (some ⟨w.heap.size, 0, none⟩) := by
    simp only [opE, lkE, beq_self_eq_true, cond_true, AD.ok] at e1; exact e1
  have hb : (w.alloc (.cells z0.cells e)).heap[w.heap.size]? = some (.cells z0.cells e (0, 0)) := heap_alloc_new w _
  have hrun : (Instr.storeAt t (.pointer (some ⟨w.heap.size, 0, none⟩)) c).run P (w.alloc (.cells z0.cells e)) = .ok () ((w.alloc (.cells z0.cells e)).setRow w.heap.size c.cells) := by
    have hst := run_storeCells_at P w.heap.size 0 e c.cells.toList 0 z0.cells _ hb (by simp [hfit]) h1
    have e3 : (z0.cells.toList.take (0 + 0) ++ c.cells.toList ++ z0.cells.toList.drop (0 + 0 + c.cells.toList.length)).toArray = c.cells := by
      rw [List.drop_eq_nil_of_le (by simp [hfit])]; simp
    rw [e3] at hst
    simp only [Instr.storeAt, Instr.sureAddr, storeVar, Sem.run_bind, Sem.run_pure, Result.andThen_ok, hs, ne_eq, not_true_eq_false, if_false, hst]
  refine wpList_plain hg' fun Kc hK => ?_
  unfold Oper.wp
  simp only [execOp, Sem.run_bind, e1', e2, hrun, Result.andThen_ok, Sem.run_pure, Oper.upon]
  refine hK _ _ ?_
  have x2 : Ext w ((w.alloc (.cells z0.cells e)).setRow w.heap.size c.cells) := (Ext.alloc _ _).setRow (Nat.le_refl _) _
  have h2 := h w.heap.size _ (st.ext.trans x2) st.ext.size (setRow_heap _ w.heap.size _ _ _ (0, 0) hb)
  unfold LX at h2
  refine h2 _ _ ?_
  have st2 := st.push (dst := some d) (r := .val (.pointer (some ⟨w.heap.size, 0, none⟩))) (v := .pointer (some ⟨w.heap.size, 0, none⟩)) x2 (fun d' hd' => by cases hd'; exact hd) (.inr rfl)
  exact st2.rebase
end
def nnA (f m : Int) : Value := .agg #[.int .u16 f, .int .u16 m]
def csA : List Rn → List Value
  | [] => []
  | x :: r => .int .u16 x.1 :: .int .u16 x.2 :: csA r
theorem fzA : ∀ a b, csA (a ++ b) = csA a ++ csA b
  | [], b => rfl
  | x :: a, b => by simp only [List.cons_append, csA, fzA a b]
theorem dhA : ∀ a, (csA a).length = a.length * 2
  | [] => rfl
  | x :: a => by simp only [csA, List.length_cons, dhA a]; omega
theorem fyA : ∀ a, ∀ u ∈ csA a, u.oneCell' = true
  | [], u, h => by cases h
  | x :: a, u, h => by
    simp only [csA, List.mem_cons] at h
    rcases h with rfl | rfl | h
    · rfl
    · rfl
    · exact fyA a u h
theorem juA : ∀ (a : List Rn) (j : Nat), j < a.length → ((csA a).drop (j * 2)).take 2 = [.int .u16 (fst a j), .int .u16 (mor a j)]
  | [], j, h => by simp at h
  | x :: a, 0, _ => rfl
  | x :: a, j + 1, h => by
    have ih := juA a j (by simpa using h)
    rw [show (j + 1) * 2 = j * 2 + 2 by omega]
    simp only [csA, List.drop_succ_cons]
    rw [ih]
    rfl
def SlR (w : World) (v : Value) (rs : List Rn) : Prop := SlC w v rs.length 2 (csA rs)
theorem SlR.ext {w w' : World} {v : Value} {rs : List Rn} (h : SlR w v rs) (e : Ext w w') : SlR w' v rs := SlC.ext h e
theorem SlR.len {w : World} {v : Value} {rs : List Rn} (h : SlR w v rs) : rs.length ≤ 9223372036854775807 := SlC.len h
theorem SlR.isSlice {w : World} {v : Value} {rs : List Rn} (h : SlR w v rs) : ∃ a c, v = .slice a rs.length c := SlC.isSlice h
def OwnR (base e : Nat) (w : World) (v : Value) (rs : List Rn) : Prop := Own base e 2 w v rs.length (csA rs)
theorem OwnR.ext {base e : Nat} {w w' : World} {v : Value} {rs : List Rn} (h : OwnR base e w v rs) (x : Ext w w') : OwnR base e w' v rs := Own.ext h x
theorem OwnR.slR {base e : Nat} {w : World} {v : Value} {rs : List Rn} (h : OwnR base e w v rs) : SlR w v rs := Own.slC h
theorem OwnR.nil {base e : Nat} {w : World} : OwnR base e w (.slice none 0 0) [] := Own.nil
def ekA (base e : Nat) (rs : List Rn) : AV := ⟨fun v w => OwnR base e w v rs, fun _ _ _ x h => h.ext x⟩
theorem azA {w : World} {base base' e : Nat} {rs rs' : List Rn} (hb : base' ≤ base) (hr : rs = rs') (en : Ending) (w' : World) (h : Ret w (.pred (ekA base e rs)) en w') : Ret w (.pred (ekA base' e rs')) en w' := by
  obtain ⟨v, h1, h2, h3⟩ := h
  subst hr
  exact ⟨v, h1, h2, Own.base h3 hb⟩
def HasR (wb : World) (r : AD) (rs : List Rn) : Prop := HasC wb r rs.length 2 (csA rs)
theorem HasR.val {wb : World} {u : Value} {rs : List Rn} (h : SlR wb u rs) : HasR wb (.val u) rs := HasC.val h
theorem HasR.ownV {wb : World} {base e : Nat} {u : Value} {rs : List Rn} (h : OwnR base e wb u rs) : HasR wb (.val u) rs := HasC.val h.slR
theorem HasR.own {wb : World} {base e : Nat} {rs : List Rn} : HasR wb (.pred (ekA base e rs)) rs := fun _ _ _ hv => OwnR.slR hv
section
variable {P : Program} {l : List Oper} {N : Nat} {wb : World} {K : List Oper → Env → Prop} {rest : List Oper} {E : Env} {Q : Exit → Act → World → Prop}
variable {d : Tmp} {ty t t' : TypeId} {pos : String} {after : Array Edge} {g : Option (Nat × Bool)} {x y z : Operand} {k k' : IntKind}
theorem bzA {rs : List Rn} (hg : b5A l E g = some true) (e : TypeId) (ht : P.underlying t = some (.slice e)) {r : AD} (hr : opE E x = r) (hx : HasR wb r rs)
    (h : LA P l wb K rest ((d, .val (.int .i64 (rs.length : Int))) :: E)) : LA P l wb K (⟨some d, .call ⟨.builtin .len, #[x], #[t]⟩, ty, pos, after, g⟩ :: rest) E := bmA hg e ht hr hx h
theorem b7A {rs : List Rn} {j : Nat} (hg : b5A l E g = some true) (e : TypeId) (ht : P.underlying t = some (.slice e)) (hs : ∀ w, (sizeOf e).run P w = .ok 2 w)
    {r : AD} (hr : opE E x = r) (hx : HasR wb r rs) (hi : opE E y = .val (.int k ((j : Nat) : Int))) (hn : j < rs.length)
    (h : LA P l wb K rest ((d, .pred (guA [.int .u16 (fst rs j), .int .u16 (mor rs j)])) :: E)) : LA P l wb K (⟨some d, .indexAddr t x y, ty, pos, after, g⟩ :: rest) E :=
  cnA hg e ht hs hr hx hi j rfl hn (by rw [juA rs j hn]; exact h)
theorem g2A {w0 : World} {e b r0 : Nat} {v z : Value} {f m : Int} {cs : List Rn} (hg : g = none) (hd : d < N) (hel : El P t e z 2 b) (hx : opE E x = .val v) (hown : OwnR w0.heap.size e wb v cs) (hy : opE E y = .pred (hpA r0 e 2 1 (nnA f m).cells.toList))
    (h63 : cs.length + 1 ≤ 9223372036854775807) (hbytes : (cs.length + 1) * b ≤ 140737488355328) (hbase : Ext w0 wb)
    (h : ∀ v' w', Ext w0 w' → OwnR w0.heap.size e w' v' (cs ++ [(f, m)]) → LX P N w' l Q rest ((d, .val v') :: vals E)) :
    LX P N wb l Q (⟨some d, .call ⟨.builtin .append, #[x, y], #[t, t]⟩, ty, pos, after, g⟩ :: rest) E :=
  ctA hg hd hel hx hown hy HasC.own (by simp [nnA, Value.cells, Value.oneCell']) (by unfold maxLen; omega) hbytes hbase.size (fun v' w w' he ho hgr => by
    refine h v' w' ((hbase.trans he).grown hgr (fun k hk => (Own.lt hown k hk).1)) ?_
    unfold OwnR
    rw [fzA, List.length_append]
    exact ho)
end
section
variable {P : Program} {l : List Oper} {N : Nat} {wb : World} {K : List Oper → Env → Prop} {rest : List Oper} {E : Env} {Q : Exit → Act → World → Prop}
variable {d : Tmp} {ty t t' : TypeId} {pos : String} {after : Array Edge} {g : Option (Nat × Bool)} {x y z : Operand} {k k' : IntKind}
theorem d7A {n s : Nat} {cs : Array Value} {e : TypeId} {i : Int} {c : Value} (j : Nat) (hg : b5A l E g = some true) (ht : P.underlying t = some (.array n e)) (hs : ∀ w, (sizeOf e).run P w = .ok s w) (hx : opE E x = .val (.agg cs)) (hy : opE E y = .val (.int k i)) (hj : i = j) (hn : j < n)
    (hp : ∀ w, (part e cs (j * s)).run P w = .ok c w) (h : LA P l wb K rest ((d, .val c) :: E)) : LA P l wb K (⟨some d, .index t x y, ty, pos, after, g⟩ :: rest) E :=
  b0A _ hg (bcA fun a w he hh => by
    have e1 := hh x (by simp [Op.operands]); have e2 := hh y (by simp [Op.operands])
    rw [hx] at e1; rw [hy] at e2; simp only [AD.ok] at e1 e2
    subst hj
    have hrun : (Instr.index t (.agg cs) (.int k (j : Int))).run P w = .ok c w := by
      simp [Instr.index, run_underlying ht, asIntOf, hs, hn, hp]
    simp only [execOp, e1, e2, Sem.run_bind, hrun, Result.andThen_ok, Sem.run_pure]) h
end
theorem OwnR.row {base e : Nat} {w : World} {v : Value} {rs : List Rn} (h : OwnR base e w v rs) (hp : 0 < rs.length) :
    ∃ b cap cur, v = .slice (some ⟨b, 0, none⟩) rs.length cap ∧ base ≤ b ∧ w.heap[b]? = some (.cells cur e (0, 0)) ∧ rs.length ≤ cap ∧ cap ≤ maxLen ∧ cur.size = cap * 2 ∧ cur.toList.take (rs.length * 2) = csA rs := by
  rcases h.2 with ⟨_, h0⟩ | ⟨gb, cap, cur, h1, hb, hg, hnc, hm, hsz, htake⟩
  · omega
  · exact ⟨gb, cap, cur, h1, hb, hg, hnc, hm, hsz, htake⟩
end Go.LA
end
section
set_option linter.unusedSimpArgs false
set_option linter.unusedVariables false
set_option maxRecDepth 3000
namespace Go.Proofs.YtfcioiobhpcngaaGreatDoor
open Go.LA Go.ArrP Go.RowKit
theorem hwA : El Tryz.prog 63 96 (nnA 0 0) 2 4 := ⟨rfl, rfl, rfl, by decide⟩
theorem ojA : El Tryz.prog 159 3 (.int .i64 0) 1 8 := ⟨rfl, rfl, rfl, by decide⟩
theorem rhA (w : World) (f m : Int) (hf : 0 ≤ f ∧ f < 65536) (hm : 0 ≤ m ∧ m < 65536) : Fc Tryz.prog 125 #[nnA f m] w (Ret w (.val (.int .i64 (f + m + 1)))) := by
  refine Fc.of (args := [_]) Tryz.func125 rfl rfl Tryz.ntmps125 (Nat.le_of_ble_eq_true rfl) ?_
  repeat' (first|(refine oLA ?_;first|refine a0A rfl ?_|refine k1A rfl rfl ?_|(refine oD 3 ?_; refine a4A (hK _ _ (byA 1 rfl (fun v1 w1 e1 h1 => ?_))); clear hK K; obtain ⟨bx, hbx, rfl, hbc⟩ := h1; refine amA (by kernel_rfl) (fun K hK => ?_))|(refine oI ?_; refine b7A rfl _ rfl (fun _ => rfl) rfl (by first | exact HasR.val (by assumption) | exact HasR.own | exact HasR.ownV (by assumption)) rfl (by omega) ?_)|(refine oLt 96 ?_; refine anA rfl (fun _ => rfl) (fun _ => rfl) rfl ?_)|(show LA _ _ _ _ (⟨some 99, .alloc _, _, _, _, _⟩ :: _) _; refine a4A (hK _ _ (c7A rfl rfl (by decide) (fun _ => rfl) (fun _ => rfl) (fun _ => rfl) rfl (by intro u hu; simp [Value.cells] at hu; rcases hu with rfl | rfl <;> rfl) (fun bx wx ex hbx hbc => ?_))); clear hK K; refine amA (by kernel_rfl) (fun K hK => ?_))|(refine oF 0 ?_; refine a2A (a := ⟨bx, 0, none⟩) (a' := ⟨bx, 0, none⟩) rfl rfl (fun _ => rfl) ?_)|(refine oF 1 ?_; refine a2A (a := ⟨bx, 0, none⟩) (a' := ⟨bx, 1, none⟩) rfl rfl (fun _ => rfl) ?_)|(refine oLt 96 ?_; refine b6A rfl (fun _ => rfl) (fun _ => rfl) rfl hbc ?_)|(refine oLt 72 ?_; refine a8A rfl (fun _ => rfl) rfl hbc rfl ?_)|(refine cyA ?_; refine bzA rfl _ rfl rfl (by first | exact HasR.val (by assumption) | exact HasR.own | exact HasR.ownV (by assumption)) ?_)|refine wOp ?_|(refine wCm ?_ ?_<;>intro hc)|(refine wNl hK ?_;clear hK K))|refine wG ?_|(refine wCR ?_;intro K hK)|fail)
  exact abA rfl rfl e1 rfl
theorem i7A (g : Rn → Int) {rs : List Rn} {k : Nat} (hk : k < rs.length) : hkA g (rs.take (k + 1)) = hkA g (rs.take k) + g (fst rs k, mor rs k) := by
  rw [fkA hk, czA]; simp [hkA]
theorem flA (g : Rn → Int) (B : Int) (hB : ∀ x, 0 ≤ x.2 → x.2 < 65536 → 0 ≤ g x ∧ g x ≤ B) {rs : List Rn} (hu : U16 rs) : ∀ k, k ≤ rs.length → 0 ≤ hkA g (rs.take k) ∧ hkA g (rs.take k) ≤ B * k
  | 0, _ => by simp [hkA]
  | k + 1, hk => by
    have ih := flA g B hB hu k (by omega)
    obtain ⟨u1, u2, u3, u4⟩ := hu.at k
    have := hB (fst rs k, mor rs k) u3 u4
    rw [i7A g (by omega), Int.natCast_succ, Int.mul_add]
    omega
theorem u7A (w : World) (v : Value) (rs : List Rn) (h : SlR w v rs) (hu : U16 rs) (hn : rs.length ≤ 70000) : Fc Tryz.prog 142 #[v] w (Ret w (.val (.int .i64 (kdA rs)))) := by
  have hlen := h.len
  refine Fc.of (args := [_]) Tryz.func142 rfl rfl Tryz.ntmps142 (Nat.le_of_ble_eq_true rfl) ?_
  repeat' (first|(refine oLA ?_;first|refine a0A rfl ?_|(refine oI ?_; refine b7A rfl _ rfl (fun _ => rfl) rfl (by first | exact HasR.val (by assumption) | exact HasR.own | exact HasR.ownV (by assumption)) rfl (by omega) ?_)|(refine oLt 96 ?_; refine anA rfl (fun _ => rfl) (fun _ => rfl) rfl ?_)|(show LA _ _ _ _ (⟨some 99, .alloc _, _, _, _, _⟩ :: _) _; refine a4A (hK _ _ (c7A rfl rfl (by decide) (fun _ => rfl) (fun _ => rfl) (fun _ => rfl) rfl (by intro u hu; simp [Value.cells] at hu; rcases hu with rfl | rfl <;> rfl) (fun bx wx ex hbx hbc => ?_))); clear hK K; refine amA (by kernel_rfl) (fun K hK => ?_))|(refine oF 0 ?_; refine a2A (a := ⟨bx, 0, none⟩) (a' := ⟨bx, 0, none⟩) rfl rfl (fun _ => rfl) ?_)|(refine oF 1 ?_; refine a2A (a := ⟨bx, 0, none⟩) (a' := ⟨bx, 1, none⟩) rfl rfl (fun _ => rfl) ?_)|(refine oLt 96 ?_; refine b6A rfl (fun _ => rfl) (fun _ => rfl) rfl hbc ?_)|(refine oLt 72 ?_; refine a8A rfl (fun _ => rfl) rfl hbc rfl ?_)|(refine cyA ?_; refine bzA rfl _ rfl rfl (by first | exact HasR.val (by assumption) | exact HasR.own | exact HasR.ownV (by assumption)) ?_)|refine wOp ?_|(refine wCm ?_ ?_<;>intro hc)|(refine wNl hK ?_;clear hK K))|refine wG ?_|(refine wCR ?_;intro K hK)|fail)
  refine ahA (ι := Nat) (fun k => [(3, .val (.int .i64 (kdA (rs.take k)))), (6, .val v), (7, .val (.int .i64 rs.length)), (8, .val (.int .i64 k))]) (fun k w' => Ext w w' ∧ k ≤ rs.length) (fun k => rs.length - k) (fun w2 e2 => ⟨0, ⟨e2, Nat.zero_le _⟩, (by repeat' (first | exact Sub.nil | refine Sub.val rfl (by first | with_reducible rfl | (congr 1; omega)) ?_ | refine Sub.same rfl ?_))⟩) ?_
  rintro k w1 ⟨he, hk⟩
  have h1 := h.ext he
  by_cases hkl : k < rs.length
  · obtain ⟨u1, u2, u3, u4⟩ := hu.at k
    have hb := flA (fun x => x.2 + 1) 65536 (fun x h1 h2 => ⟨by omega, by omega⟩) hu k hk
    have hs : kdA (rs.take (k + 1)) = kdA (rs.take k) + (mor rs k + 1) := i7A _ hkl
    have hb : 0 ≤ kdA (rs.take k) ∧ kdA (rs.take k) ≤ 65536 * k := hb
    repeat' (first|(refine oLA ?_;first|refine a0A rfl ?_|(refine oI ?_; refine b7A rfl _ rfl (fun _ => rfl) rfl (by first | exact HasR.val (by assumption) | exact HasR.own | exact HasR.ownV (by assumption)) rfl (by omega) ?_)|(refine oLt 96 ?_; refine anA rfl (fun _ => rfl) (fun _ => rfl) rfl ?_)|(show LA _ _ _ _ (⟨some 5, .alloc _, _, _, _, _⟩ :: _) _; refine a4A (hK _ _ (c7A rfl rfl (by decide) (fun _ => rfl) (fun _ => rfl) (fun _ => rfl) rfl (by intro u hu; simp [Value.cells] at hu; rcases hu with rfl | rfl <;> rfl) (fun bx wx ex hbx hbc => ?_))); clear hK K; refine amA (by kernel_rfl) (fun K hK => ?_))|(refine oF 0 ?_; refine a2A (a := ⟨bx, 0, none⟩) (a' := ⟨bx, 0, none⟩) rfl rfl (fun _ => rfl) ?_)|(refine oF 1 ?_; refine a2A (a := ⟨bx, 0, none⟩) (a' := ⟨bx, 1, none⟩) rfl rfl (fun _ => rfl) ?_)|(refine oLt 96 ?_; refine b6A rfl (fun _ => rfl) (fun _ => rfl) rfl hbc ?_)|(refine oLt 72 ?_; refine a8A rfl (fun _ => rfl) rfl hbc rfl ?_)|(refine cyA ?_; refine bzA rfl _ rfl rfl (by first | exact HasR.val (by assumption) | exact HasR.own | exact HasR.ownV (by assumption)) ?_)|refine wOp ?_|(refine wCm ?_ ?_<;>intro hc)|(refine wNl hK ?_;clear hK K))|refine wG ?_|(refine wCR ?_;intro K hK)|fail)
    refine a7A (k + 1) (fun w5 e5 => ⟨he.trans (ex.trans e5), hkl⟩) (by omega) (by rw [hs]; exact (by repeat' (first | exact Sub.nil | refine Sub.val rfl (by first | with_reducible rfl | (congr 1; omega)) ?_ | refine Sub.same rfl ?_)))
  · obtain rfl : k = rs.length := by omega
    rw [List.take_length]
    repeat' (first|(refine oLA ?_;first|refine a0A rfl ?_|refine wOp ?_|(refine wCm ?_ ?_<;>intro hc)|(refine wNl hK ?_;clear hK K))|refine wG ?_|(refine wCR ?_;intro K hK)|fail)
    exact abA rfl rfl he rfl
theorem qgA (w : World) (v : Value) (rs : List Rn) (x : Int) (h : SlR w v rs) (hu : U16 rs) (hn : rs.length ≤ 70000) (hx : 0 ≤ x ∧ x < 9223372036854775808) : Fc Tryz.prog 145 #[v, .int .i64 x] w (Ret w (.val (.int .i64 (hnA rs x)))) := by
  have hlen := h.len
  refine Fc.of (args := [_, _]) Tryz.func145 rfl rfl Tryz.ntmps145 (Nat.le_of_ble_eq_true rfl) ?_
  repeat' (first|(refine oLA ?_;first|refine a0A rfl ?_|(refine oI ?_; refine b7A rfl _ rfl (fun _ => rfl) rfl (by first | exact HasR.val (by assumption) | exact HasR.own | exact HasR.ownV (by assumption)) rfl (by omega) ?_)|(refine oLt 96 ?_; refine anA rfl (fun _ => rfl) (fun _ => rfl) rfl ?_)|(show LA _ _ _ _ (⟨some 99, .alloc _, _, _, _, _⟩ :: _) _; refine a4A (hK _ _ (c7A rfl rfl (by decide) (fun _ => rfl) (fun _ => rfl) (fun _ => rfl) rfl (by intro u hu; simp [Value.cells] at hu; rcases hu with rfl | rfl <;> rfl) (fun bx wx ex hbx hbc => ?_))); clear hK K; refine amA (by kernel_rfl) (fun K hK => ?_))|(refine oF 0 ?_; refine a2A (a := ⟨bx, 0, none⟩) (a' := ⟨bx, 0, none⟩) rfl rfl (fun _ => rfl) ?_)|(refine oF 1 ?_; refine a2A (a := ⟨bx, 0, none⟩) (a' := ⟨bx, 1, none⟩) rfl rfl (fun _ => rfl) ?_)|(refine oLt 96 ?_; refine b6A rfl (fun _ => rfl) (fun _ => rfl) rfl hbc ?_)|(refine oLt 72 ?_; refine a8A rfl (fun _ => rfl) rfl hbc rfl ?_)|(refine cyA ?_; refine bzA rfl _ rfl rfl (by first | exact HasR.val (by assumption) | exact HasR.own | exact HasR.ownV (by assumption)) ?_)|refine wOp ?_|(refine wCm ?_ ?_<;>intro hc)|(refine wNl hK ?_;clear hK K))|refine wG ?_|(refine wCR ?_;intro K hK)|fail)
  refine ahA (ι := Nat) (fun k => [(1, .val (.int .i64 x)), (5, .val (.int .i64 (hnA (rs.take k) x))), (8, .val v), (9, .val (.int .i64 rs.length)), (10, .val (.int .i64 k))]) (fun k w' => Ext w w' ∧ k ≤ rs.length) (fun k => rs.length - k) (fun w2 e2 => ⟨0, ⟨e2, Nat.zero_le _⟩, (by repeat' (first | exact Sub.nil | refine Sub.val rfl (by first | with_reducible rfl | (congr 1; omega)) ?_ | refine Sub.same rfl ?_))⟩) ?_
  rintro k w1 ⟨he, hk⟩
  have h1 := h.ext he
  by_cases hkl : k < rs.length
  · obtain ⟨u1, u2, u3, u4⟩ := hu.at k
    have hb := flA (fun y => min (max (x - y.1) 0) (y.2 + 1)) 65536 (fun x h1 h2 => ⟨by omega, by omega⟩) hu k hk
    have hs : hnA (rs.take (k + 1)) x = hnA (rs.take k) x + min (max (x - fst rs k) 0) (mor rs k + 1) := i7A _ hkl
    have hb : 0 ≤ hnA (rs.take k) x ∧ hnA (rs.take k) x ≤ 65536 * k := hb
    repeat' (first|(refine oLA ?_;first|refine a0A rfl ?_|refine egA rfl rfl rfl ?_|refine cmA rfl rfl rfl ?_|(refine oI ?_; refine b7A rfl _ rfl (fun _ => rfl) rfl (by first | exact HasR.val (by assumption) | exact HasR.own | exact HasR.ownV (by assumption)) rfl (by omega) ?_)|(refine oLt 96 ?_; refine anA rfl (fun _ => rfl) (fun _ => rfl) rfl ?_)|(show LA _ _ _ _ (⟨some 7, .alloc _, _, _, _, _⟩ :: _) _; refine a4A (hK _ _ (c7A rfl rfl (by decide) (fun _ => rfl) (fun _ => rfl) (fun _ => rfl) rfl (by intro u hu; simp [Value.cells] at hu; rcases hu with rfl | rfl <;> rfl) (fun bx wx ex hbx hbc => ?_))); clear hK K; refine amA (by kernel_rfl) (fun K hK => ?_))|(refine oF 0 ?_; refine a2A (a := ⟨bx, 0, none⟩) (a' := ⟨bx, 0, none⟩) rfl rfl (fun _ => rfl) ?_)|(refine oF 1 ?_; refine a2A (a := ⟨bx, 0, none⟩) (a' := ⟨bx, 1, none⟩) rfl rfl (fun _ => rfl) ?_)|(refine oLt 96 ?_; refine b6A rfl (fun _ => rfl) (fun _ => rfl) rfl hbc ?_)|(refine oLt 72 ?_; refine a8A rfl (fun _ => rfl) rfl hbc rfl ?_)|(refine cyA ?_; refine bzA rfl _ rfl rfl (by first | exact HasR.val (by assumption) | exact HasR.own | exact HasR.ownV (by assumption)) ?_)|refine wOp ?_|(refine wCm ?_ ?_<;>intro hc)|(refine wNl hK ?_;clear hK K))|refine wG ?_|(refine wCR ?_;intro K hK)|fail)
    refine a7A (k + 1) (fun w5 e5 => ⟨he.trans (ex.trans e5), hkl⟩) (by omega) (by rw [hs]; exact (by repeat' (first | exact Sub.nil | refine Sub.val rfl (by first | with_reducible rfl | (congr 1; omega)) ?_ | refine Sub.same rfl ?_)))
  · obtain rfl : k = rs.length := by omega
    rw [List.take_length]
    repeat' (first|(refine oLA ?_;first|refine a0A rfl ?_|refine wOp ?_|(refine wCm ?_ ?_<;>intro hc)|(refine wNl hK ?_;clear hK K))|refine wG ?_|(refine wCR ?_;intro K hK)|fail)
    exact abA rfl rfl he rfl
theorem nqA {rs : List Rn} {k : Nat} (hk : k < rs.length) : lcA (rs.take (k + 1)) = lcA (rs.take k) ++ [fst rs k, fst rs k + mor rs k + 1] := by
  rw [fkA hk, ibA]; rfl
set_option maxHeartbeats 2000000 in
theorem row_c (w : World) (v : Value) (rs : List Rn) (h : SlR w v rs) (hu : U16 rs) (hn : rs.length ≤ 70000) : Fc Tryz.prog 138 #[v] w (Ret w (.pred (bjA w.heap.size 3 .i64 (lcA rs)))) := by
  have hlen := h.len
  refine Fc.of (args := [_]) Tryz.func138 rfl rfl Tryz.ntmps138 (Nat.le_of_ble_eq_true rfl) ?_
  repeat' (first|(refine oLA ?_;first|refine a0A rfl ?_|(refine oI ?_; refine b7A rfl _ rfl (fun _ => rfl) rfl (by first | exact HasR.val (by assumption) | exact HasR.own | exact HasR.ownV (by assumption)) rfl (by omega) ?_)|(refine oLt 96 ?_; refine anA rfl (fun _ => rfl) (fun _ => rfl) rfl ?_)|(show LA _ _ _ _ (⟨some 99, .alloc _, _, _, _, _⟩ :: _) _; refine a4A (hK _ _ (c7A rfl rfl (by decide) (fun _ => rfl) (fun _ => rfl) (fun _ => rfl) rfl (by intro u hu; simp [Value.cells] at hu; rcases hu with rfl | rfl <;> rfl) (fun bx wx ex hbx hbc => ?_))); clear hK K; refine amA (by kernel_rfl) (fun K hK => ?_))|(refine oF 0 ?_; refine a2A (a := ⟨bx, 0, none⟩) (a' := ⟨bx, 0, none⟩) rfl rfl (fun _ => rfl) ?_)|(refine oF 1 ?_; refine a2A (a := ⟨bx, 0, none⟩) (a' := ⟨bx, 1, none⟩) rfl rfl (fun _ => rfl) ?_)|(refine oLt 96 ?_; refine b6A rfl (fun _ => rfl) (fun _ => rfl) rfl hbc ?_)|(refine oLt 72 ?_; refine a8A rfl (fun _ => rfl) rfl hbc rfl ?_)|(refine cyA ?_; refine bzA rfl _ rfl rfl (by first | exact HasR.val (by assumption) | exact HasR.own | exact HasR.ownV (by assumption)) ?_)|refine wOp ?_|(refine wCm ?_ ?_<;>intro hc)|(refine wNl hK ?_;clear hK K))|refine wG ?_|(refine wCR ?_;intro K hK)|fail)
  refine ahA (ι := Nat × Value) (fun i => [(3, .val i.2), (6, .val v), (7, .val (.int .i64 rs.length)), (8, .val (.int .i64 i.1))]) (fun i w' => Ext w w' ∧ i.1 ≤ rs.length ∧ OwnI w.heap.size 3 .i64 w' i.2 (lcA (rs.take i.1))) (fun i => rs.length - i.1) (fun w2 e2 => ⟨(0, .slice none 0 0), ⟨e2, Nat.zero_le _, OwnI.nil⟩, (by repeat' (first | exact Sub.nil | refine Sub.val rfl (by first | with_reducible rfl | (congr 1; omega)) ?_ | refine Sub.same rfl ?_))⟩) ?_
  rintro ⟨k, so⟩ w1 ⟨he, hk, ho⟩
  dsimp only at hk ho ⊢
  have h1 := h.ext he
  by_cases hkl : k < rs.length
  · obtain ⟨u1, u2, u3, u4⟩ := hu.at k
    have hl := lbA (rs.take k)
    rw [List.length_take, Nat.min_eq_left hk] at hl
    repeat' (first|(refine oLA ?_;first|refine a0A rfl ?_|(refine oD 3 ?_; refine i2A rfl rfl ?_)|refine meA rfl ojA rfl rfl rfl rfl ?_|(refine a4A (hK _ _ rfl (ctA rfl (by decide) ojA rfl (ho.ext ex) rfl HasC.own (by intro u hu'; simp at hu'; rcases hu' with rfl | rfl <;> rfl) (by unfold maxLen; omega) (by omega) (Nat.le_trans he.size ex.size) (fun v' w' w'' e' ho' hg' => ?_))); clear hK K; dsimp only [vals]; refine amA (by kernel_rfl) (fun K hK => ?_))|(refine oI ?_; refine b7A rfl _ rfl (fun _ => rfl) rfl (by first | exact HasR.val (by assumption) | exact HasR.own | exact HasR.ownV (by assumption)) rfl (by omega) ?_)|(refine oLt 96 ?_; refine anA rfl (fun _ => rfl) (fun _ => rfl) rfl ?_)|(show LA _ _ _ _ (⟨some 5, .alloc _, _, _, _, _⟩ :: _) _; refine a4A (hK _ _ (c7A rfl rfl (by decide) (fun _ => rfl) (fun _ => rfl) (fun _ => rfl) rfl (by intro u hu; simp [Value.cells] at hu; rcases hu with rfl | rfl <;> rfl) (fun bx wx ex hbx hbc => ?_))); clear hK K; refine amA (by kernel_rfl) (fun K hK => ?_))|(refine oF 0 ?_; refine a2A (a := ⟨bx, 0, none⟩) (a' := ⟨bx, 0, none⟩) rfl rfl (fun _ => rfl) ?_)|(refine oF 1 ?_; refine a2A (a := ⟨bx, 0, none⟩) (a' := ⟨bx, 1, none⟩) rfl rfl (fun _ => rfl) ?_)|(refine oLt 96 ?_; refine b6A rfl (fun _ => rfl) (fun _ => rfl) rfl hbc ?_)|(refine oLt 72 ?_; refine a8A rfl (fun _ => rfl) rfl hbc rfl ?_)|(refine cyA ?_; refine bzA rfl _ rfl rfl (by first | exact HasR.val (by assumption) | exact HasR.own | exact HasR.ownV (by assumption)) ?_)|refine wOp ?_|(refine wCm ?_ ?_<;>intro hc)|(refine oCv ?_;first|(refine oC 125 ?_; refine a1A (f := 125) rfl rfl rfl  (.val (.int .i64 (fst rs k + mor rs k + 1))) (by intro u1 w e hu1; (try obtain rfl : u1 = _ := hu1); exact rhA _ (fst rs k) (mor rs k) ⟨u1, u2⟩ ⟨u3, u4⟩) ?_))|(refine wNl hK ?_;clear hK K))|(refine oCX ?_;first|refine djA 7 (by kernel_rfl) (by kernel_rfl) (by decide) (fun K hK => ?_))|refine wG ?_|(refine wCR ?_;intro K hK)|fail)
    refine a7A (k + 1, v') (fun w5 e5 => ⟨(((he.trans ex).trans e').grown hg' (fun q hq => (Own.lt ho q hq).1)).trans e5, hkl, ?_⟩) (by dsimp only; omega) (by repeat' (first | exact Sub.nil | refine Sub.val rfl (by first | with_reducible rfl | (congr 1; omega)) ?_ | refine Sub.same rfl ?_))
    dsimp only
    rw [nqA hkl]
    refine OwnI.ext ?_ e5
    unfold OwnI
    rw [List.map_append, List.length_append]; exact ho'
  · obtain rfl : k = rs.length := by omega
    rw [List.take_length] at ho
    repeat' (first|(refine oLA ?_;first|refine a0A rfl ?_|refine wOp ?_|(refine wCm ?_ ?_<;>intro hc)|(refine wNl hK ?_;clear hK K))|refine wG ?_|(refine wCR ?_;intro K hK)|fail)
    exact alA rfl rfl he (fun u w5 e5 hu' => by obtain rfl : u = _ := hu'; exact ho.ext e5)
theorem kaA (p : Nat → Bool) : ∀ T, (rnC p T).length ≤ T
  | 0 => Nat.le_refl _
  | T + 1 => by
    have := kaA p T
    simp only [rnC, List.length_append]
    split <;> simp <;> omega
theorem p1A (f m : Int) (w : World) : (Instr.build 96 #[(0, .int .u16 f), (1, .int .u16 m)]).run Tryz.prog w = .ok (nnA f m) w := run_build w _ _ _ (by kernel_rfl)
set_option maxHeartbeats 8000000 in
theorem kkA (F : Bool → Bool → Bool) (ft : FuncId) (hT : ∀ x y w, Fc Tryz.prog ft #[.bool x, .bool y] w (Ret w (.val (.bool (F x y))))) (hF : F false false = false) (w : World) (va vb : Value) (p q : Nat → Bool) (hp : p 65536 = false) (hq : q 65536 = false)
    (ha : SlI .i64 w va (adA (chg p) 65537)) (hb : SlI .i64 w vb (adA (chg q) 65537)) :
    Fc Tryz.prog 137 #[va, vb, .func (.func ft) #[] #[]] w (Ret w (.pred (ekA w.heap.size 96 (aoA (two F p q))))) := by
  obtain ⟨P, hP⟩ : ∃ P, P = chg p := ⟨_, rfl⟩
  obtain ⟨Q, hQ⟩ : ∃ Q, Q = chg q := ⟨_, rfl⟩
  obtain ⟨G, hG⟩ : ∃ G, G = two F p q := ⟨_, rfl⟩
  obtain ⟨A, hA⟩ : ∃ A, A = adA P 65537 := ⟨_, rfl⟩
  obtain ⟨B, hB⟩ : ∃ B, B = adA Q 65537 := ⟨_, rfl⟩
  have hlA : A.length = cnt P 65537 := by rw [hA, baA]
  have hlB : B.length = cnt Q 65537 := by rw [hB, baA]
  rw [← hP, ← hA] at ha; rw [← hQ, ← hB] at hb; rw [← hG]
  obtain ⟨na, hna⟩ : ∃ na, na = cnt P 65537 := ⟨_, rfl⟩
  obtain ⟨nb, hnb⟩ : ∃ nb, nb = cnt Q 65537 := ⟨_, rfl⟩
  rw [← hna] at hlA; rw [← hnb] at hlB
  have hna2 : na ≤ 65537 := hna ▸ cnt_le P 65537
  have hnb2 : nb ≤ 65537 := hnb ▸ cnt_le Q 65537
  have Ae : ∀ {i t : Nat}, i < na → ∃ x : Nat, x < 65537 ∧ P x = true ∧ cnt P x = i ∧ A.getD i 0 = x ∧ (x ≤ t ↔ i < cnt P (t + 1)) := fun {i t} hi => by
    obtain ⟨x, h1, h2, h3, h4, h5⟩ := oqA P (n := 65537) (i := i) (t := t) (hna ▸ hi)
    exact ⟨x, h1, h2, h3, hA ▸ h4, h5⟩
  have Be : ∀ {i t : Nat}, i < nb → ∃ x : Nat, x < 65537 ∧ Q x = true ∧ cnt Q x = i ∧ B.getD i 0 = x ∧ (x ≤ t ↔ i < cnt Q (t + 1)) := fun {i t} hi => by
    obtain ⟨x, h1, h2, h3, h4, h5⟩ := oqA Q (n := 65537) (i := i) (t := t) (hnb ▸ hi)
    exact ⟨x, h1, h2, h3, hB ▸ h4, h5⟩
  have cA : ∀ t, t ≤ 65537 → cnt P t ≤ na := fun t ht => hna ▸ cnt_mono P 65537 ht
  have cB : ∀ t, t ≤ 65537 → cnt Q t ≤ nb := fun t ht => hnb ▸ cnt_mono Q 65537 ht
  have stA : ∀ T t, T ≤ t → cnt P t = cnt P T → ∀ x, T ≤ x → x < t → P x = false := fun T t h1 h2 => m5A P t h1 h2
  have stB : ∀ T t, T ≤ t → cnt Q t = cnt Q T → ∀ x, T ≤ x → x < t → Q x = false := fun T t h1 h2 => m5A Q t h1 h2
  have oddP : ∀ t, cnt P (t + 1) % 2 = if p t then 1 else 0 := fun t => hP ▸ kcA p (t + 1)
  have oddQ : ∀ t, cnt Q (t + 1) % 2 = if q t then 1 else 0 := fun t => hQ ▸ kcA q (t + 1)
  have chG : ∀ x, P x = false → Q x = false → chg G x = false := fun x h1 h2 => by rw [hG]; exact veA hF (hP ▸ h1) (hQ ▸ h2)
  have hG6 : G 65536 = false := by rw [hG]; unfold two; rw [hp, hq]; exact hF
  have hGt : ∀ t, G t = F (p t) (q t) := fun t => by rw [hG]; rfl
  have gna : Hide (na = cnt P 65537) := ⟨hna⟩
  have gnb : Hide (nb = cnt Q 65537) := ⟨hnb⟩
  clear hna hnb hA hB hP hQ hG
  refine Fc.of (args := [_, _, _]) Tryz.func137 rfl rfl Tryz.ntmps137 (Nat.le_of_ble_eq_true rfl) ?_
  repeat' (first|(refine oLA ?_;first|refine a0A rfl ?_|refine wOp ?_|(refine wCm ?_ ?_<;>intro hc)|(refine wNl hK ?_;clear hK K))|refine wG ?_|(refine wCR ?_;intro K hK)|fail)
  refine ahA (ι := Nat × Value × Int) (fun i => [(0, .val va), (1, .val vb), (2, .val (.func (.func ft) #[] #[])), (7, .val i.2.1), (8, .val (.bool (bel G i.1))), (9, .val (.int .i64 i.2.2)), (10, .val (.int .i64 (cnt P i.1))), (11, .val (.int .i64 (cnt Q i.1)))])
    (fun i w' => Ext w w' ∧ i.1 ≤ 65537 ∧ OwnR w.heap.size 96 w' i.2.1 (rnC G i.1) ∧ (bel G i.1 = true → i.2.2 = frm G i.1) ∧ (0 ≤ i.2.2 ∧ i.2.2 ≤ 65537)) (fun i => 65537 - i.1)
    (fun w2 e2 => ⟨(0, .slice none 0 0, 0), ⟨e2, Nat.zero_le _, OwnR.nil, fun h => (by cases h), by decide⟩, (by repeat' (first | exact Sub.nil | refine Sub.val rfl (by first | with_reducible rfl | (congr 1; omega)) ?_ | refine Sub.same rfl ?_))⟩) ?_
  rintro ⟨T, so, fr⟩ w1 ⟨he, hT5, ho, hfr, hfrb⟩
  dsimp only at hT5 ho hfr hfrb ⊢
  have h1 := ha.ext he
  have h2 := hb.ext he
  have hcT := cA T hT5
  have hdT := cB T hT5
  by_cases hdone : cnt P T = na ∧ cnt Q T = nb
  · obtain ⟨e1, e2⟩ := hdone
    have s1 := stA T 65537 hT5 (by rw [← gna.out, e1])
    have s2 := stB T 65537 hT5 (by rw [← gnb.out, e2])
    obtain ⟨z1, -, -⟩ := still 65537 hT5 (fun x g1 g2 => chG x (s1 x g1 g2) (s2 x g1 g2))
    rw [← z1, ← wjA hG6] at ho
    repeat' (first|(refine oLA ?_;first|refine a0A rfl ?_|refine wOp ?_|(refine wCm ?_ ?_<;>intro hc)|(refine wNl hK ?_;clear hK K))|refine wG ?_|(refine wCR ?_;intro K hK)|fail)
    exact alA rfl rfl he (fun u w5 e5 hu' => by obtain rfl : u = _ := hu'; exact ho.ext e5)
  · have next : ∃ t : Nat, T ≤ t ∧ t < 65537 ∧ (∀ x, T ≤ x → x < t → P x = false ∧ Q x = false) ∧ (cnt P T < na → cnt Q T < nb → min (A.getD (cnt P T) 0) (B.getD (cnt Q T) 0) = t) ∧ (cnt P T < na → ¬ cnt Q T < nb → A.getD (cnt P T) 0 = t) ∧ (¬ cnt P T < na → cnt Q T < nb → min 65537 (B.getD (cnt Q T) 0) = t) := by
      have fa : cnt P T < na → ∃ x : Nat, T ≤ x ∧ x < 65537 ∧ A.getD (cnt P T) 0 = x ∧ ∀ z, T ≤ z → z < x → P z = false := fun h => by
        obtain ⟨x, a1, a2, a3, a4, -⟩ := Ae (t := 0) h
        have : T ≤ x := by
          rcases Nat.lt_or_ge x T with h' | h'
          · have := cnt_mono P (m := x + 1) T h'
            simp only [cnt, a2, if_true] at this; omega
          · exact h'
        exact ⟨x, this, a1, a4, stA T x this a3⟩
      have fb : cnt Q T < nb → ∃ x : Nat, T ≤ x ∧ x < 65537 ∧ B.getD (cnt Q T) 0 = x ∧ ∀ z, T ≤ z → z < x → Q z = false := fun h => by
        obtain ⟨x, a1, a2, a3, a4, -⟩ := Be (t := 0) h
        have : T ≤ x := by
          rcases Nat.lt_or_ge x T with h' | h'
          · have := cnt_mono Q (m := x + 1) T h'
            simp only [cnt, a2, if_true] at this; omega
          · exact h'
        exact ⟨x, this, a1, a4, stB T x this a3⟩
      have na' : ¬ cnt P T < na → ∀ z, T ≤ z → z < 65537 → P z = false := fun h => stA T 65537 hT5 (by rw [← gna.out]; omega)
      have nb' : ¬ cnt Q T < nb → ∀ z, T ≤ z → z < 65537 → Q z = false := fun h => stB T 65537 hT5 (by rw [← gnb.out]; omega)
      by_cases ca : cnt P T < na <;> by_cases cb : cnt Q T < nb
      · obtain ⟨x, x1, x2, x3, x4⟩ := fa ca
        obtain ⟨y, y1, y2, y3, y4⟩ := fb cb
        refine ⟨min x y, by omega, by omega, fun z g1 g2 => ⟨x4 z g1 (by omega), y4 z g1 (by omega)⟩, fun _ _ => by rw [x3, y3]; omega, fun _ h => absurd cb h, fun h => absurd ca h⟩
      · obtain ⟨x, x1, x2, x3, x4⟩ := fa ca
        exact ⟨x, x1, x2, fun z g1 g2 => ⟨x4 z g1 g2, nb' cb z g1 (by omega)⟩, fun _ h => absurd h cb, fun _ _ => x3, fun h => absurd ca h⟩
      · obtain ⟨y, y1, y2, y3, y4⟩ := fb cb
        exact ⟨y, y1, y2, fun z g1 g2 => ⟨na' ca z g1 (by omega), y4 z g1 g2⟩, fun h => absurd h ca, fun h => absurd h ca, fun _ _ => by rw [y3]; omega⟩
      · exact absurd ⟨by omega, by omega⟩ hdone
    obtain ⟨t, ht1, ht2, hst, hm1, hm2, hm3⟩ := next
    obtain ⟨z1, z2, z3⟩ := still t ht1 (fun x g1 g2 => chG x (hst x g1 g2).1 (hst x g1 g2).2)
    have cA1 := cA (t + 1) (by omega); have cB1 := cB (t + 1) (by omega)
    have mA1 := cnt_mono P (m := T) (t + 1) (by omega); have mB1 := cnt_mono Q (m := T) (t + 1) (by omega)
    obtain ⟨ia, hia⟩ : ∃ ia, ia = cnt P T := ⟨_, rfl⟩
    obtain ⟨ib, hib⟩ : ∃ ib, ib = cnt Q T := ⟨_, rfl⟩
    obtain ⟨ja, hja⟩ : ∃ ja, ja = cnt P (t + 1) := ⟨_, rfl⟩
    obtain ⟨jb, hjb⟩ : ∃ jb, jb = cnt Q (t + 1) := ⟨_, rfl⟩
    have od1 := oddP t; have od2 := oddQ t
    have Ae' : ∀ {i : Nat}, i < na → (A.getD i 0 ≤ (t : Int) ↔ i < ja) := fun {i} hi => by
      obtain ⟨x, -, -, -, a4, a5⟩ := Ae (t := t) hi
      rw [a4, hja, ← a5]; omega
    have Be' : ∀ {i : Nat}, i < nb → (B.getD i 0 ≤ (t : Int) ↔ i < jb) := fun {i} hi => by
      obtain ⟨x, -, -, -, a4, a5⟩ := Be (t := t) hi
      rw [a4, hjb, ← a5]; omega
    rw [← hia, ← hib] at hdone hm1 hm2 hm3
    rw [← hia] at hcT mA1; rw [← hib] at hdT mB1
    rw [← hja] at cA1 mA1 od1; rw [← hjb] at cB1 mB1 od2
    rw [← hia, ← hib]
    have gia : Hide (ia = cnt P T) := ⟨hia⟩
    have gib : Hide (ib = cnt Q T) := ⟨hib⟩
    have gja : Hide (ja = cnt P (t + 1)) := ⟨hja⟩
    have gjb : Hide (jb = cnt Q (t + 1)) := ⟨hjb⟩
    clear hia hib hja hjb hst
    obtain ⟨a1, ha1, hb1, hb2⟩ : ∃ a1 : Int, (a1 = if ia < na then A.getD ia 0 else 65537) ∧ (ib < nb → min a1 (B.getD ib 0) = (t : Int)) ∧ (¬ ib < nb → a1 = t) := by
      refine ⟨_, rfl, fun cb => ?_, fun cb => ?_⟩
      · by_cases ca : ia < na
        · rw [if_pos ca]; exact hm1 ca cb
        · rw [if_neg ca]; exact hm3 ca cb
      · by_cases ca : ia < na
        · rw [if_pos ca]; exact hm2 ca cb
        · exact absurd ⟨by omega, by omega⟩ hdone
    have hl65 : (t : Int) < 65537 := by omega
    clear hm1 hm2 hm3
    have ga1 : Hide (ia < na → A.getD ia 0 = a1) := ⟨fun ca => by rw [ha1, if_pos ca]⟩
    have ga2 : Hide (¬ ia < na → (65537 : Int) = a1) := ⟨fun ca => by rw [ha1, if_neg ca]⟩
    have gb1 : Hide (ib < nb → min a1 (B.getD ib 0) = (t : Int)) := ⟨hb1⟩
    have gb2 : Hide (¬ ib < nb → a1 = t) := ⟨hb2⟩
    clear ha1 hb1 hb2
    have rn1 : rnC G (t + 1) = rnC G T ++ (if !G t && bel G T then [((frm G T : Int), (t : Int) - frm G T - 1)] else []) := by
      show rnC G t ++ _ = _
      rw [z1, z2, z3]
    have fr1 : frm G (t + 1) = if G t && !bel G T then t else frm G T := by
      show (if G t && !bel G t then t else frm G t) = _
      rw [z2, z3]
    have bl1 : bel G (t + 1) = G t := rfl
    have hltT := euA G T
    obtain ⟨cP, hcP⟩ : ∃ cP, cP = (cnt P T : Int) := ⟨_, rfl⟩
    skip
    repeat' (first|(refine oLA ?_;first|refine a0A rfl ?_|(refine oD 31 ?_; refine dzA rfl (fun _ => rfl) rfl ?_; rw [ga1.out (by omega)])|(refine oD 41 ?_; refine cmA rfl rfl rfl ?_; rw [gb1.out (by omega)])|(refine oD 73 ?_; refine pvA (v := p t) rfl rfl rfl rfl (by dsimp only [j8A]; cases hpt : p t <;> rw [hpt] at od1 <;> simp at od1 ⊢ <;> omega) ?_)|(refine oD 76 ?_; refine pvA (v := q t) rfl rfl rfl rfl (by dsimp only [j8A]; cases hqt : q t <;> rw [hqt] at od2 <;> simp at od2 ⊢ <;> omega) ?_)|refine wOp ?_|(refine wCm ?_ ?_<;>intro hc)|(refine wNl hK ?_;clear hK K))|(refine oCX ?_;first|(show CX _ _ _ (.seq (.seq (.region 4 _ _) _) _) _ _; refine g5A [(0, .val va), (1, .val vb), (2, .val (.func (.func ft) #[] #[])), (7, .val so), (8, .val (.bool (bel G T))), (9, .val (.int .i64 fr)), (10, .val (.int .i64 ia)), (11, .val (.int .i64 ib))] ?_ ?_)|(show CX _ _ _ (.seq (.seq (.region 6 _ _) _) _) _ _; refine g5A [(0, .val va), (1, .val vb), (2, .val (.func (.func ft) #[] #[])), (7, .val so), (8, .val (.bool (bel G T))), (9, .val (.int .i64 fr)), (10, .val (.int .i64 ia)), (11, .val (.int .i64 ib)), (12, .val (.int .i64 a1))] ?_ ?_)|(show CX _ _ _ (.seq (.seq (.region 8 _ _) _) _) _ _; refine g5A [(0, .val va), (1, .val vb), (2, .val (.func (.func ft) #[] #[])), (7, .val so), (8, .val (.bool (bel G T))), (9, .val (.int .i64 fr)), (10, .val (.int .i64 ia)), (11, .val (.int .i64 ib)), (12, .val (.int .i64 t))] ?_ ?_)|(show CX _ _ _ (.seq (.block 2 _) _) _ _; refine g5A [(0, .val va), (1, .val vb), (2, .val (.func (.func ft) #[] #[])), (7, .val so), (8, .val (.bool (bel G T))), (9, .val (.int .i64 fr)), (10, .val (.int .i64 ja)), (11, .val (.int .i64 ib)), (12, .val (.int .i64 t))] ?_ ?_)|(show CX _ _ _ (.seq (.block 4 _) _) _ _; refine g5A [(0, .val va), (1, .val vb), (2, .val (.func (.func ft) #[] #[])), (7, .val so), (8, .val (.bool (bel G T))), (9, .val (.int .i64 fr)), (10, .val (.int .i64 ja)), (11, .val (.int .i64 jb)), (12, .val (.int .i64 t))] ?_ ?_))|refine wG ?_|(refine wCR ?_;intro K hK)|(refine oPX ?_;first|(refine boA ?_; first | ((repeat' (first | exact Sub.nil | (refine Sub.val rfl ?_ ?_; first | with_reducible rfl | (congr 1; omega)) | refine Sub.same rfl ?_)); done) | (rw [ga1.out (by omega)]; (repeat' (first | exact Sub.nil | (refine Sub.val rfl ?_ ?_; first | with_reducible rfl | (congr 1; omega)) | refine Sub.same rfl ?_)); done) | (rw [ga2.out (by omega)]; (repeat' (first | exact Sub.nil | (refine Sub.val rfl ?_ ?_; first | with_reducible rfl | (congr 1; omega)) | refine Sub.same rfl ?_)); done) | (rw [gb2.out (by omega)]; (repeat' (first | exact Sub.nil | (refine Sub.val rfl ?_ ?_; first | with_reducible rfl | (congr 1; omega)) | refine Sub.same rfl ?_)); done)))|fail)
    · refine b8A (ι := Nat) (fun i => [(0, .val va), (1, .val vb), (2, .val (.func (.func ft) #[] #[])), (7, .val so), (8, .val (.bool (bel G T))), (9, .val (.int .i64 fr)), (10, .val (.int .i64 i)), (11, .val (.int .i64 ib)), (12, .val (.int .i64 t))]) (fun i => ia ≤ i ∧ i ≤ ja) (fun i => ja - i) ia ⟨Nat.le_refl _, mA1⟩ (by repeat' (first | exact Sub.nil | refine Sub.val rfl (by first | with_reducible rfl | (congr 1; omega)) ?_ | refine Sub.same rfl ?_)) ?_
      rintro i ⟨hi1, hi2⟩
      by_cases hij : i < ja
      · have hAi : A.getD i 0 ≤ t := (Ae' (by omega)).2 hij
        repeat' (first|(refine oLA ?_;first|refine a0A rfl ?_|refine wOp ?_|(refine wCm ?_ ?_<;>intro hc)|(refine wNl hK ?_;clear hK K))|refine wG ?_|(refine wCR ?_;intro K hK)|fail)
        refine bpA (i + 1) ⟨by omega, by omega⟩ (by omega) (by repeat' (first | exact Sub.nil | refine Sub.val rfl (by first | with_reducible rfl | (congr 1; omega)) ?_ | refine Sub.same rfl ?_))
      · have hAi : i < na → ¬ A.getD i 0 ≤ t := fun h h' => hij ((Ae' h).1 h')
        obtain rfl : i = ja := by omega
        by_cases hin : i < na
        · have hAi := hAi hin
          repeat' (first|(refine oLA ?_;first|refine a0A rfl ?_|refine wOp ?_|(refine wCm ?_ ?_<;>intro hc)|(refine wNl hK ?_;clear hK K))|refine wG ?_|(refine wCR ?_;intro K hK)|(refine oPX ?_;first|(refine boA ?_; (repeat' (first | exact Sub.nil | (refine Sub.val rfl ?_ ?_; first | with_reducible rfl | (congr 1; omega)) | refine Sub.same rfl ?_)); done))|fail)
        · clear hAi
          repeat' (first|(refine oLA ?_;first|refine a0A rfl ?_|refine wOp ?_|(refine wCm ?_ ?_<;>intro hc)|(refine wNl hK ?_;clear hK K))|refine wG ?_|(refine wCR ?_;intro K hK)|(refine oPX ?_;first|(refine boA ?_; (repeat' (first | exact Sub.nil | (refine Sub.val rfl ?_ ?_; first | with_reducible rfl | (congr 1; omega)) | refine Sub.same rfl ?_)); done))|fail)
    · refine b8A (ι := Nat) (fun i => [(0, .val va), (1, .val vb), (2, .val (.func (.func ft) #[] #[])), (7, .val so), (8, .val (.bool (bel G T))), (9, .val (.int .i64 fr)), (10, .val (.int .i64 ja)), (11, .val (.int .i64 i)), (12, .val (.int .i64 t))]) (fun i => ib ≤ i ∧ i ≤ jb) (fun i => jb - i) ib ⟨Nat.le_refl _, mB1⟩ (by repeat' (first | exact Sub.nil | refine Sub.val rfl (by first | with_reducible rfl | (congr 1; omega)) ?_ | refine Sub.same rfl ?_)) ?_
      rintro i ⟨hi1, hi2⟩
      by_cases hij : i < jb
      · have hBi : B.getD i 0 ≤ t := (Be' (by omega)).2 hij
        repeat' (first|(refine oLA ?_;first|refine a0A rfl ?_|refine wOp ?_|(refine wCm ?_ ?_<;>intro hc)|(refine wNl hK ?_;clear hK K))|refine wG ?_|(refine wCR ?_;intro K hK)|fail)
        refine bpA (i + 1) ⟨by omega, by omega⟩ (by omega) (by repeat' (first | exact Sub.nil | refine Sub.val rfl (by first | with_reducible rfl | (congr 1; omega)) ?_ | refine Sub.same rfl ?_))
      · have hBi : i < nb → ¬ B.getD i 0 ≤ t := fun h h' => hij ((Be' h).1 h')
        obtain rfl : i = jb := by omega
        by_cases hin : i < nb
        · have hBi := hBi hin
          repeat' (first|(refine oLA ?_;first|refine a0A rfl ?_|refine wOp ?_|(refine wCm ?_ ?_<;>intro hc)|(refine wNl hK ?_;clear hK K))|refine wG ?_|(refine wCR ?_;intro K hK)|(refine oPX ?_;first|(refine boA ?_; (repeat' (first | exact Sub.nil | (refine Sub.val rfl ?_ ?_; first | with_reducible rfl | (congr 1; omega)) | refine Sub.same rfl ?_)); done))|fail)
        · clear hBi
          repeat' (first|(refine oLA ?_;first|refine a0A rfl ?_|refine wOp ?_|(refine wCm ?_ ?_<;>intro hc)|(refine wNl hK ?_;clear hK K))|refine wG ?_|(refine wCR ?_;intro K hK)|(refine oPX ?_;first|(refine boA ?_; (repeat' (first | exact Sub.nil | (refine Sub.val rfl ?_ ?_; first | with_reducible rfl | (congr 1; omega)) | refine Sub.same rfl ?_)); done))|fail)
    · clear Ae' Be' Ae Be od1 od2 oddP oddQ
      cases hg : G t <;> cases hbl : bel G T
      all_goals rw [hg, hbl] at rn1 fr1
      all_goals rw [hg] at bl1
      all_goals simp only [Bool.not_true, Bool.not_false, Bool.and_true, Bool.and_false, Bool.true_and, Bool.false_and, Bool.false_eq_true, if_true, if_false, List.append_nil] at rn1 fr1
      · skip
        repeat' (first|(refine oLA ?_;first|refine a0A rfl ?_|refine wOp ?_|(refine wCm ?_ ?_<;>intro hc)|(refine oCv ?_;first|refine a3A (f := ft) (r1 := .val (.bool _)) (r2 := .val (.bool _)) rfl rfl rfl rfl (.val (.bool false)) (by intro u1 u2 w e hu1 hu2; obtain rfl : u1 = _ := hu1; obtain rfl : u2 = _ := hu2; rw [← hg, hGt]; exact hT _ _ _) ?_)|(refine wNl hK ?_;clear hK K))|refine wG ?_|(refine wCR ?_;intro K hK)|fail)
        exact a7A (t + 1, so, fr) (fun w5 e5 => ⟨he.trans e5, by dsimp only; omega, by dsimp only; rw [rn1]; exact ho.ext e5, (fun h => by dsimp only at h; rw [bl1] at h; cases h), hfrb⟩) (by dsimp only; omega) (by dsimp only; rw [bl1, ← gja.out, ← gjb.out]; exact (by repeat' (first | exact Sub.nil | refine Sub.val rfl (by first | with_reducible rfl | (congr 1; omega)) ?_ | refine Sub.same rfl ?_)))
      · have hf2 := hfr hbl
        have hlt := hltT hbl
        have hrl := kaA G T
        skip
        repeat' (first|(refine oLA ?_;first|refine a0A rfl ?_|refine cfA (c := nnA fr (t - fr - 1)) rfl rfl rfl (fun w => p1A _ _ w) ?_|refine drA rfl hwA rfl rfl (by decide) ?_|(refine a4A (hK _ _ (g2A rfl (by decide) hwA rfl ho rfl (by omega) (by omega) he (fun v' w' he' ho' => ?_))); clear hK K; dsimp only [vals]; refine amA (by kernel_rfl) (fun K hK => ?_))|refine wOp ?_|(refine wCm ?_ ?_<;>intro hc)|(refine oCv ?_;first|refine a3A (f := ft) (r1 := .val (.bool _)) (r2 := .val (.bool _)) rfl rfl rfl rfl (.val (.bool false)) (by intro u1 u2 w e hu1 hu2; obtain rfl : u1 = _ := hu1; obtain rfl : u2 = _ := hu2; rw [← hg, hGt]; exact hT _ _ _) ?_)|(refine wNl hK ?_;clear hK K))|refine wG ?_|(refine wCR ?_;intro K hK)|fail)
        exact a7A (t + 1, v', (t : Int)) (fun w5 e5 => ⟨he'.trans e5, by dsimp only; omega, by dsimp only; rw [rn1, ← hf2]; exact ho'.ext e5, (fun h => by dsimp only at h; rw [bl1] at h; cases h), by dsimp only; omega⟩) (by dsimp only; omega) (by dsimp only; rw [bl1, ← gja.out, ← gjb.out]; exact (by repeat' (first | exact Sub.nil | refine Sub.val rfl (by first | with_reducible rfl | (congr 1; omega)) ?_ | refine Sub.same rfl ?_)))
      · skip
        repeat' (first|(refine oLA ?_;first|refine a0A rfl ?_|refine wOp ?_|(refine wCm ?_ ?_<;>intro hc)|(refine oCv ?_;first|refine a3A (f := ft) (r1 := .val (.bool _)) (r2 := .val (.bool _)) rfl rfl rfl rfl (.val (.bool true)) (by intro u1 u2 w e hu1 hu2; obtain rfl : u1 = _ := hu1; obtain rfl : u2 = _ := hu2; rw [← hg, hGt]; exact hT _ _ _) ?_)|(refine wNl hK ?_;clear hK K))|refine wG ?_|(refine wCR ?_;intro K hK)|fail)
        exact a7A (t + 1, so, (t : Int)) (fun w5 e5 => ⟨he.trans e5, by dsimp only; omega, by dsimp only; rw [rn1]; exact ho.ext e5, (fun _ => by dsimp only; rw [fr1]), by dsimp only; omega⟩) (by dsimp only; omega) (by dsimp only; rw [bl1, ← gja.out, ← gjb.out]; exact (by repeat' (first | exact Sub.nil | refine Sub.val rfl (by first | with_reducible rfl | (congr 1; omega)) ?_ | refine Sub.same rfl ?_)))
      · have hf2 := hfr hbl
        skip
        repeat' (first|(refine oLA ?_;first|refine a0A rfl ?_|refine wOp ?_|(refine wCm ?_ ?_<;>intro hc)|(refine oCv ?_;first|refine a3A (f := ft) (r1 := .val (.bool _)) (r2 := .val (.bool _)) rfl rfl rfl rfl (.val (.bool true)) (by intro u1 u2 w e hu1 hu2; obtain rfl : u1 = _ := hu1; obtain rfl : u2 = _ := hu2; rw [← hg, hGt]; exact hT _ _ _) ?_)|(refine wNl hK ?_;clear hK K))|refine wG ?_|(refine wCR ?_;intro K hK)|fail)
        exact a7A (t + 1, so, fr) (fun w5 e5 => ⟨he.trans e5, by dsimp only; omega, by dsimp only; rw [rn1]; exact ho.ext e5, (fun _ => by dsimp only; rw [fr1]; exact hf2), hfrb⟩) (by dsimp only; omega) (by dsimp only; rw [bl1, ← gja.out, ← gjb.out]; exact (by repeat' (first | exact Sub.nil | refine Sub.val rfl (by first | with_reducible rfl | (congr 1; omega)) ?_ | refine Sub.same rfl ?_)))
end Go.Proofs.YtfcioiobhpcngaaGreatDoor
end
section
set_option linter.unusedSimpArgs false
set_option linter.unusedVariables false
set_option maxRecDepth 3000
namespace Go.Proofs.YtfcioiobhpcngaaGreatDoor
open Go.LA Go.ArrP Go.RowKit
theorem wkA (x y : Bool) (w : World) : Fc Tryz.prog 139 #[.bool x, .bool y] w (Ret w (.val (.bool (x || y)))) := by
  cases x <;> cases y
  all_goals
    refine Fc.of (args := [_, _]) Tryz.func139 rfl rfl Tryz.ntmps139 (Nat.le_of_ble_eq_true rfl) ?_
    repeat' (first|(refine oLA ?_;first|refine a0A rfl ?_|refine wOp ?_|(refine wCm ?_ ?_<;>intro hc)|(refine wNl hK ?_;clear hK K))|refine wG ?_|(refine wCR ?_;intro K hK)|fail)
    exact abA rfl rfl (Ext.refl _) rfl
theorem u6A (x y : Bool) (w : World) : Fc Tryz.prog 154 #[.bool x, .bool y] w (Ret w (.val (.bool (x && !y)))) := by
  cases x <;> cases y
  all_goals
    refine Fc.of (args := [_, _]) Tryz.func154 rfl rfl Tryz.ntmps154 (Nat.le_of_ble_eq_true rfl) ?_
    repeat' (first|(refine oLA ?_;first|refine a0A rfl ?_|refine wOp ?_|(refine wCm ?_ ?_<;>intro hc)|(refine wNl hK ?_;clear hK K))|refine wG ?_|(refine wCR ?_;intro K hK)|fail)
    exact abA rfl rfl (Ext.refl _) rfl
theorem qkA (x y : Bool) (w : World) : Fc Tryz.prog 140 #[.bool x, .bool y] w (Ret w (.val (.bool (!(x == y))))) := by
  cases x <;> cases y
  all_goals
    refine Fc.of (args := [_, _]) Tryz.func140 rfl rfl Tryz.ntmps140 (Nat.le_of_ble_eq_true rfl) ?_
    repeat' (first|(refine oLA ?_;first|refine a0A rfl ?_|refine wOp ?_|(refine wCm ?_ ?_<;>intro hc)|(refine wNl hK ?_;clear hK K))|refine wG ?_|(refine wCR ?_;intro K hK)|fail)
    exact abA rfl rfl (Ext.refl _) rfl
theorem ntA {w : World} {base base' e s n : Nat} {cs : List Value} (hb : base' ≤ base) (en : Ending) (w' : World) (h : Ret w (.pred (hpA base e s n cs)) en w') : Ret w (.pred (hpA base' e s n cs)) en w' := by
  obtain ⟨v, h1, h2, h3⟩ := h
  exact ⟨v, h1, h2, Own.base h3 hb⟩
theorem d1A (p : Nat → Bool) : (aoA p).length ≤ 65536 := by
  unfold aoA; rw [geA]; exact cnt_le _ _
theorem row_of (w : World) (v : Value) (p : Nat → Bool) (hp : p 65536 = false) (h : SlR w v (aoA p)) : Fc Tryz.prog 138 #[v] w (Ret w (.pred (bjA w.heap.size 3 .i64 (adA (chg p) 65537)))) := by
  have := row_c w v (aoA p) h (dtA p) (by have := d1A p; omega)
  rwa [qhA hp] at this
section
variable (w : World) (va vb : Value) (p q : Nat → Bool) (hp : p 65536 = false) (hq : q 65536 = false) (ha : SlR w va (aoA p)) (hb : SlR w vb (aoA q))
include hp hq ha hb
theorem ror_c : Fc Tryz.prog 92 #[va, vb] w (Ret w (.pred (ekA w.heap.size 96 (aoA (two (fun x y => x || y) p q))))) := by
  refine Fc.of (args := [_, _]) Tryz.func92 rfl rfl Tryz.ntmps92 (Nat.le_of_ble_eq_true rfl) ?_
  repeat' (first|(refine oLA ?_;first|refine a0A rfl ?_|(refine oD 6 ?_; refine oC 138 ?_; refine a1A (f := 138) rfl rfl rfl  (.pred (bjA w.heap.size 3 .i64 (adA (chg p) 65537))) (by intro u1 w e hu1; (try obtain rfl : u1 = _ := hu1); exact (row_of _ _ p hp (ha.ext e)).mono (aaA e.size)) ?_)|(refine oD 8 ?_; refine oC 138 ?_; refine a1A (f := 138) rfl rfl rfl  (.pred (bjA w.heap.size 3 .i64 (adA (chg q) 65537))) (by intro u1 w e hu1; (try obtain rfl : u1 = _ := hu1); exact (row_of _ _ q hq (hb.ext e)).mono (aaA e.size)) ?_)|(refine oC 137 ?_; refine bhA (f := 137) rfl rfl rfl rfl rfl  (.pred (ekA w.heap.size 96 (aoA (two (fun x y => x || y) p q)))) (by intro u1 u2 u3 w e hu1 hu2 hu3; (try obtain rfl : u1 = _ := hu1); (try obtain rfl : u2 = _ := hu2); (try obtain rfl : u3 = _ := hu3); exact (kkA (fun x y => x || y) _ wkA rfl _ _ _ p q hp hq (OwnI.slI hu1) (OwnI.slI hu2)).mono (azA e.size rfl)) ?_)|refine wOp ?_|(refine wCm ?_ ?_<;>intro hc)|(refine wNl hK ?_;clear hK K))|refine wG ?_|(refine wCR ?_;intro K hK)|fail)
  exact alA rfl rfl (Ext.refl _) (fun _ _ _ h => h)
theorem wlA : Fc Tryz.prog 111 #[va, vb] w (Ret w (.pred (ekA w.heap.size 96 (aoA (two (fun x y => x && !y) p q))))) := by
  refine Fc.of (args := [_, _]) Tryz.func111 rfl rfl Tryz.ntmps111 (Nat.le_of_ble_eq_true rfl) ?_
  repeat' (first|(refine oLA ?_;first|refine a0A rfl ?_|(refine oD 6 ?_; refine oC 138 ?_; refine a1A (f := 138) rfl rfl rfl  (.pred (bjA w.heap.size 3 .i64 (adA (chg p) 65537))) (by intro u1 w e hu1; (try obtain rfl : u1 = _ := hu1); exact (row_of _ _ p hp (ha.ext e)).mono (aaA e.size)) ?_)|(refine oD 8 ?_; refine oC 138 ?_; refine a1A (f := 138) rfl rfl rfl  (.pred (bjA w.heap.size 3 .i64 (adA (chg q) 65537))) (by intro u1 w e hu1; (try obtain rfl : u1 = _ := hu1); exact (row_of _ _ q hq (hb.ext e)).mono (aaA e.size)) ?_)|(refine oC 137 ?_; refine bhA (f := 137) rfl rfl rfl rfl rfl  (.pred (ekA w.heap.size 96 (aoA (two (fun x y => x && !y) p q)))) (by intro u1 u2 u3 w e hu1 hu2 hu3; (try obtain rfl : u1 = _ := hu1); (try obtain rfl : u2 = _ := hu2); (try obtain rfl : u3 = _ := hu3); exact (kkA (fun x y => x && !y) _ u6A rfl _ _ _ p q hp hq (OwnI.slI hu1) (OwnI.slI hu2)).mono (azA e.size rfl)) ?_)|refine wOp ?_|(refine wCm ?_ ?_<;>intro hc)|(refine wNl hK ?_;clear hK K))|refine wG ?_|(refine wCR ?_;intro K hK)|fail)
  exact alA rfl rfl (Ext.refl _) (fun _ _ _ h => h)
end
def d9A (lo hi : Int) (i : Nat) : Bool := decide (lo ≤ i) && decide ((i : Int) < hi) && decide (i < 65536)
def fxA (x y : Bool) : Bool := !(x == y)
theorem erA (P : Nat → Bool) {a : Nat} : ∀ b, a ≤ b → (∀ i, a ≤ i → i < b → P i = false) → adA P b = adA P a
  | 0, h, _ => by obtain rfl : a = 0 := by omega
                  rfl
  | b + 1, h, hf => by
    rcases Nat.lt_or_ge b a with h1 | h1
    · obtain rfl : a = b + 1 := by omega
      rfl
    · rw [adA, erA P b h1 (fun i g1 g2 => hf i g1 (by omega)), hf b h1 (by omega)]; simp
theorem qaA (L H : Nat) (h1 : L < H) (h2 : H ≤ 65536) : adA (chg (d9A L H)) 65537 = [(L : Int), (H : Int)] := by
  have hb : ∀ i, bel (d9A L H) i = (decide (L < i) && decide (i ≤ H)) := fun i => by
    cases i with
    | zero => rfl
    | succ i =>
      show d9A L H i = _
      unfold d9A
      rw [Bool.eq_iff_iff]; simp; omega
  have hc : ∀ i, chg (d9A L H) i = (decide (i = L) || decide (i = H)) := fun i => by
    unfold chg
    rw [hb]
    unfold d9A
    by_cases e1 : i = L
    · subst e1
      rw [decide_eq_true (by omega : ((i : Nat) : Int) ≤ i), decide_eq_true (by omega : ((i : Nat) : Int) < (H : Int)), decide_eq_true (by omega : i < 65536), decide_eq_false (by omega : ¬ i < i)]; simp
    · by_cases e2 : i = H
      · subst e2
        rw [decide_eq_false (by omega : ¬ ((i : Nat) : Int) < (i : Int)), decide_eq_true (by omega : L < i)]; simp
      · rw [decide_eq_false e1, decide_eq_false e2, show decide ((L : Int) ≤ i) = decide (L < i) by rw [decide_eq_decide]; omega, show decide ((i : Int) < (H : Int)) = decide (i ≤ H) by rw [decide_eq_decide]; omega]
        by_cases e3 : i ≤ H
        · rw [decide_eq_true (by omega : i < 65536)]; simp
        · rw [decide_eq_false e3]; simp
  rw [erA _ (a := H + 1) 65537 (by omega) (fun i g1 _ => by rw [hc, decide_eq_false (by omega), decide_eq_false (by omega)]; rfl), adA, hc, decide_eq_true (rfl : H = H), Bool.or_true, if_pos rfl]
  rw [erA _ (a := L + 1) H (by omega) (fun i g1 g2 => by rw [hc, decide_eq_false (by omega), decide_eq_false (by omega)]; rfl), adA, hc, decide_eq_true (rfl : L = L), Bool.true_or, if_pos rfl]
  rw [erA _ (a := 0) L (by omega) (fun i _ g2 => by rw [hc, decide_eq_false (by omega), decide_eq_false (by omega)]; rfl)]
  rfl
theorem l7A (lo hi : Int) : d9A lo hi 65536 = false := by simp [d9A]
theorem qbA (lo hi : Int) : ∀ i, d9A lo hi i = d9A (max lo 0) (min hi 65536) i := fun i => by
  unfold d9A
  rw [Bool.eq_iff_iff]; simp; omega
theorem xbA : El Tryz.prog 63 96 (nnA 0 0) 2 4 := ⟨rfl, rfl, rfl, by decide⟩
theorem jtA (w : World) (v : Value) (n : Nat) (cs : List Value) (h : SlC w v n 2 cs) (h1 : ∀ u ∈ cs, u.oneCell' = true) (hb : n * 4 ≤ 140737488355328) : Fc Tryz.prog 73 #[v] w (Ret w (.pred (hpA w.heap.size 96 2 n cs))) := by
  obtain ⟨h0, a, cap, rfl, hc, hm, hn, hcs⟩ := id h
  have hlen := h.len
  cases a with
  | none =>
    obtain rfl := hn rfl
    obtain rfl : n = 0 := by omega
    obtain rfl : cs = [] := List.eq_nil_of_length_eq_zero (by omega)
    refine Fc.of (args := [_]) Tryz.func73 rfl rfl Tryz.ntmps73 (Nat.le_of_ble_eq_true rfl) ?_
    repeat' (first|(refine oLA ?_;first|refine a0A rfl ?_|refine c9A (c := .bool true) rfl rfl rfl (fun _ => rfl) ?_|refine wOp ?_|(refine wCm ?_ ?_<;>intro hc)|(refine wNl hK ?_;clear hK K))|refine wG ?_|(refine wCR ?_;intro K hK)|(refine oPX ?_;first|exact alA rfl rfl (Ext.refl _) (fun u w2 e2 hu => by obtain rfl : u = _ := hu; exact Own.nil))|fail)
  | some a =>
    refine Fc.of (args := [_]) Tryz.func73 rfl rfl Tryz.ntmps73 (Nat.le_of_ble_eq_true rfl) ?_
    repeat' (first|(refine oLA ?_;first|refine a0A rfl ?_|refine c9A (c := .bool false) rfl rfl rfl (fun _ => rfl) ?_|refine j5A 96 (s := 2) rfl (fun _ => by kernel_rfl) ?_|(refine a4A (hK _ _ (byA 5 rfl (fun v5 w5 e5 h5 => ?_))); clear hK K; have h6 := h.ext e5; have ho : Own w.heap.size _ _ w5 v5 0 [] := h5; refine amA (by kernel_rfl) (fun K hK => ?_))|(refine a4A (hK _ _ (ctA rfl (by decide) xbA rfl ho rfl (HasC.val h6) h1 (by rw [Nat.zero_add]; unfold maxLen; omega) (by rw [Nat.zero_add]; exact hb) e5.size (fun v' w2 w3 he2 ho3 hg3 => ?_))); clear hK K; dsimp only [vals]; refine amA (by kernel_rfl) (fun K hK => ?_))|refine wOp ?_|(refine wCm ?_ ?_<;>intro hc)|(refine wNl hK ?_;clear hK K))|refine wG ?_|(refine wCR ?_;intro K hK)|fail)
    exact alA rfl rfl ((e5.trans he2).grown hg3 (fun q hq => (Own.lt ho q hq).1)) (fun u w4 e4 hu => by
      obtain rfl : u = _ := hu
      have h9 : Own w.heap.size 96 2 w3 u n cs := by simpa using ho3
      exact h9.ext e4)
set_option maxHeartbeats 2000000 in
theorem ieA (w : World) (v : Value) (p : Nat → Bool) (lo hi : Int) (hp : p 65536 = false) (h : SlR w v (aoA p)) (hlo : -9223372036854775808 ≤ lo ∧ lo < 9223372036854775808) (hhi : -9223372036854775808 ≤ hi ∧ hi < 9223372036854775808) :
    Fc Tryz.prog 94 #[v, .int .i64 lo, .int .i64 hi] w (Ret w (.pred (ekA w.heap.size 96 (aoA (two fxA p (d9A lo hi)))))) := by
  refine Fc.of (args := [_, _, _]) Tryz.func94 rfl rfl Tryz.ntmps94 (Nat.le_of_ble_eq_true rfl) ?_
  obtain ⟨L, hL⟩ : ∃ L : Nat, max lo 0 = L := ⟨(max lo 0).toNat, by omega⟩
  obtain ⟨H, hH⟩ : ∃ H : Int, min hi 65536 = H := ⟨_, rfl⟩
  have hsp : ∀ i, d9A lo hi i = d9A L H i := fun i => by rw [qbA, hL, hH]
  have hlen := d1A p
  by_cases hLH : (L : Int) ≥ H
  · have e : aoA (two fxA p (d9A lo hi)) = aoA p := eaA fun i _ => by
      have : d9A lo hi i = false := by
        rw [hsp]; unfold d9A
        by_cases h1 : (L : Int) ≤ i
        · rw [decide_eq_false (by omega : ¬ (i : Int) < H)]; simp
        · rw [decide_eq_false h1]; simp
      unfold two fxA; rw [this]; cases p i <;> rfl
    rw [e]
    repeat' (first|(refine oLA ?_;first|refine a0A rfl ?_|(refine egA rfl rfl rfl ?_; rw [hL])|(refine cmA rfl rfl rfl ?_; rw [hH])|refine wOp ?_|(refine wCm ?_ ?_<;>intro hc)|(refine oCv ?_;first|(refine oC 73 ?_; refine a1A (f := 73) rfl rfl rfl  (.pred (hpA w.heap.size 96 2 (aoA p).length (csA (aoA p)))) (by intro u1 w e hu1; (try obtain rfl : u1 = _ := hu1); exact (jtA _ _ _ _ (h.ext e) (fyA _) (by omega)).mono (ntA e.size)) ?_))|(refine wNl hK ?_;clear hK K))|refine wG ?_|(refine wCR ?_;intro K hK)|fail)
    exact alA rfl rfl (Ext.refl _) (fun _ _ _ h => h)
  · obtain ⟨H', rfl⟩ := Int.eq_ofNat_of_zero_le (by omega : 0 ≤ H)
    have er := qaA L H' (by omega) (by omega)
    have hsc : d9A L H' 65536 = false := l7A _ _
    have e : aoA (two fxA p (d9A lo hi)) = aoA (two fxA p (d9A L H')) := eaA fun i _ => by unfold two; rw [hsp]
    rw [e]
    repeat' (first|(refine oLA ?_;first|refine a0A rfl ?_|(refine egA rfl rfl rfl ?_; rw [hL])|(refine cmA rfl rfl rfl ?_; rw [hH])|refine meA rfl ojA rfl rfl rfl rfl ?_|(refine oC 137 ?_; refine bhA (f := 137) rfl rfl rfl rfl rfl  (.pred (ekA w.heap.size 96 (aoA (two fxA p (d9A L H'))))) (by intro u1 u2 u3 w e hu1 hu2 hu3; (try obtain rfl : u1 = _ := hu1); (try obtain rfl : u2 = _ := hu2); (try obtain rfl : u3 = _ := hu3); exact (kkA fxA _ qkA rfl _ _ _ p (d9A L H') hp hsc (OwnI.slI hu1) (by rw [er]; exact Own.slC hu2)).mono (azA e.size rfl)) ?_)|refine wOp ?_|(refine wCm ?_ ?_<;>intro hc)|(refine oCv ?_;first|(refine oC 138 ?_; refine a1A (f := 138) rfl rfl rfl  (.pred (bjA w.heap.size 3 .i64 (adA (chg p) 65537))) (by intro u1 w e hu1; (try obtain rfl : u1 = _ := hu1); exact (row_of _ _ p hp (h.ext e)).mono (aaA e.size)) ?_))|(refine wNl hK ?_;clear hK K))|refine wG ?_|(refine wCR ?_;intro K hK)|fail)
    exact alA rfl rfl (Ext.refl _) (fun _ _ _ h => h)
theorem ftA {a : List Rn} {f m : Int} : csA (a ++ [(f, m)]) = csA a ++ [.int .u16 f, .int .u16 m] := by rw [fzA]; rfl
theorem last_at {cur : Array Value} {a : List Rn} {f m : Int} (h : cur.toList.take ((a ++ [(f, m)]).length * 2) = csA (a ++ [(f, m)])) : cur[a.length * 2 + 1]? = some (.int .u16 m) := by
  rw [ftA, List.length_append] at h
  have h1 := congrArg (fun l => l[a.length * 2 + 1]?) h
  simp only [List.getElem?_take] at h1
  rw [if_pos (by simp; omega), List.getElem?_append_right (by rw [dhA]; omega), dhA, show a.length * 2 + 1 - a.length * 2 = 1 by omega] at h1
  rw [← Array.getElem?_toList, h1]; rfl
theorem OwnR.bump {base e b cap : Nat} {w : World} {cur : Array Value} {a : List Rn} {f m : Int} (hb : base ≤ b) (hg : w.heap[b]? = some (.cells cur e (0, 0))) (hnc : (a ++ [(f, m)]).length ≤ cap) (hm : cap ≤ maxLen) (hsz : cur.size = cap * 2) (ht : cur.toList.take ((a ++ [(f, m)]).length * 2) = csA (a ++ [(f, m)])) (c : Int) :
    OwnR base e (w.setRow b (cur.setIfInBounds (a.length * 2 + 1) (.int .u16 c))) (.slice (some ⟨b, 0, none⟩) (a ++ [(f, m)]).length cap) (a ++ [(f, c)]) := by
  have hl : (a ++ [(f, c)]).length = (a ++ [(f, m)]).length := by simp
  unfold OwnR
  rw [hl]
  refine ⟨by rw [dhA, hl], .inr ⟨b, cap, cur.setIfInBounds (a.length * 2 + 1) (.int .u16 c), rfl, hb, setRow_heap w b cur _ e _ hg, hnc, hm, by simpa using hsz, ?_⟩⟩
  rw [Array.toList_setIfInBounds, List.take_set, ht, ftA, ftA, List.set_append_right _ _ (by rw [dhA]; omega), dhA, show a.length * 2 + 1 - a.length * 2 = 1 by omega]
  rfl
def Tk (xs : List Int) : Nat → Nat
  | 0 => 0
  | k + 1 => (xs.getD k 0).toNat + 1
theorem okA {xs : List Int} (h : Inc xs) (hl : Low xs) {k : Nat} (hk : k < xs.length) : Tk xs k ≤ (xs.getD k 0).toNat ∧ (∀ z, Tk xs k ≤ z → z < (xs.getD k 0).toNat → bkA xs z = false) ∧ bkA xs (xs.getD k 0).toNat = true := by
  have hb : ∀ j, j < xs.length → 0 ≤ xs.getD j 0 ∧ xs.getD j 0 < 65536 := fun j hj => by rw [axA hj]; exact hl _ (List.getElem_mem hj)
  have hlt : ∀ i j, i < j → j < xs.length → xs.getD i 0 < xs.getD j 0 := fun i j hij hj => by
    rw [axA hj, axA (by omega)]
    exact List.pairwise_iff_getElem.1 h i j (by omega) hj hij
  refine ⟨?_, fun z h1 h2 => ?_, ?_⟩
  · cases k with
    | zero => exact Nat.zero_le _
    | succ k => have := hlt k (k + 1) (by omega) hk; have := hb k (by omega); simp only [Tk]; omega
  · unfold bkA
    refine decide_eq_false fun hm => ?_
    obtain ⟨j, hj, he⟩ := List.getElem_of_mem hm
    have he' : xs.getD j 0 = z := by rw [axA hj]; exact he
    rcases Nat.lt_or_ge j k with h3 | h3
    · obtain ⟨k', rfl⟩ : ∃ k', k = k' + 1 := ⟨k - 1, by omega⟩
      simp only [Tk] at h1
      rcases Nat.lt_or_ge j k' with h4 | h4
      · have := hlt j k' h4 (by omega); have := hb k' (by omega); omega
      · obtain rfl : j = k' := by omega
        omega
    · rcases Nat.lt_or_ge k j with h4 | h4
      · have := hlt k j h4 hj; have := hb k hk; omega
      · obtain rfl : j = k := by omega
        omega
  · unfold bkA
    have := hb k hk
    rw [show (((xs.getD k 0).toNat : Nat) : Int) = xs.getD k 0 by omega]
    exact decide_eq_true (by rw [axA hk]; exact List.getElem_mem hk)
set_option maxHeartbeats 4000000 in
theorem t0A (w : World) (v : Value) (xs : List Int) (h : SlI .u16 w v xs) (hi : Inc xs) (hl : Low xs) : Fc Tryz.prog 74 #[v] w (Ret w (.pred (ekA w.heap.size 96 (aoA (bkA xs))))) := by
  have hlen := h.len
  refine Fc.of (args := [_]) Tryz.func74 rfl rfl Tryz.ntmps74 (Nat.le_of_ble_eq_true rfl) ?_
  repeat' (first|(refine oLA ?_;first|refine a0A rfl ?_|refine wOp ?_|(refine wCm ?_ ?_<;>intro hc)|(refine wNl hK ?_;clear hK K))|refine wG ?_|(refine wCR ?_;intro K hK)|fail)
  refine ahA (ι := Nat × Value) (fun i => [(0, .val v), (3, .val i.2), (6, .val v), (7, .val (.int .i64 xs.length)), (8, .val (.int .i64 i.1))]) (fun i w' => Ext w w' ∧ i.1 ≤ xs.length ∧ OwnR w.heap.size 96 w' i.2 (opn (bkA xs) (Tk xs i.1))) (fun i => xs.length - i.1)
    (fun w2 e2 => ⟨(0, .slice none 0 0), ⟨e2, Nat.zero_le _, OwnR.nil⟩, (by repeat' (first | exact Sub.nil | refine Sub.val rfl (by first | with_reducible rfl | (congr 1; omega)) ?_ | refine Sub.same rfl ?_))⟩) ?_
  rintro ⟨k, so⟩ w1 ⟨he, hk, ho⟩
  dsimp only at hk ho ⊢
  have h1 := h.ext he
  by_cases hkl : k < xs.length
  · obtain ⟨g1, g2, g3⟩ := okA hi hl hkl
    have hxb : 0 ≤ xs.getD k 0 ∧ xs.getD k 0 < 65536 := by rw [axA hkl]; exact hl _ (List.getElem_mem hkl)
    obtain ⟨X, hX⟩ := Int.eq_ofNat_of_zero_le hxb.1
    have hXb : X < 65536 := by omega
    have hTs : Tk xs (k + 1) = X + 1 := by simp only [Tk]; rw [hX]; rfl
    rw [hX, Int.toNat_natCast] at g1 g2 g3
    have hof := f3A X g1 g2
    rw [← hof] at ho
    by_cases hA : 0 < k ∧ Tk xs k = X
    · obtain ⟨j, rfl⟩ : ∃ j, k = j + 1 := ⟨k - 1, by omega⟩
      have hjb : 0 ≤ xs.getD j 0 ∧ xs.getD j 0 < 65536 := by rw [axA (by omega)]; exact hl _ (List.getElem_mem _)
      have hjX : xs.getD j 0 + 1 = X := by have := hA.2; simp only [Tk] at this; omega
      have hji : (((j + 1 : Nat) : Int) - 1) = (j : Int) := by omega
      obtain ⟨Y, rfl⟩ : ∃ Y, X = Y + 1 := ⟨X - 1, by omega⟩
      have hbl : bel (bkA xs) (Y + 1) = true := by
        show bkA xs Y = true
        have := (okA hi hl (k := j) (by omega)).2.2
        rwa [show (xs.getD j 0).toNat = Y by omega] at this
      have hfl := euA (bkA xs) (Y + 1) hbl
      rw [e2A hbl] at ho
      have hnew := duA g3 hbl
      obtain ⟨f, hf⟩ : ∃ f : Int, f = frm (bkA xs) (Y + 1) := ⟨_, rfl⟩
      obtain ⟨a, ha⟩ : ∃ a, a = rnC (bkA xs) (Y + 1) := ⟨_, rfl⟩
      obtain ⟨m, hm⟩ : ∃ m : Int, m = ((Y + 1 : Nat) : Int) - f - 1 := ⟨_, rfl⟩
      rw [← hf, ← ha, ← hm] at ho
      rw [← hf, ← ha, show ((Y + 1 : Nat) : Int) - f = m + 1 by omega, ← hTs] at hnew
      have hal : a.length ≤ Y + 1 := ha ▸ kaA _ _
      have hfb : 0 ≤ f ∧ f < Y + 1 := by omega
      obtain ⟨gb, cap, cur, rfl, hgb, hgc, hgn, hgm, hgs, hgt⟩ := ho.row (by simp)
      have hra := last_at hgt
      have hln : ((a ++ [(f, m)]).length : Int) = (a.length : Int) + 1 := by simp
      have hlN : (a ++ [(f, m)]).length = a.length + 1 := by simp
      repeat' (first|(refine oLA ?_;first|refine a0A rfl ?_|(refine oD 19 ?_; refine a9A rfl rfl rfl (by dsimp only [fits]; omega) ?_; rw [hji])|(refine oD 12 ?_; refine dzA rfl (fun _ => rfl) rfl ?_; rw [hX])|(refine oD 27 ?_; refine bzA rfl _ rfl rfl (HasR.ownV ho) ?_; rw [hln])|(refine oD 28 ?_; refine a9A rfl rfl rfl (by dsimp only [fits]; omega) ?_; rw [Int.add_sub_cancel])|(refine oD 29 ?_; refine cuA (s := 2) rfl rfl (fun _ => rfl) rfl rfl (by omega) (by omega) ?_; rw [Int.toNat_natCast])|(refine oD 33 ?_; refine cuA (s := 2) rfl rfl (fun _ => rfl) rfl rfl (by omega) (by omega) ?_; rw [Int.toNat_natCast])|(refine oF 1 ?_; refine a2A (a := ⟨gb, 0 + a.length * 2, none⟩) (a' := ⟨gb, a.length * 2 + 1, none⟩) rfl rfl (fun w => by rw [Nat.zero_add]; rfl) ?_)|(refine oD 31 ?_; refine a8A rfl (fun _ => rfl) rfl hgc hra ?_)|(refine a4A (hK _ _ (deA rfl rfl rfl hgc (fun _ => rfl) (by omega) rfl rfl (fun w4 e4 => ?_))); clear hK K; dsimp only [vals]; refine amA (by kernel_rfl) (fun K hK => ?_))|refine wOp ?_|(refine wCm ?_ ?_<;>intro hc)|(refine wNl hK ?_;clear hK K))|refine wG ?_|(refine wCR ?_;intro K hK)|fail)
      refine a7A (j + 1 + 1, _) (fun w5 e5 => ⟨((he.trans e4).setRow hgb _).trans e5, hkl, ?_⟩) (by dsimp only; omega) (by repeat' (first | exact Sub.nil | refine Sub.val rfl (by first | with_reducible rfl | (congr 1; omega)) ?_ | refine Sub.same rfl ?_))
      dsimp only
      rw [hnew]
      exact OwnR.ext (OwnR.bump hgb (e4.block hgc) hgn hgm hgs hgt (m + 1)) e5
    · have hbl : bel (bkA xs) X = false := by
        cases X with
        | zero => rfl
        | succ Y =>
          show bkA xs Y = false
          cases k with
          | zero => exact g2 Y (Nat.zero_le _) (by omega)
          | succ j => exact g2 Y (by have : ¬ Tk xs (j + 1) = Y + 1 := fun e => hA ⟨by omega, e⟩; omega) (by omega)
      have hnew := eoA g3 hbl
      rw [← hTs] at hnew
      have hol : (opn (bkA xs) X).length ≤ X := by rw [geA]; exact cnt_le _ _
      by_cases hk0 : 0 < k
      · obtain ⟨j, rfl⟩ : ∃ j, k = j + 1 := ⟨k - 1, by omega⟩
        have hjb : 0 ≤ xs.getD j 0 ∧ xs.getD j 0 < 65536 := by rw [axA (by omega)]; exact hl _ (List.getElem_mem _)
        have hjX : ¬ (X : Int) = xs.getD j 0 + 1 := fun e => hA ⟨by omega, by simp only [Tk]; omega⟩
        have hjl : xs.getD j 0 + 1 ≤ X := by have := g1; simp only [Tk] at this; omega
        have hji : (((j + 1 : Nat) : Int) - 1) = (j : Int) := by omega
        repeat' (first|(refine oLA ?_;first|refine a0A rfl ?_|(refine oD 19 ?_; refine a9A rfl rfl rfl (by dsimp only [fits]; omega) ?_; rw [hji])|(refine oD 12 ?_; refine dzA rfl (fun _ => rfl) rfl ?_; rw [hX])|refine k0A (c := nnA X 0) rfl rfl (fun w => run_build w _ _ _ (by kernel_rfl)) ?_|refine drA rfl hwA rfl rfl (by decide) ?_|(refine a4A (hK _ _ (g2A rfl (by decide) hwA rfl ho rfl (by omega) (by omega) he (fun v' w' he' ho' => ?_))); clear hK K; dsimp only [vals]; refine amA (by kernel_rfl) (fun K hK => ?_))|refine wOp ?_|(refine wCm ?_ ?_<;>intro hc)|(refine wNl hK ?_;clear hK K))|refine wG ?_|(refine wCR ?_;intro K hK)|fail)
        exact a7A (j + 1 + 1, v') (fun w5 e5 => ⟨he'.trans e5, hkl, by dsimp only; rw [hnew]; exact ho'.ext e5⟩) (by dsimp only; omega) (by repeat' (first | exact Sub.nil | refine Sub.val rfl (by first | with_reducible rfl | (congr 1; omega)) ?_ | refine Sub.same rfl ?_))
      · obtain rfl : k = 0 := by omega
        repeat' (first|(refine oLA ?_;first|refine a0A rfl ?_|(refine oD 12 ?_; refine dzA rfl (fun _ => rfl) rfl ?_; rw [hX])|refine k0A (c := nnA X 0) rfl rfl (fun w => run_build w _ _ _ (by kernel_rfl)) ?_|refine drA rfl hwA rfl rfl (by decide) ?_|(refine a4A (hK _ _ (g2A rfl (by decide) hwA rfl ho rfl (by omega) (by omega) he (fun v' w' he' ho' => ?_))); clear hK K; dsimp only [vals]; refine amA (by kernel_rfl) (fun K hK => ?_))|refine wOp ?_|(refine wCm ?_ ?_<;>intro hc)|(refine wNl hK ?_;clear hK K))|refine wG ?_|(refine wCR ?_;intro K hK)|fail)
        exact a7A (0 + 1, v') (fun w5 e5 => ⟨he'.trans e5, hkl, by dsimp only; rw [hnew]; exact ho'.ext e5⟩) (by dsimp only; omega) (by repeat' (first | exact Sub.nil | refine Sub.val rfl (by first | with_reducible rfl | (congr 1; omega)) ?_ | refine Sub.same rfl ?_))
  · obtain rfl : k = xs.length := by omega
    have hend : opn (bkA xs) (Tk xs xs.length) = aoA (bkA xs) := by
      have hT : Tk xs xs.length ≤ 65536 := by
        cases hxl : xs.length with
        | zero => exact Nat.zero_le _
        | succ j =>
          have : 0 ≤ xs.getD j 0 ∧ xs.getD j 0 < 65536 := by rw [axA (by omega)]; exact hl _ (List.getElem_mem _)
          simp only [Tk]; omega
      unfold aoA
      refine (f3A 65536 hT fun z h1 h2 => ?_).symm
      unfold bkA
      refine decide_eq_false fun hm => ?_
      obtain ⟨j, hj, hej⟩ := List.getElem_of_mem hm
      cases hxl : xs.length with
      | zero => omega
      | succ n =>
        rw [hxl] at h1 hj
        simp only [Tk] at h1
        have e1 : xs.getD j 0 = z := by rw [axA (by omega)]; exact hej
        rcases Nat.lt_or_ge j n with h4 | h4
        · have := List.pairwise_iff_getElem.1 hi j n (by omega) (by omega) h4
          rw [← axA (by omega), ← axA (by omega)] at this; omega
        · obtain rfl : j = n := by omega
          omega
    rw [hend] at ho
    repeat' (first|(refine oLA ?_;first|refine a0A rfl ?_|refine wOp ?_|(refine wCm ?_ ?_<;>intro hc)|(refine wNl hK ?_;clear hK K))|refine wG ?_|(refine wCR ?_;intro K hK)|fail)
    exact alA rfl rfl he (fun u w5 e5 hu' => by obtain rfl : u = _ := hu'; exact ho.ext e5)
theorem qiA (f : Int) : n3A f (-1) = [] := by simp [n3A]
theorem khA {w w' : World} {b : Nat} {row : Option Nat} {o : Obj} (h : w.grownBy w' row) (hb : w.heap[b]? = some o) (hne : row ≠ some b) : w'.heap[b]? = some o := by
  rw [h.block b (Array.getElem?_eq_some_iff.1 hb).1 (fun e => hne e.symm)]; exact hb
set_option maxHeartbeats 4000000 in
theorem qjA (w : World) (v : Value) (rs : List Rn) (h : SlR w v rs) (hu : U16 rs) (hr : Right rs) (hn : rs.length ≤ 70000) : Fc Tryz.prog 115 #[v] w (Ret w (.pred (bjA w.heap.size 72 .u16 (ebA rs)))) := by
  have hlen := h.len
  refine Fc.of (args := [_]) Tryz.func115 rfl rfl Tryz.ntmps115 (Nat.le_of_ble_eq_true rfl) ?_
  repeat' (first|(refine oLA ?_;first|refine a0A rfl ?_|(refine oI ?_; refine b7A rfl _ rfl (fun _ => rfl) rfl (by first | exact HasR.val (by assumption) | exact HasR.own | exact HasR.ownV (by assumption)) rfl (by omega) ?_)|(refine oLt 96 ?_; refine anA rfl (fun _ => rfl) (fun _ => rfl) rfl ?_)|(show LA _ _ _ _ (⟨some 99, .alloc _, _, _, _, _⟩ :: _) _; refine a4A (hK _ _ (c7A rfl rfl (by decide) (fun _ => rfl) (fun _ => rfl) (fun _ => rfl) rfl (by intro u hu; simp [Value.cells] at hu; rcases hu with rfl | rfl <;> rfl) (fun bx wx ex hbx hbc => ?_))); clear hK K; refine amA (by kernel_rfl) (fun K hK => ?_))|(refine oF 0 ?_; refine a2A (a := ⟨bx, 0, none⟩) (a' := ⟨bx, 0, none⟩) rfl rfl (fun _ => rfl) ?_)|(refine oF 1 ?_; refine a2A (a := ⟨bx, 0, none⟩) (a' := ⟨bx, 1, none⟩) rfl rfl (fun _ => rfl) ?_)|(refine oLt 96 ?_; refine b6A rfl (fun _ => rfl) (fun _ => rfl) rfl hbc ?_)|(refine oLt 72 ?_; refine a8A rfl (fun _ => rfl) rfl hbc rfl ?_)|(refine cyA ?_; refine bzA rfl _ rfl rfl (by first | exact HasR.val (by assumption) | exact HasR.own | exact HasR.ownV (by assumption)) ?_)|refine wOp ?_|(refine wCm ?_ ?_<;>intro hc)|(refine wNl hK ?_;clear hK K))|refine wG ?_|(refine wCR ?_;intro K hK)|fail)
  refine ahA (ι := Nat × Value) (fun i => [(3, .val i.2), (7, .val v), (8, .val (.int .i64 rs.length)), (9, .val (.int .i64 i.1))]) (fun i w' => Ext w w' ∧ i.1 ≤ rs.length ∧ OwnI w.heap.size 72 .u16 w' i.2 (ebA (rs.take i.1))) (fun i => rs.length - i.1)
    (fun w2 e2 => ⟨(0, .slice none 0 0), ⟨e2, Nat.zero_le _, OwnI.nil⟩, (by repeat' (first | exact Sub.nil | refine Sub.val rfl (by first | with_reducible rfl | (congr 1; omega)) ?_ | refine Sub.same rfl ?_))⟩) ?_
  rintro ⟨k, so⟩ w1 ⟨he, hk, ho⟩
  dsimp only at hk ho ⊢
  have h1 := h.ext he
  by_cases hkl : k < rs.length
  · obtain ⟨u1, u2, u3, u4⟩ := hu.at k
    obtain ⟨-, hr2⟩ := hr k hkl
    have hlk : ((ebA (rs.take k)).length : Int) = kdA (rs.take k) := jmA _ (fun x hx => (hu x (List.mem_of_mem_take hx)).2.2.1)
    have hb := flA (fun x => x.2 + 1) 65536 (fun x h1 h2 => ⟨by omega, by omega⟩) hu k hk
    have hb : 0 ≤ kdA (rs.take k) ∧ kdA (rs.take k) ≤ 65536 * k := hb
    obtain ⟨LK, hLK⟩ : ∃ LK, LK = (ebA (rs.take k)).length := ⟨_, rfl⟩
    have hLKb : LK ≤ 65536 * 70000 := by omega
    clear hlk hb
    obtain ⟨F, hF⟩ := Int.eq_ofNat_of_zero_le u1
    obtain ⟨M, hM⟩ := Int.eq_ofNat_of_zero_le u3
    rw [hF] at u2 hr2; rw [hM] at u4 hr2
    have hmin : min ((F : Int) + M + 1) 65536 = (F : Int) + M + 1 := by omega
    repeat' (first|(refine oLA ?_;first|refine a0A rfl ?_|(refine oD 12 ?_; refine anA rfl (fun _ => rfl) (fun _ => rfl) rfl ?_; rw [hF, hM])|(refine oI ?_; refine b7A rfl _ rfl (fun _ => rfl) rfl (by first | exact HasR.val (by assumption) | exact HasR.own | exact HasR.ownV (by assumption)) rfl (by omega) ?_)|(refine oLt 96 ?_; refine anA rfl (fun _ => rfl) (fun _ => rfl) rfl ?_)|(show LA _ _ _ _ (⟨some 5, .alloc _, _, _, _, _⟩ :: _) _; refine a4A (hK _ _ (c7A rfl rfl (by decide) (fun _ => rfl) (fun _ => rfl) (fun _ => rfl) rfl (by intro u hu; simp [Value.cells] at hu; rcases hu with rfl | rfl <;> rfl) (fun bx wx ex hbx hbc => ?_))); clear hK K; refine amA (by kernel_rfl) (fun K hK => ?_))|(refine oF 0 ?_; refine a2A (a := ⟨bx, 0, none⟩) (a' := ⟨bx, 0, none⟩) rfl rfl (fun _ => rfl) ?_)|(refine oF 1 ?_; refine a2A (a := ⟨bx, 0, none⟩) (a' := ⟨bx, 1, none⟩) rfl rfl (fun _ => rfl) ?_)|(refine oLt 96 ?_; refine b6A rfl (fun _ => rfl) (fun _ => rfl) rfl hbc ?_)|(refine oLt 72 ?_; refine a8A rfl (fun _ => rfl) rfl hbc rfl ?_)|(refine cyA ?_; refine bzA rfl _ rfl rfl (by first | exact HasR.val (by assumption) | exact HasR.own | exact HasR.ownV (by assumption)) ?_)|refine wOp ?_|(refine wCm ?_ ?_<;>intro hc)|(refine wNl hK ?_;clear hK K))|refine wG ?_|(refine wCR ?_;intro K hK)|fail)
    have ho5 := ho.ext ex
    have x5 := he.trans ex
    refine ahA (ι := Nat × Value) (fun i => [(3, .val i.2), (5, .val (.pointer (some ⟨bx, 0, none⟩))), (6, .val (.int .i64 ((F : Int) + i.1))), (7, .val v), (8, .val (.int .i64 rs.length)), (9, .val (.int .i64 k))])
      (fun i w' => Ext w w' ∧ i.1 ≤ M + 1 ∧ OwnI w.heap.size 72 .u16 w' i.2 (ebA (rs.take k) ++ n3A F ((i.1 : Int) - 1)) ∧ w'.heap[bx]? = some (.cells (nnA F M).cells 96 (0, 0))) (fun i => M + 1 - i.1)
      (fun w2 e2 => ⟨(0, so), ⟨x5.trans e2, Nat.zero_le _, by dsimp only; rw [show (((0 : Nat) : Int) - 1) = -1 from rfl, qiA, List.append_nil]; exact ho5.ext e2, e2.block hbc⟩, by dsimp only; rw [show (F : Int) + ((0 : Nat) : Int) = F by omega]; exact (by repeat' (first | exact Sub.nil | refine Sub.val rfl (by first | with_reducible rfl | (congr 1; omega)) ?_ | refine Sub.same rfl ?_))⟩) ?_
    rintro ⟨j, sj⟩ w6 ⟨he6, hj6, ho6, hbc6⟩
    dsimp only at hj6 ho6 hbc6 ⊢
    have hrl : (ebA (rs.take k) ++ n3A F ((j : Int) - 1)).length = LK + j := by rw [List.length_append, leA, ← hLK]; omega
    have hne : sj.ownBlock ≠ some bx := fun e => by
      rcases ho6.2 with ⟨e0, -⟩ | ⟨g, cap, cur, e0, -, hg, -⟩
      · rw [e0] at e; cases e
      · rw [e0] at e
        have : g = bx := by simpa [Value.ownBlock] using e
        subst this
        rw [hbc6] at hg
        simp only [Option.some.injEq, Obj.cells.injEq] at hg
        exact absurd hg.2.1 (by decide)
    by_cases hjl : j < M + 1
    · have hsucc := jdA F j
      repeat' (first|(refine oLA ?_;first|refine a0A rfl ?_|(refine cmA rfl rfl rfl ?_; rw [hmin])|(refine oLt 96 ?_; refine b6A rfl (fun _ => rfl) (fun _ => rfl) rfl hbc6 ?_)|refine poA rfl htA rfl rfl ?_|(refine a4A (hK _ _ (ctA rfl (by decide) htA rfl ho6 rfl HasC.pred (by intro u hu9; simp at hu9; subst hu9; rfl) (by rw [hrl]; unfold maxLen; omega) (by rw [hrl]; omega) he6.size (fun v' w7 w8 e7 ho8 hg8 => ?_))); clear hK K; dsimp only [vals]; refine amA (by kernel_rfl) (fun K hK => ?_))|refine wOp ?_|(refine wCm ?_ ?_<;>intro hc)|(refine oCv ?_;first|(refine oC 125 ?_; refine a1A (f := 125) rfl rfl rfl  (.val (.int .i64 ((F : Int) + M + 1))) (by intro u1 w e hu1; (try obtain rfl : u1 = _ := hu1); exact rhA _ F M ⟨by omega, by omega⟩ ⟨by omega, by omega⟩) ?_))|(refine wNl hK ?_;clear hK K))|refine wG ?_|(refine wCR ?_;intro K hK)|fail)
      refine a7A (j + 1, v') (fun w9 e9 => ⟨((he6.trans e7).grown hg8 (fun q hq => (Own.lt ho6 q hq).1)).trans e9, by dsimp only; omega, ?_, e9.block (khA hg8 (e7.block hbc6) hne)⟩) (by dsimp only; omega) (by repeat' (first | exact Sub.nil | refine Sub.val rfl (by first | with_reducible rfl | (congr 1; omega)) ?_ | refine Sub.same rfl ?_))
      dsimp only
      rw [show (((j + 1 : Nat) : Int) - 1) = (j : Int) by omega, hsucc, ← List.append_assoc]
      refine OwnI.ext ?_ e9
      unfold OwnI
      rw [List.map_append, List.length_append]; exact ho8
    · obtain rfl : j = M + 1 := by omega
      repeat' (first|(refine oLA ?_;first|refine a0A rfl ?_|(refine cmA rfl rfl rfl ?_; rw [hmin])|(refine oLt 96 ?_; refine b6A rfl (fun _ => rfl) (fun _ => rfl) rfl hbc6 ?_)|refine wOp ?_|(refine wCm ?_ ?_<;>intro hc)|(refine oCv ?_;first|(refine oC 125 ?_; refine a1A (f := 125) rfl rfl rfl  (.val (.int .i64 ((F : Int) + M + 1))) (by intro u1 w e hu1; (try obtain rfl : u1 = _ := hu1); exact rhA _ F M ⟨by omega, by omega⟩ ⟨by omega, by omega⟩) ?_))|(refine wNl hK ?_;clear hK K))|refine wG ?_|(refine wCR ?_;intro K hK)|fail)
      refine a7A (k + 1, sj) (fun w9 e9 => ⟨he6.trans e9, hkl, ?_⟩) (by dsimp only; omega) (by repeat' (first | exact Sub.nil | refine Sub.val rfl (by first | with_reducible rfl | (congr 1; omega)) ?_ | refine Sub.same rfl ?_))
      dsimp only
      rw [fkA hkl, esA, hF, hM]
      have hlr : ebA [((F : Int), (M : Int))] = n3A F M := by simp [ebA]
      rw [hlr]
      rw [show (((M + 1 : Nat) : Int) - 1) = (M : Int) by omega] at ho6
      exact ho6.ext e9
  · obtain rfl : k = rs.length := by omega
    rw [List.take_length] at ho
    repeat' (first|(refine oLA ?_;first|refine a0A rfl ?_|refine wOp ?_|(refine wCm ?_ ?_<;>intro hc)|(refine wNl hK ?_;clear hK K))|refine wG ?_|(refine wCR ?_;intro K hK)|fail)
    exact alA rfl rfl he (fun u w5 e5 hu' => by obtain rfl : u = _ := hu'; exact ho.ext e5)
theorem gtA {f : FuncId} {args : Array Value} {w : World} {a b a' b' : Value} (ha : a = a') (hb : b = b') (h : Fc Tryz.prog f args w (Ret w (.tup2 (.val a) (.val b)))) : Fc Tryz.prog f args w (Ret w (.tup2 (.val a') (.val b'))) := by
  subst ha; subst hb; exact h
theorem lwA (w : World) (f m x : Int) (hf : 0 ≤ f ∧ f < 65536) (hx : 0 ≤ x ∧ x < 65536) : Fc Tryz.prog 183 #[nnA f m, .int .u16 x] w (Ret w (.val (.int .i64 (f - x)))) := by
  refine Fc.of (args := [_, _]) Tryz.func183 rfl rfl Tryz.ntmps183 (Nat.le_of_ble_eq_true rfl) ?_
  repeat' (first|(refine oLA ?_;first|refine a0A rfl ?_|refine k1A rfl rfl ?_|(refine oD 5 ?_; refine a4A (hK _ _ (byA 2 rfl (fun v1 w1 e1 h1 => ?_))); clear hK K; obtain ⟨bx, hbx, rfl, hbc⟩ := h1; refine amA (by kernel_rfl) (fun K hK => ?_))|(refine oI ?_; refine b7A rfl _ rfl (fun _ => rfl) rfl (by first | exact HasR.val (by assumption) | exact HasR.own | exact HasR.ownV (by assumption)) rfl (by omega) ?_)|(refine oLt 96 ?_; refine anA rfl (fun _ => rfl) (fun _ => rfl) rfl ?_)|(show LA _ _ _ _ (⟨some 99, .alloc _, _, _, _, _⟩ :: _) _; refine a4A (hK _ _ (c7A rfl rfl (by decide) (fun _ => rfl) (fun _ => rfl) (fun _ => rfl) rfl (by intro u hu; simp [Value.cells] at hu; rcases hu with rfl | rfl <;> rfl) (fun bx wx ex hbx hbc => ?_))); clear hK K; refine amA (by kernel_rfl) (fun K hK => ?_))|(refine oF 0 ?_; refine a2A (a := ⟨bx, 0, none⟩) (a' := ⟨bx, 0, none⟩) rfl rfl (fun _ => rfl) ?_)|(refine oF 1 ?_; refine a2A (a := ⟨bx, 0, none⟩) (a' := ⟨bx, 1, none⟩) rfl rfl (fun _ => rfl) ?_)|(refine oLt 96 ?_; refine b6A rfl (fun _ => rfl) (fun _ => rfl) rfl hbc ?_)|(refine oLt 72 ?_; refine a8A rfl (fun _ => rfl) rfl hbc rfl ?_)|(refine cyA ?_; refine bzA rfl _ rfl rfl (by first | exact HasR.val (by assumption) | exact HasR.own | exact HasR.ownV (by assumption)) ?_)|refine wOp ?_|(refine wCm ?_ ?_<;>intro hc)|(refine wNl hK ?_;clear hK K))|refine wG ?_|(refine wCR ?_;intro K hK)|fail)
  exact abA rfl rfl e1 rfl
set_option maxHeartbeats 4000000 in
theorem vfA (w : World) (v : Value) (rs : List Rn) (x : Int) (h : SlR w v rs) (hu : U16 rs) (hx : 0 ≤ x ∧ x < 65536) (hb : rs.length ≤ 4611686018427387903) :
    Fc Tryz.prog 182 #[v, .int .u16 x, .func (.func 183) #[] #[]] w (Ret w (.tup2 (.val (.int .i64 (bsS (rs.map Prod.fst) x))) (.val (.bool (crA (rs.map Prod.fst) x))))) := by
  refine Fc.of (args := [_, _, _]) Tryz.func182 rfl rfl Tryz.ntmps182 (Nat.le_of_ble_eq_true rfl) ?_
  obtain ⟨xs, hxs⟩ : ∃ xs, xs = rs.map Prod.fst := ⟨_, rfl⟩
  have hxl : xs.length = rs.length := by rw [hxs, List.length_map]
  have hget : ∀ k, k < rs.length → xs.getD k 0 = fst rs k := fun k hk => by rw [hxs]; exact fwA hk
  rw [← hxs]
  clear hxs
  repeat' (first|(refine oLA ?_;first|refine a0A rfl ?_|(refine oI ?_; refine b7A rfl _ rfl (fun _ => rfl) rfl (by first | exact HasR.val (by assumption) | exact HasR.own | exact HasR.ownV (by assumption)) rfl (by omega) ?_)|(refine oLt 96 ?_; refine anA rfl (fun _ => rfl) (fun _ => rfl) rfl ?_)|(show LA _ _ _ _ (⟨some 99, .alloc _, _, _, _, _⟩ :: _) _; refine a4A (hK _ _ (c7A rfl rfl (by decide) (fun _ => rfl) (fun _ => rfl) (fun _ => rfl) rfl (by intro u hu; simp [Value.cells] at hu; rcases hu with rfl | rfl <;> rfl) (fun bx wx ex hbx hbc => ?_))); clear hK K; refine amA (by kernel_rfl) (fun K hK => ?_))|(refine oF 0 ?_; refine a2A (a := ⟨bx, 0, none⟩) (a' := ⟨bx, 0, none⟩) rfl rfl (fun _ => rfl) ?_)|(refine oF 1 ?_; refine a2A (a := ⟨bx, 0, none⟩) (a' := ⟨bx, 1, none⟩) rfl rfl (fun _ => rfl) ?_)|(refine oLt 96 ?_; refine b6A rfl (fun _ => rfl) (fun _ => rfl) rfl hbc ?_)|(refine oLt 72 ?_; refine a8A rfl (fun _ => rfl) rfl hbc rfl ?_)|(refine cyA ?_; refine bzA rfl _ rfl rfl (by first | exact HasR.val (by assumption) | exact HasR.own | exact HasR.ownV (by assumption)) ?_)|refine wOp ?_|(refine wCm ?_ ?_<;>intro hc)|(refine wNl hK ?_;clear hK K))|refine wG ?_|(refine wCR ?_;intro K hK)|fail)
  refine b8A (ι := Nat × Nat) (fun k => [(0, .val v), (1, .val (.int .u16 x)), (2, .val (.func (.func 183) #[] #[])), (8, .val (.int .i64 rs.length)), (9, .val (.int .i64 k.1)), (10, .val (.int .i64 k.2))]) (fun k => k.1 ≤ k.2 ∧ k.2 ≤ rs.length ∧ bsGo xs x k.1 k.2 = bsS xs x) (fun k => k.2 - k.1) (0, rs.length)
    ⟨by simp, by simp, by rw [← hxl]; rfl⟩ (by repeat' (first | exact Sub.nil | refine Sub.val rfl (by first | with_reducible rfl | (congr 1; omega)) ?_ | refine Sub.same rfl ?_)) ?_
  rintro ⟨i, j⟩ ⟨h1, h2, h3⟩
  dsimp only at h1 h2 h3 ⊢
  by_cases hij : i < j
  · obtain ⟨m, hm⟩ : ∃ m, m = (i + j) / 2 := ⟨_, rfl⟩
    have hmi : ((i : Int) + j) / 2 = (m : Int) := by omega
    have hml : m < rs.length := by omega
    have hgm := hget m hml
    obtain ⟨u1, u2, u3, u4⟩ := hu.at m
    by_cases hlt : fst rs m < x
    · skip
      repeat' (first|(refine oLA ?_;first|refine a0A rfl ?_|(refine oD 22 ?_; refine ejA rfl rfl rfl (by omega) (by dsimp only [IntKind.bits]; omega) ?_; dsimp only [Int.reduceToNat, Int.reducePow]; rw [hmi])|(refine oD 30 ?_; refine a3A (f := 183) (r1 := .val _) (r2 := .val _) rfl rfl rfl rfl (.val (.int .i64 (fst rs m - x))) (by intro a1 a2 w e ha1 ha2; obtain rfl : a1 = _ := ha1; obtain rfl : a2 = _ := ha2; exact lwA _ _ _ _ ⟨u1, u2⟩ hx) ?_)|(refine oI ?_; refine b7A rfl _ rfl (fun _ => rfl) rfl (by first | exact HasR.val (by assumption) | exact HasR.own | exact HasR.ownV (by assumption)) rfl (by omega) ?_)|(refine oLt 96 ?_; refine anA rfl (fun _ => rfl) (fun _ => rfl) rfl ?_)|(show LA _ _ _ _ (⟨some 99, .alloc _, _, _, _, _⟩ :: _) _; refine a4A (hK _ _ (c7A rfl rfl (by decide) (fun _ => rfl) (fun _ => rfl) (fun _ => rfl) rfl (by intro u hu; simp [Value.cells] at hu; rcases hu with rfl | rfl <;> rfl) (fun bx wx ex hbx hbc => ?_))); clear hK K; refine amA (by kernel_rfl) (fun K hK => ?_))|(refine oF 0 ?_; refine a2A (a := ⟨bx, 0, none⟩) (a' := ⟨bx, 0, none⟩) rfl rfl (fun _ => rfl) ?_)|(refine oF 1 ?_; refine a2A (a := ⟨bx, 0, none⟩) (a' := ⟨bx, 1, none⟩) rfl rfl (fun _ => rfl) ?_)|(refine oLt 96 ?_; refine b6A rfl (fun _ => rfl) (fun _ => rfl) rfl hbc ?_)|(refine oLt 72 ?_; refine a8A rfl (fun _ => rfl) rfl hbc rfl ?_)|(refine cyA ?_; refine bzA rfl _ rfl rfl (by first | exact HasR.val (by assumption) | exact HasR.own | exact HasR.ownV (by assumption)) ?_)|refine wOp ?_|(refine wCm ?_ ?_<;>intro hc)|(refine wNl hK ?_;clear hK K))|refine wG ?_|(refine wCR ?_;intro K hK)|fail)
      refine bpA (m + 1, j) ⟨by dsimp only; omega, h2, ?_⟩ (by dsimp only; omega) (by repeat' (first | exact Sub.nil | refine Sub.val rfl (by first | with_reducible rfl | (congr 1; omega)) ?_ | refine Sub.same rfl ?_))
      rw [← h3]; conv => rhs; rw [bsGo, if_pos hij, ← hm, if_pos (by rw [hgm]; exact hlt)]
    · skip
      repeat' (first|(refine oLA ?_;first|refine a0A rfl ?_|(refine oD 22 ?_; refine ejA rfl rfl rfl (by omega) (by dsimp only [IntKind.bits]; omega) ?_; dsimp only [Int.reduceToNat, Int.reducePow]; rw [hmi])|(refine oD 30 ?_; refine a3A (f := 183) (r1 := .val _) (r2 := .val _) rfl rfl rfl rfl (.val (.int .i64 (fst rs m - x))) (by intro a1 a2 w e ha1 ha2; obtain rfl : a1 = _ := ha1; obtain rfl : a2 = _ := ha2; exact lwA _ _ _ _ ⟨u1, u2⟩ hx) ?_)|(refine oI ?_; refine b7A rfl _ rfl (fun _ => rfl) rfl (by first | exact HasR.val (by assumption) | exact HasR.own | exact HasR.ownV (by assumption)) rfl (by omega) ?_)|(refine oLt 96 ?_; refine anA rfl (fun _ => rfl) (fun _ => rfl) rfl ?_)|(show LA _ _ _ _ (⟨some 99, .alloc _, _, _, _, _⟩ :: _) _; refine a4A (hK _ _ (c7A rfl rfl (by decide) (fun _ => rfl) (fun _ => rfl) (fun _ => rfl) rfl (by intro u hu; simp [Value.cells] at hu; rcases hu with rfl | rfl <;> rfl) (fun bx wx ex hbx hbc => ?_))); clear hK K; refine amA (by kernel_rfl) (fun K hK => ?_))|(refine oF 0 ?_; refine a2A (a := ⟨bx, 0, none⟩) (a' := ⟨bx, 0, none⟩) rfl rfl (fun _ => rfl) ?_)|(refine oF 1 ?_; refine a2A (a := ⟨bx, 0, none⟩) (a' := ⟨bx, 1, none⟩) rfl rfl (fun _ => rfl) ?_)|(refine oLt 96 ?_; refine b6A rfl (fun _ => rfl) (fun _ => rfl) rfl hbc ?_)|(refine oLt 72 ?_; refine a8A rfl (fun _ => rfl) rfl hbc rfl ?_)|(refine cyA ?_; refine bzA rfl _ rfl rfl (by first | exact HasR.val (by assumption) | exact HasR.own | exact HasR.ownV (by assumption)) ?_)|refine wOp ?_|(refine wCm ?_ ?_<;>intro hc)|(refine wNl hK ?_;clear hK K))|refine wG ?_|(refine wCR ?_;intro K hK)|fail)
      refine bpA (i, m) ⟨by dsimp only; omega, by dsimp only; omega, ?_⟩ (by dsimp only; omega) (by repeat' (first | exact Sub.nil | refine Sub.val rfl (by first | with_reducible rfl | (congr 1; omega)) ?_ | refine Sub.same rfl ?_))
      rw [← h3]; conv => rhs; rw [bsGo, if_pos hij, ← hm, if_neg (by rw [hgm]; exact hlt)]
  · have e1 : i = bsS xs x := by rw [← h3, bsGo, if_neg (by omega)]
    by_cases hil : i < rs.length
    · have hgi := hget i hil
      obtain ⟨u1, u2, u3, u4⟩ := hu.at i
      by_cases heq : fst rs i = x
      · have hf : crA xs x = true := by unfold crA; rw [← e1, decide_eq_true ⟨by omega, by rw [hgi]; exact heq⟩]
        rw [hf]
        repeat' (first|(refine oLA ?_;first|refine a0A rfl ?_|(refine oD 46 ?_; refine a3A (f := 183) (r1 := .val _) (r2 := .val _) rfl rfl rfl rfl (.val (.int .i64 (fst rs i - x))) (by intro a1 a2 w e ha1 ha2; obtain rfl : a1 = _ := ha1; obtain rfl : a2 = _ := ha2; exact lwA _ _ _ _ ⟨u1, u2⟩ hx) ?_)|(refine oI ?_; refine b7A rfl _ rfl (fun _ => rfl) rfl (by first | exact HasR.val (by assumption) | exact HasR.own | exact HasR.ownV (by assumption)) rfl (by omega) ?_)|(refine oLt 96 ?_; refine anA rfl (fun _ => rfl) (fun _ => rfl) rfl ?_)|(show LA _ _ _ _ (⟨some 99, .alloc _, _, _, _, _⟩ :: _) _; refine a4A (hK _ _ (c7A rfl rfl (by decide) (fun _ => rfl) (fun _ => rfl) (fun _ => rfl) rfl (by intro u hu; simp [Value.cells] at hu; rcases hu with rfl | rfl <;> rfl) (fun bx wx ex hbx hbc => ?_))); clear hK K; refine amA (by kernel_rfl) (fun K hK => ?_))|(refine oF 0 ?_; refine a2A (a := ⟨bx, 0, none⟩) (a' := ⟨bx, 0, none⟩) rfl rfl (fun _ => rfl) ?_)|(refine oF 1 ?_; refine a2A (a := ⟨bx, 0, none⟩) (a' := ⟨bx, 1, none⟩) rfl rfl (fun _ => rfl) ?_)|(refine oLt 96 ?_; refine b6A rfl (fun _ => rfl) (fun _ => rfl) rfl hbc ?_)|(refine oLt 72 ?_; refine a8A rfl (fun _ => rfl) rfl hbc rfl ?_)|(refine cyA ?_; refine bzA rfl _ rfl rfl (by first | exact HasR.val (by assumption) | exact HasR.own | exact HasR.ownV (by assumption)) ?_)|refine wOp ?_|(refine wCm ?_ ?_<;>intro hc)|(refine wNl hK ?_;clear hK K))|refine wG ?_|(refine wCR ?_;intro K hK)|(refine oPX ?_;first|exact edA rfl rfl rfl (Ext.refl _) (by rw [e1]) rfl)|fail)
      · have hf : crA xs x = false := by unfold crA; rw [← e1]; exact decide_eq_false (fun hh => heq (by rw [← hgi]; exact hh.2))
        rw [hf]
        repeat' (first|(refine oLA ?_;first|refine a0A rfl ?_|(refine oD 46 ?_; refine a3A (f := 183) (r1 := .val _) (r2 := .val _) rfl rfl rfl rfl (.val (.int .i64 (fst rs i - x))) (by intro a1 a2 w e ha1 ha2; obtain rfl : a1 = _ := ha1; obtain rfl : a2 = _ := ha2; exact lwA _ _ _ _ ⟨u1, u2⟩ hx) ?_)|(refine oI ?_; refine b7A rfl _ rfl (fun _ => rfl) rfl (by first | exact HasR.val (by assumption) | exact HasR.own | exact HasR.ownV (by assumption)) rfl (by omega) ?_)|(refine oLt 96 ?_; refine anA rfl (fun _ => rfl) (fun _ => rfl) rfl ?_)|(show LA _ _ _ _ (⟨some 99, .alloc _, _, _, _, _⟩ :: _) _; refine a4A (hK _ _ (c7A rfl rfl (by decide) (fun _ => rfl) (fun _ => rfl) (fun _ => rfl) rfl (by intro u hu; simp [Value.cells] at hu; rcases hu with rfl | rfl <;> rfl) (fun bx wx ex hbx hbc => ?_))); clear hK K; refine amA (by kernel_rfl) (fun K hK => ?_))|(refine oF 0 ?_; refine a2A (a := ⟨bx, 0, none⟩) (a' := ⟨bx, 0, none⟩) rfl rfl (fun _ => rfl) ?_)|(refine oF 1 ?_; refine a2A (a := ⟨bx, 0, none⟩) (a' := ⟨bx, 1, none⟩) rfl rfl (fun _ => rfl) ?_)|(refine oLt 96 ?_; refine b6A rfl (fun _ => rfl) (fun _ => rfl) rfl hbc ?_)|(refine oLt 72 ?_; refine a8A rfl (fun _ => rfl) rfl hbc rfl ?_)|(refine cyA ?_; refine bzA rfl _ rfl rfl (by first | exact HasR.val (by assumption) | exact HasR.own | exact HasR.ownV (by assumption)) ?_)|refine wOp ?_|(refine wCm ?_ ?_<;>intro hc)|(refine wNl hK ?_;clear hK K))|refine wG ?_|(refine wCR ?_;intro K hK)|(refine oPX ?_;first|exact edA rfl rfl rfl (Ext.refl _) (by rw [e1]) rfl)|fail)
    · have hf : crA xs x = false := by unfold crA; rw [← e1]; exact decide_eq_false (fun hh => hil (by omega))
      rw [hf]
      repeat' (first|(refine oLA ?_;first|refine a0A rfl ?_|(refine oI ?_; refine b7A rfl _ rfl (fun _ => rfl) rfl (by first | exact HasR.val (by assumption) | exact HasR.own | exact HasR.ownV (by assumption)) rfl (by omega) ?_)|(refine oLt 96 ?_; refine anA rfl (fun _ => rfl) (fun _ => rfl) rfl ?_)|(show LA _ _ _ _ (⟨some 99, .alloc _, _, _, _, _⟩ :: _) _; refine a4A (hK _ _ (c7A rfl rfl (by decide) (fun _ => rfl) (fun _ => rfl) (fun _ => rfl) rfl (by intro u hu; simp [Value.cells] at hu; rcases hu with rfl | rfl <;> rfl) (fun bx wx ex hbx hbc => ?_))); clear hK K; refine amA (by kernel_rfl) (fun K hK => ?_))|(refine oF 0 ?_; refine a2A (a := ⟨bx, 0, none⟩) (a' := ⟨bx, 0, none⟩) rfl rfl (fun _ => rfl) ?_)|(refine oF 1 ?_; refine a2A (a := ⟨bx, 0, none⟩) (a' := ⟨bx, 1, none⟩) rfl rfl (fun _ => rfl) ?_)|(refine oLt 96 ?_; refine b6A rfl (fun _ => rfl) (fun _ => rfl) rfl hbc ?_)|(refine oLt 72 ?_; refine a8A rfl (fun _ => rfl) rfl hbc rfl ?_)|(refine cyA ?_; refine bzA rfl _ rfl rfl (by first | exact HasR.val (by assumption) | exact HasR.own | exact HasR.ownV (by assumption)) ?_)|refine wOp ?_|(refine wCm ?_ ?_<;>intro hc)|(refine wNl hK ?_;clear hK K))|refine wG ?_|(refine wCR ?_;intro K hK)|(refine oPX ?_;first|exact edA rfl rfl rfl (Ext.refl _) (by rw [e1]) rfl)|fail)
set_option maxHeartbeats 4000000 in
theorem u8A (w : World) (v : Value) (rs : List Rn) (x : Nat) (h : SlR w v rs) (hu : U16 rs) (hr : Right rs) (hx : x < 65536) (hb : rs.length ≤ 70000) : Fc Tryz.prog 147 #[v, .int .u16 x] w (Ret w (.val (.bool (inR rs x)))) := by
  rw [← has_eq hr hu x]
  obtain ⟨i, hi⟩ : ∃ i, i = bsS (rs.map Prod.fst) (x : Int) := ⟨_, rfl⟩
  obtain ⟨f, hf⟩ : ∃ f, f = crA (rs.map Prod.fst) (x : Int) := ⟨_, rfl⟩
  have hil : i ≤ rs.length := by have := m8A (rs.map Prod.fst) (x : Int); rw [List.length_map] at this; omega
  have hH : hasR rs x = (f || (decide (0 < i) && decide ((x : Int) < fst rs (i - 1) + mor rs (i - 1) + 1))) := by unfold hasR; rw [← hi, ← hf]
  rw [hH]
  clear hH
  obtain ⟨u1, u2, u3, u4⟩ := hu.at (i - 1)
  refine Fc.of (args := [_, _]) Tryz.func147 rfl rfl Tryz.ntmps147 (Nat.le_of_ble_eq_true rfl) ?_
  cases hfv : f
  · by_cases hi0 : 0 < i
    · obtain ⟨j, rfl⟩ : ∃ j, i = j + 1 := ⟨i - 1, by omega⟩
      rw [Nat.add_sub_cancel] at u1 u2 u3 u4 ⊢
      have hji : (((j + 1 : Nat) : Int) - 1) = (j : Int) := by omega
      by_cases hin : (x : Int) < fst rs j + mor rs j + 1
      all_goals
        repeat' (first|(refine oLA ?_;first|refine a0A rfl ?_|(refine oD 22 ?_; refine a9A rfl rfl rfl (by dsimp only [fits]; omega) ?_; rw [hji])|(refine oI ?_; refine b7A rfl _ rfl (fun _ => rfl) rfl (by first | exact HasR.val (by assumption) | exact HasR.own | exact HasR.ownV (by assumption)) rfl (by omega) ?_)|(refine oLt 96 ?_; refine anA rfl (fun _ => rfl) (fun _ => rfl) rfl ?_)|(show LA _ _ _ _ (⟨some 99, .alloc _, _, _, _, _⟩ :: _) _; refine a4A (hK _ _ (c7A rfl rfl (by decide) (fun _ => rfl) (fun _ => rfl) (fun _ => rfl) rfl (by intro u hu; simp [Value.cells] at hu; rcases hu with rfl | rfl <;> rfl) (fun bx wx ex hbx hbc => ?_))); clear hK K; refine amA (by kernel_rfl) (fun K hK => ?_))|(refine oF 0 ?_; refine a2A (a := ⟨bx, 0, none⟩) (a' := ⟨bx, 0, none⟩) rfl rfl (fun _ => rfl) ?_)|(refine oF 1 ?_; refine a2A (a := ⟨bx, 0, none⟩) (a' := ⟨bx, 1, none⟩) rfl rfl (fun _ => rfl) ?_)|(refine oLt 96 ?_; refine b6A rfl (fun _ => rfl) (fun _ => rfl) rfl hbc ?_)|(refine oLt 72 ?_; refine a8A rfl (fun _ => rfl) rfl hbc rfl ?_)|(refine cyA ?_; refine bzA rfl _ rfl rfl (by first | exact HasR.val (by assumption) | exact HasR.own | exact HasR.ownV (by assumption)) ?_)|refine wOp ?_|(refine wCm ?_ ?_<;>intro hc)|(refine oCv ?_;first|(refine oC 182 ?_; refine bhA (f := 182) rfl rfl rfl rfl rfl  (.tup2 (.val (.int .i64 ((j + 1 : Nat) : Int))) (.val (.bool false))) (by intro u1 u2 u3 w e hu1 hu2 hu3; (try obtain rfl : u1 = _ := hu1); (try obtain rfl : u2 = _ := hu2); (try obtain rfl : u3 = _ := hu3); exact gtA (by rw [hi]) (by rw [← hf, hfv]) (vfA _ _ rs x (h.ext e) hu ⟨by omega, by omega⟩ (by omega))) ?_)|(refine oC 125 ?_; refine a1A (f := 125) rfl rfl rfl  (.val (.int .i64 (fst rs j + mor rs j + 1))) (by intro u1 w e hu1; (try obtain rfl : u1 = _ := hu1); exact rhA _ (fst rs j) (mor rs j) ⟨u1, u2⟩ ⟨u3, u4⟩) ?_))|(refine wNl hK ?_;clear hK K))|refine wG ?_|(refine wCR ?_;intro K hK)|(refine oPX ?_;first|exact abA rfl rfl (Ext.refl _) (by simp [hin]))|fail)
    · obtain rfl : i = 0 := by omega
      repeat' (first|(refine oLA ?_;first|refine a0A rfl ?_|refine wOp ?_|(refine wCm ?_ ?_<;>intro hc)|(refine oCv ?_;first|(refine oC 182 ?_; refine bhA (f := 182) rfl rfl rfl rfl rfl  (.tup2 (.val (.int .i64 ((0 : Nat) : Int))) (.val (.bool false))) (by intro u1 u2 u3 w e hu1 hu2 hu3; (try obtain rfl : u1 = _ := hu1); (try obtain rfl : u2 = _ := hu2); (try obtain rfl : u3 = _ := hu3); exact gtA (by rw [hi]) (by rw [← hf, hfv]) (vfA _ _ rs x (h.ext e) hu ⟨by omega, by omega⟩ (by omega))) ?_))|(refine wNl hK ?_;clear hK K))|refine wG ?_|(refine wCR ?_;intro K hK)|(refine oPX ?_;first|exact abA rfl rfl (Ext.refl _) (by simp))|fail)
  · skip
    repeat' (first|(refine oLA ?_;first|refine a0A rfl ?_|refine wOp ?_|(refine wCm ?_ ?_<;>intro hc)|(refine oCv ?_;first|(refine oC 182 ?_; refine bhA (f := 182) rfl rfl rfl rfl rfl  (.tup2 (.val (.int .i64 (i : Int))) (.val (.bool true))) (by intro u1 u2 u3 w e hu1 hu2 hu3; (try obtain rfl : u1 = _ := hu1); (try obtain rfl : u2 = _ := hu2); (try obtain rfl : u3 = _ := hu3); exact gtA (by rw [hi]) (by rw [← hf, hfv]) (vfA _ _ rs x (h.ext e) hu ⟨by omega, by omega⟩ (by omega))) ?_))|(refine wNl hK ?_;clear hK K))|refine wG ?_|(refine wCR ?_;intro K hK)|(refine oPX ?_;first|exact abA rfl rfl (Ext.refl _) (by simp))|fail)
end Go.Proofs.YtfcioiobhpcngaaGreatDoor
end
section
set_option linter.unusedSimpArgs false
set_option linter.unusedVariables false
namespace Go.LA
open Go.RowKit
def Clb (P : Program) (fv : Value) (args : List Value) (w : World) (R : Ending → World → Prop) : Prop :=
  ∃ f first captured, fv = .func (.func f) first captured ∧ Fc P f (first ++ args.toArray ++ captured) w R
theorem Clb.of {P : Program} {f : FuncId} {args : List Value} {w : World} {R : Ending → World → Prop} (h : Fc P f args.toArray w R) : Clb P (.func (.func f) #[] #[]) args w R :=
  ⟨f, #[], #[], rfl, by simpa using h⟩
theorem Clb.of1 {P : Program} {f : FuncId} {x c : Value} {w : World} {R : Ending → World → Prop} (h : Fc P f #[x, c] w R) : Clb P (.func (.func f) #[] #[c]) [x] w R :=
  ⟨f, #[], #[c], rfl, h⟩
section
variable {P : Program} {l : List Oper} {N : Nat} {wb : World} {K : List Oper → Env → Prop} {rest : List Oper} {E : Env} {Q : Exit → Act → World → Prop}
variable {d : Tmp} {ty t t' : TypeId} {pos : String} {after : Array Edge} {g : Option (Nat × Bool)} {x y z : Operand} {k k' : IntKind}
theorem g9A {f : FuncId} {first cap : Array Value} {args : Array Operand} {ats : Array TypeId} {w : World} {ρ : Operand → Value} {fv : Operand} (hfv : ρ fv = .func (.func f) first cap) (hf : (callFunc f (first ++ args.map ρ ++ cap)).run P w = .ok (.enter f (first ++ args.map ρ ++ cap)) w) :
    (execOp ρ ⟨some d, .call ⟨.value fv, args, ats⟩, ty, pos, after, g⟩).run P w = .ok (.enter f (first ++ args.map ρ ++ cap)) w := by
  simp only [execOp, resolve, Deferred.ofValue, hfv, Sem.run_bind, Sem.run_pure, Result.andThen_ok, invoke]
  simpa using hf
theorem f1A {ats : Array TypeId} {fv : Operand} {rf r1 : AD} (hg : b5A l E g = some true) (hfv : opE E fv = rf) (hu1 : opE E x = r1) (r : AD)
    (hc : ∀ vf u1 w, Ext wb w → rf.ok vf w → r1.ok u1 w → Clb P vf [u1] w (Ret w r))
    (h : LA P l wb K rest ((d, r) :: E)) : LA P l wb K (⟨some d, .call ⟨.value fv, #[x], ats⟩, ty, pos, after, g⟩ :: rest) E :=
  b0A r hg (fun a w he hh => by
    have h1 := hh fv (by simp [Op.operands, Call.operands])
    rw [hfv] at h1
    have eu1 := hh x (by simp [Op.operands, Call.operands])
    rw [hu1] at eu1
    obtain ⟨f, first, cap, hf, hcall⟩ := hc _ _ w he h1 eu1
    rw [g9A hf (hcall.run _ _)]
    refine ⟨rfl, ?_⟩; simp only [List.map_toArray, List.map_cons, List.map_nil]; exact hcall.calls) h
theorem jzA {ats : Array TypeId} {fv : Operand} {rf r1 r2 : AD} (hg : b5A l E g = some true) (hfv : opE E fv = rf) (hu1 : opE E x = r1) (hu2 : opE E y = r2) (r : AD)
    (hc : ∀ vf u1 u2 w, Ext wb w → rf.ok vf w → r1.ok u1 w → r2.ok u2 w → Clb P vf [u1, u2] w (Ret w r))
    (h : LA P l wb K rest ((d, r) :: E)) : LA P l wb K (⟨some d, .call ⟨.value fv, #[x, y], ats⟩, ty, pos, after, g⟩ :: rest) E :=
  b0A r hg (fun a w he hh => by
    have h1 := hh fv (by simp [Op.operands, Call.operands])
    rw [hfv] at h1
    have eu1 := hh x (by simp [Op.operands, Call.operands])
    rw [hu1] at eu1
    have eu2 := hh y (by simp [Op.operands, Call.operands])
    rw [hu2] at eu2
    obtain ⟨f, first, cap, hf, hcall⟩ := hc _ _ _ w he h1 eu1 eu2
    rw [g9A hf (hcall.run _ _)]
    refine ⟨rfl, ?_⟩; simp only [List.map_toArray, List.map_cons, List.map_nil]; exact hcall.calls) h
def holds (f : FuncId) (r : AD) : AV := ⟨fun v w => ∃ c, v = .func (.func f) #[] #[c] ∧ r.ok c w, fun _ _ _ e ⟨c, h1, h2⟩ => ⟨c, h1, r.mono e h2⟩⟩
theorem j6A {f : FuncId} {r : AD} (hg : b5A l E g = some true) (hx : opE E x = r) (h : LA P l wb K rest ((d, .pred (holds f r)) :: E)) : LA P l wb K (⟨some d, .makeFunc (.func f) #[] #[x], ty, pos, after, g⟩ :: rest) E :=
  b0A _ hg (fun a w he hh => by
    have h1 := hh x (by simp [Op.operands])
    rw [hx] at h1
    simp only [execOp, Instr.makeFunc, List.map_toArray, List.map_cons, List.map_nil, Sem.run_bind, Sem.run_pure, Result.andThen_ok]
    exact ⟨Ext.refl _, _, rfl, h1⟩) h
theorem l0A {e : TypeId} {c : Value} (hg : b5A l E g = some true) (hx : opE E x = .val c) (h : LA P l wb K rest ((d, .pred (guA c.cells.toList)) :: E)) :
    LA P l wb K (⟨some d, .box e x, ty, pos, after, g⟩ :: rest) E :=
  b0A _ hg (fun a w he hh => by
    have h0 := hh x (by simp [Op.operands])
    rw [hx] at h0; simp only [AD.ok] at h0
    have hrun : (Instr.box e c).run P w = .ok (.pointer (some ⟨w.heap.size, 0, none⟩)) (w.alloc (.cells c.cells e)) := rfl
    simp only [execOp, h0, Sem.run_bind, hrun, Result.andThen_ok, Sem.run_pure]
    refine ⟨Ext.alloc _ _, _, rfl, fun j u hu => ?_⟩
    rw [Addr.add_lit, cell_of_row _ w.heap.size _ c.cells e (0, 0) (heap_alloc_new w _)]
    simpa using hu) h
theorem pwA {e : TypeId} {c0 c1 c2 c3 : Value} (hg : b5A l E g = some true) (hx : opE E x = .val (.agg #[c0, c1, c2, c3])) (h : LA P l wb K rest ((d, .pred (guA [c0, c1, c2, c3])) :: E)) :
    LA P l wb K (⟨some d, .box e x, ty, pos, after, g⟩ :: rest) E := l0A hg hx h
theorem w2A {e : TypeId} {c0 c1 c2 : Value} (hg : b5A l E g = some true) (hx : opE E x = .val (.agg #[c0, c1, c2])) (h : LA P l wb K rest ((d, .pred (guA [c0, c1, c2])) :: E)) :
    LA P l wb K (⟨some d, .box e x, ty, pos, after, g⟩ :: rest) E := l0A hg hx h
theorem mgA {c0 c1 c2 c3 : Value} (hg : b5A l E g = some true) (ht : ∀ w, (isAgg t).run P w = .ok true w) (hs : ∀ w, (sizeOf t).run P w = .ok 4 w) (hx : opE E x = .pred (guA [c0, c1, c2, c3])) (h : LA P l wb K rest ((d, .val (.agg #[c0, c1, c2, c3])) :: E)) :
    LA P l wb K (⟨some d, .load t x, ty, pos, after, g⟩ :: rest) E := anA (cs := [c0, c1, c2, c3]) hg ht hs hx h
theorem fqA {c0 c1 c2 c3 : Value} (f : Nat) (hg : b5A l E g = some true) (hx : opE E x = .pred (guA [c0, c1, c2, c3])) (hr : ∀ (a : Addr) w, (Instr.fieldAt t (.pointer (some a)) f).run P w = .ok (.pointer (some (a.add f))) w)
    (h : LA P l wb K rest ((d, .pred (guA [([c0, c1, c2, c3] : List Value).getD f undef])) :: E)) (hf : f < 4) : LA P l wb K (⟨some d, .fieldAddr t x f, ty, pos, after, g⟩ :: rest) E :=
  b0A _ hg (fun ac w he hh => by
    have e1 := hh x (by simp [Op.operands])
    rw [hx] at e1
    obtain ⟨p, hv, hc⟩ := e1
    simp only [execOp, Sem.run_bind, hv, hr, Result.andThen_ok, Sem.run_pure]
    refine ⟨Ext.refl _, _, rfl, fun j c hj => ?_⟩
    have h0 : j = 0 := by
      rcases j with _ | j
      · rfl
      · simp at hj
    subst h0
    have e0 : (p.add f).add 0 = p.add f := Addr.add_zero' _
    rw [e0]
    refine hc f c ?_
    simp only [List.getElem?_cons_zero, Option.some.injEq] at hj
    rw [← hj, List.getD_eq_getElem?_getD, List.getElem?_eq_getElem (by simpa using hf)]
    rfl) h
theorem oBx {e : TypeId} (h : LA P l wb K (⟨some d, .box e x, ty, pos, after, g⟩ :: rest) E) : LA P l wb K (⟨some d, .box e x, ty, pos, after, g⟩ :: rest) E := h
theorem oFa {f : Nat} (h : LA P l wb K (⟨some d, .fieldAddr t x f, ty, pos, after, g⟩ :: rest) E) : LA P l wb K (⟨some d, .fieldAddr t x f, ty, pos, after, g⟩ :: rest) E := h
theorem oLd (h : LA P l wb K (⟨some d, .load t x, ty, pos, after, g⟩ :: rest) E) : LA P l wb K (⟨some d, .load t x, ty, pos, after, g⟩ :: rest) E := h
theorem dfA {G' G : Prop} (g : G') (h : G' → G := by
  intro h
  first
  | (refine oBx ?_; first | exact pwA rfl rfl h | exact w2A rfl rfl h)
  | (refine oFa ?_; first | exact fqA 0 rfl rfl (fun _ _ => rfl) h (by decide) | exact fqA 1 rfl rfl (fun _ _ => rfl) h (by decide) | exact fqA 2 rfl rfl (fun _ _ => rfl) h (by decide) | exact fqA 3 rfl rfl (fun _ _ => rfl) h (by decide))
  | (refine oLd ?_; exact mgA rfl (fun _ => rfl) (fun _ => rfl) rfl h)) : G := h g
def mapA (c : Value → Value) (φ : AV) : AV := ⟨fun v w => ∃ u, v = c u ∧ φ.p u w, fun _ _ _ e ⟨u, h1, h2⟩ => ⟨u, h1, φ.mono _ _ _ e h2⟩⟩
theorem acA {x0 x1 : Operand} {v0 : Value} {φ : AV} {j0 j1 : Nat} {c : Value → Value} (hg : b5A l E g = some true) (h0 : opE E x0 = .val v0) (h1 : opE E x1 = .pred φ) (hr : ∀ v1 w, φ.p v1 w → (Instr.build t #[(j0, v0), (j1, v1)]).run P w = .ok (c v1) w)
    (h : LA P l wb K rest ((d, .pred (mapA c φ)) :: E)) : LA P l wb K (⟨some d, .build t #[(j0, x0), (j1, x1)], ty, pos, after, g⟩ :: rest) E :=
  b0A _ hg (fun a w he hh => by
    have e0 := hh x0 (by simp [Op.operands]); have e1 := hh x1 (by simp [Op.operands])
    rw [h0] at e0; rw [h1] at e1; simp only [AD.ok] at e0 e1
    simp only [execOp, List.map_toArray, List.map_cons, List.map_nil, e0, Sem.run_bind, hr _ _ e1, Result.andThen_ok, Sem.run_pure]
    exact ⟨Ext.refl _, _, rfl, e1⟩) h
end
def rpA (n : Nat) (e : TypeId) (φ : AV) : AV := ⟨fun v w => ∃ b cs, v = .pointer (some ⟨b, 0, none⟩) ∧ w.heap[b]? = some (.cells cs e (0, 0)) ∧ cs.size = n ∧ φ.p (.agg cs) w,
  fun _ _ _ x ⟨b, cs, h1, h2, h3, h4⟩ => ⟨b, cs, h1, x.block h2, h3, φ.mono _ _ _ x h4⟩⟩
structure Lays (φ : AV) (n : Nat) (e : TypeId) : Prop where
  shape : ∀ v w, φ.p v w → ∃ cs, v = .agg cs ∧ cs.size = n ∧ ∀ u ∈ cs.toList, u.oneCell' = true
  stays : ∀ v w b cur j cs, φ.p v w → w.heap[b]? = some (.cells cur e j) → φ.p v (w.setRow b cs)
section
variable {P : Program} {l : List Oper} {N : Nat} {wb : World} {K : List Oper → Env → Prop} {rest : List Oper} {E : Env} {Q : Exit → Act → World → Prop}
variable {d : Tmp} {ty t t' : TypeId} {pos : String} {after : Array Edge} {g : Option (Nat × Bool)} {x y z : Operand} {k k' : IntKind}
theorem bvA {φ : AV} {r : AD} {q : Tmp} {w0 : World} {cs0 : Array Value} {e : TypeId} {n : Nat} (hg : g = none) (hx : opE E (.tmp q) = .pred (t4A w0.heap.size cs0 e)) (hy : opE E y = r) (hl : Lays φ n e) (hr : ∀ v w, Ext wb w → r.ok v w → φ.p v w) (hn : cs0.size = n)
    (hs : ∀ w, (sizeOf t).run P w = .ok n w) (he : Ext w0 wb) (h : ∀ w', Ext w0 w' → LX P N w' l Q rest ((q, .pred (rpA n e φ)) :: vals E)) : LX P N wb l Q (⟨none, .store t (.tmp q) y, ty, pos, after, g⟩ :: rest) E := by
  unfold LX
  intro a w st
  have e1 := st.opd (.tmp q); rw [hx] at e1
  have e2 := st.opd y; rw [hy] at e2
  obtain ⟨b, hb0, hv, hb⟩ := e1
  have hp := hr _ _ st.ext e2
  obtain ⟨cs, hc, hcn, h1⟩ := hl.shape _ _ hp
  rw [hc] at hp
  have hfit : cs.size = cs0.size := by rw [hcn, hn]
  have hrun : (Instr.storeAt t (.pointer (some ⟨b, 0, none⟩)) (.agg cs)).run P w = .ok () (w.setRow b cs) := by
    have hst := run_storeCells_at P b 0 e cs.toList 0 cs0 w hb (by simp [hfit]) h1
    have e3 : (cs0.toList.take (0 + 0) ++ cs.toList ++ cs0.toList.drop (0 + 0 + cs.toList.length)).toArray = cs := by
      rw [List.drop_eq_nil_of_le (by simp [hfit])]; simp
    rw [e3] at hst
    have hs' : ∀ w, (sizeOf t).run P w = .ok cs.size w := fun w => by rw [hcn]; exact hs w
    simp only [Instr.storeAt, Instr.sureAddr, storeVar, Sem.run_bind, Sem.run_pure, Result.andThen_ok, Value.cells, hs', ne_eq, not_true_eq_false, if_false, hst]
  refine wpList_plain hg fun Kc hK => ?_
  unfold Oper.wp
  simp only [execOp, Sem.run_bind, hv, hc, hrun, Result.andThen_ok, Sem.run_pure, Oper.upon]
  refine hK _ _ ?_
  have x2 : Ext w0 (w.setRow b cs) := (he.trans st.ext).setRow hb0 _
  have h2 := h _ x2
  unfold LX at h2
  refine h2 _ _ ?_
  have sv := st.vals (w' := w.setRow b cs)
  refine ⟨sv.sz, sv.df, Ext.refl _, fun u => ?_⟩
  rw [btA]
  split
  · rename_i hu
    subst hu
    exact ⟨b, cs, hv, setRow_heap w b _ _ _ (0, 0) hb, hcn, hl.stays _ _ b _ _ cs hp hb⟩
  · exact sv.sat u
theorem mdA {b o m c : Nat} {cur : Array Value} {e e' : TypeId} {z : Value} (hg : g = none) (ht : P.underlying t = some (.slice e')) (hz : ∀ w, (zeroValue e').run P w = .ok z w) (hz1 : z.cells = #[z]) (hz2 : z.oneCell' = true) (hx : opE E x = .val (.slice (some ⟨b, o, none⟩) m c))
    (hb : wb.heap[b]? = some (.cells cur e (0, 0))) (hle : o + m ≤ cur.size) (h : ∀ w cur', Ext wb w → cur'.size = cur.size → cur'.toList.take o = cur.toList.take o → LX P N (w.setRow b cur') l Q rest (vals E)) :
    LX P N wb l Q (⟨none, .call ⟨.builtin .clear, #[x], #[t]⟩, ty, pos, after, g⟩ :: rest) E := by
  unfold LX
  intro a w st
  have e1 := st.opd x; rw [hx] at e1; simp only [AD.ok] at e1
  have hbw := st.ext.block hb
  refine wpList_plain hg fun Kc hK => ?_
  unfold Oper.wp
  by_cases hm : m = 0
  · subst hm
    have hrun : (Builtin.clear_ #[t] ty #[.slice (some ⟨b, o, none⟩) 0 c]).run P w = .ok (.tuple #[]) w := by
      simp [Builtin.clear_, run_underlying ht]
    simp only [execOp, resolve, invoke, builtin, Sem.run_bind, Sem.run_pure, Result.andThen_ok, List.map_toArray, List.map_cons, List.map_nil, e1, hrun, Oper.upon]
    refine hK _ _ ?_
    have h2 := h w cur st.ext rfl rfl
    rw [setRow_self w b cur e (0, 0) hbw] at h2
    unfold LX at h2
    exact h2 _ _ (st.vals (w' := w))
  · have hzl : ∀ u ∈ (Builtin.zeroCells z.cells m).toList, u.oneCell' = true := fun u hu => by
      rw [hz1] at hu
      simp only [Builtin.zeroCells, Array.toList_map, List.mem_map] at hu
      obtain ⟨i, _, rfl⟩ := hu
      simp [Nat.mod_one, hz2]
    have hzn : (Builtin.zeroCells z.cells m).toList.length = m := by rw [hz1]; simp [Builtin.zeroCells]
    have hst := run_storeCells_at P b o e (Builtin.zeroCells z.cells m).toList 0 cur w hbw (by rw [hzn]; omega) hzl
    have hrun : (Builtin.clear_ #[t] ty #[.slice (some ⟨b, o, none⟩) m c]).run P w = .ok (.tuple #[]) (w.setRow b (cur.toList.take (o + 0) ++ (Builtin.zeroCells z.cells m).toList ++ cur.toList.drop (o + 0 + (Builtin.zeroCells z.cells m).toList.length)).toArray) := by
      obtain ⟨m', rfl⟩ : ∃ m', m = m' + 1 := ⟨m - 1, by omega⟩
      simp [Builtin.clear_, run_underlying ht, hz, hst]
    simp only [execOp, resolve, invoke, builtin, Sem.run_bind, Sem.run_pure, Result.andThen_ok, List.map_toArray, List.map_cons, List.map_nil, e1, hrun, Oper.upon]
    refine hK _ _ ?_
    have hlen : o ≤ cur.toList.length := by simp; omega
    have h2 := h w (cur.toList.take (o + 0) ++ (Builtin.zeroCells z.cells m).toList ++ cur.toList.drop (o + 0 + (Builtin.zeroCells z.cells m).toList.length)).toArray st.ext
      (by rw [hzn]; simp only [List.size_toArray, List.length_append, List.length_take, List.length_drop, hzn, Array.length_toList]; simp at hlen; omega)
      (by simp only [Nat.add_zero, List.append_assoc]; rw [List.take_append_of_le_length (by simp; simp at hlen; omega), List.take_take, Nat.min_self])
    unfold LX at h2
    exact h2 _ _ (st.vals (w' := _))
theorem vqA {φ : AV} {r : AD} {q : Tmp} {w0 : World} {cs0 : Array Value} {b e : Nat} {n : Nat} (hg : g = none) (hx : opE E (.tmp q) = .val (.pointer (some ⟨b, 0, none⟩))) (hb0 : w0.heap.size ≤ b) (hb : wb.heap[b]? = some (.cells cs0 e (0, 0))) (hy : opE E y = r) (hl : Lays φ n e) (hr : ∀ v w, Ext wb w → r.ok v w → φ.p v w) (hn : cs0.size = n)
    (hs : ∀ w, (sizeOf t).run P w = .ok n w) (he : Ext w0 wb) (h : ∀ w', Ext w0 w' → LX P N w' l Q rest ((q, .pred (rpA n e φ)) :: vals E)) : LX P N wb l Q (⟨none, .store t (.tmp q) y, ty, pos, after, g⟩ :: rest) E := by
  unfold LX
  intro a w st
  have e1 := st.opd (.tmp q); rw [hx] at e1; simp only [AD.ok] at e1
  have e2 := st.opd y; rw [hy] at e2
  have hp := hr _ _ st.ext e2
  have hbw := st.ext.block hb
  obtain ⟨cs, hc, hcn, h1⟩ := hl.shape _ _ hp
  rw [hc] at hp
  have hfit : cs.size = cs0.size := by rw [hcn, hn]
  have hrun : (Instr.storeAt t (.pointer (some ⟨b, 0, none⟩)) (.agg cs)).run P w = .ok () (w.setRow b cs) := by
    have hst := run_storeCells_at P b 0 e cs.toList 0 cs0 w hbw (by simp [hfit]) h1
    have e3 : (cs0.toList.take (0 + 0) ++ cs.toList ++ cs0.toList.drop (0 + 0 + cs.toList.length)).toArray = cs := by
      rw [List.drop_eq_nil_of_le (by simp [hfit])]; simp
    rw [e3] at hst
    have hs' : ∀ w, (sizeOf t).run P w = .ok cs.size w := fun w => by rw [hcn]; exact hs w
    simp only [Instr.storeAt, Instr.sureAddr, storeVar, Sem.run_bind, Sem.run_pure, Result.andThen_ok, Value.cells, hs', ne_eq, not_true_eq_false, if_false, hst]
  refine wpList_plain hg fun Kc hK => ?_
  unfold Oper.wp
  simp only [execOp, Sem.run_bind, e1, hc, hrun, Result.andThen_ok, Sem.run_pure, Oper.upon]
  refine hK _ _ ?_
  have h2 := h (w.setRow b cs) ((he.trans st.ext).setRow hb0 _)
  unfold LX at h2
  refine h2 _ _ ?_
  have sv := st.vals (w' := w.setRow b cs)
  refine ⟨sv.sz, sv.df, Ext.refl _, fun u => ?_⟩
  rw [btA]
  split
  · rename_i hu
    subst hu
    exact ⟨b, cs, e1, setRow_heap w b _ _ _ (0, 0) hbw, hcn, hl.stays _ _ b _ _ cs hp hbw⟩
  · exact sv.sat u
theorem bxA {fn : Func} {w0 : World} {φ : AV} {p n : Nat} {e : TypeId} {dsc : TypeDesc} (hr : fn.results = #[.cell p t]) (hl : lkE E p = .pred (rpA n e φ))
    (hu : P.underlying t = some dsc) (hd : (match dsc with | .struct _ | .array _ _ => true | _ => false) = true) (hi : (P.info? t).map (·.size) = some n) (he : Ext w0 wb) :
    PX N wb (bodyPost P fn (Ret w0 (.pred φ))) .ret E := by
  unfold PX
  intro a w st
  have h1 := st.sat p
  rw [hl] at h1
  obtain ⟨b, cs, hv, hb, hn, hp⟩ := h1
  exact ⟨st.df, _, results_cell_row hr _ _ b e cs (0, 0) dsc hv hb hu hd (by rw [hn]; exact hi), _, rfl, he.trans st.ext, hp⟩
theorem s4A {fn : Func} {w0 : World} {φ : AV} {r : AD} {p u n : Nat} {e : TypeId} {dsc : TypeDesc} (hr : fn.results = #[.cell p t, .tmp u]) (hl : lkE E p = .pred (rpA n e φ)) (hl' : lkE E u = r)
    (hu : P.underlying t = some dsc) (hd : (match dsc with | .struct _ | .array _ _ => true | _ => false) = true) (hi : (P.info? t).map (·.size) = some n) (he : Ext w0 wb) :
    PX N wb (bodyPost P fn (Ret w0 (.tup2 (.pred φ) r))) .ret E := by
  unfold PX
  intro a w st
  have h1 := st.sat p
  have h2 := st.sat u
  rw [hl] at h1; rw [hl'] at h2
  obtain ⟨b, cs, hv, hb, hn, hp⟩ := h1
  have hrun : (results fn a.tmps).run P w = .ok (.tuple #[.agg cs, a.tmps.getD u undef]) w := by
    rw [results_cell_tmp hr, hv]
    simp only [asAddr, Sem.run_pure, Result.andThen_ok, run_loadVar_row w b e t cs (0, 0) dsc hb hu hd (by rw [hn]; exact hi)]
  exact ⟨st.df, _, hrun, _, rfl, he.trans st.ext, _, _, rfl, hp, h2⟩
end
theorem Own.apart {base e e' s n b : Nat} {w : World} {v : Value} {cs : List Value} {cur : Array Value} {j : Nat × Nat} (h : Own base e s w v n cs) (hb : w.heap[b]? = some (.cells cur e' j)) (hne : e ≠ e') : v.ownBlock ≠ some b := by
  rcases h.2 with ⟨h0, _⟩ | ⟨gb, cap, cur', rfl, _, hg, _⟩
  · rw [h0]; intro h; cases h
  · intro hq
    have : gb = b := by simpa [Value.ownBlock] using hq
    subst this
    rw [hg] at hb
    simp only [Option.some.injEq, Obj.cells.injEq] at hb
    exact hne hb.2.1
end Go.LA
end
section
set_option linter.unusedSimpArgs false
set_option linter.unusedVariables false
namespace Go.Proofs.YtfcioiobhpcngaaGreatDoor
open Go.LA Go.ArrP Go.RowKit
variable {A : Nat → Prop}
def nilS : Value := .slice none 0 0
def OwnA (A : Nat → Prop) (e : Nat) (k : IntKind) (w : World) (v : Value) (xs : List Int) : Prop := OwnI 0 e k w v xs ∧ ∀ b, v.ownBlock = some b → A b
theorem OwnA.ext {e : Nat} {k : IntKind} {w w' : World} {v : Value} {xs : List Int} (h : OwnA A e k w v xs) (x : Ext w w') : OwnA A e k w' v xs := ⟨h.1.ext x, h.2⟩
theorem OwnA.slI {e : Nat} {k : IntKind} {w : World} {v : Value} {xs : List Int} (h : OwnA A e k w v xs) : SlI k w v xs := h.1.slI
def Fsh (A : Nat → Prop) (w : World) : Prop := ∀ k, w.heap.size ≤ k → A k
theorem Fsh.ext {w w' : World} (h : Fsh A w) (e : Ext w w') : Fsh A w' := fun k hk => h k (Nat.le_trans e.size hk)
def TT : Nat → Prop := fun _ => True
theorem tt {w : World} : Fsh TT w := fun _ _ => trivial
def Cn (A : Nat → Prop) (w : World) (v : Value) (p : Nat → Bool) (kk : Int) : Prop :=
  p 65536 = false ∧
  ((kk = 1 ∧ ∃ kd va, (kd = 0 ∨ kd = 1) ∧ v = .agg #[.int .u8 kd, va, .slice none 0 0, .slice none 0 0] ∧ OwnA A 72 .u16 w va (adA p 65536)) ∨
   (kk = 2 ∧ ∃ vw, v = .agg #[.int .u8 2, .slice none 0 0, vw, .slice none 0 0] ∧ OwnI 0 22 .u64 w vw (wordsOf p)) ∨
   (kk = 3 ∧ ∃ vr, v = .agg #[.int .u8 3, .slice none 0 0, .slice none 0 0, vr] ∧ OwnR 0 96 w vr (aoA p)))
theorem Cn.ext {w w' : World} {v : Value} {p : Nat → Bool} {kk : Int} (h : Cn A w v p kk) (e : Ext w w') : Cn A w' v p kk := by
  obtain ⟨hp, h | h | h⟩ := h
  · obtain ⟨h1, kd, va, h2, h3, h4⟩ := h; exact ⟨hp, .inl ⟨h1, kd, va, h2, h3, h4.ext e⟩⟩
  · obtain ⟨h1, vw, h3, h4⟩ := h; exact ⟨hp, .inr (.inl ⟨h1, vw, h3, h4.ext e⟩)⟩
  · obtain ⟨h1, vr, h3, h4⟩ := h; exact ⟨hp, .inr (.inr ⟨h1, vr, h3, h4.ext e⟩)⟩
def cnP (A : Nat → Prop) (p : Nat → Bool) (kk : Int) : AV := ⟨fun v w => Cn A w v p kk, fun _ _ _ e h => h.ext e⟩
theorem Cn.setRow {w : World} {v : Value} {p : Nat → Bool} {kk : Int} (h : Cn A w v p kk) {b : Nat} {cur : Array Value} {e : TypeId} {j : Nat × Nat} (hb : w.heap[b]? = some (.cells cur e j)) (he : 72 ≠ e ∧ 22 ≠ e ∧ 96 ≠ e) (cs : Array Value) : Cn A (w.setRow b cs) v p kk := by
  obtain ⟨hp, h | h | h⟩ := h
  · obtain ⟨h1, kd, va, h2, h3, h4⟩ := h; exact ⟨hp, .inl ⟨h1, kd, va, h2, h3, Own.setRow h4.1 _ (Own.apart h4.1 hb he.1), h4.2⟩⟩
  · obtain ⟨h1, vw, h3, h4⟩ := h; exact ⟨hp, .inr (.inl ⟨h1, vw, h3, Own.setRow h4 _ (Own.apart h4 hb he.2.1)⟩)⟩
  · obtain ⟨h1, vr, h3, h4⟩ := h; exact ⟨hp, .inr (.inr ⟨h1, vr, h3, Own.setRow h4 _ (Own.apart h4 hb he.2.2)⟩)⟩
theorem Cn.arr {w : World} {va : Value} {p : Nat → Bool} {base : Nat} (hp : p 65536 = false) {xs : List Int} (hx : xs = adA p 65536) (h : OwnI base 72 .u16 w va xs) (hA : ∀ k, base ≤ k → A k) : Cn A w (.agg #[.int .u8 1, va, .slice none 0 0, .slice none 0 0]) p 1 :=
  ⟨hp, .inl ⟨rfl, 1, va, .inr rfl, rfl, hx ▸ Own.base h (Nat.zero_le _), fun k hk => hA k (Own.lt h k hk).1⟩⟩
theorem Cn.wrd {w : World} {vw : Value} {p : Nat → Bool} {base : Nat} (hp : p 65536 = false) {xs : List Int} (hx : xs = wordsOf p) (h : OwnI base 22 .u64 w vw xs) (hA : ∀ k, base ≤ k → A k) : Cn A w (.agg #[.int .u8 2, .slice none 0 0, vw, .slice none 0 0]) p 2 :=
  ⟨hp, .inr (.inl ⟨rfl, vw, rfl, hx ▸ Own.base h (Nat.zero_le _)⟩)⟩
theorem Cn.rns {w : World} {vr : Value} {p : Nat → Bool} {base : Nat} (hp : p 65536 = false) {xs : List Rn} (hx : xs = aoA p) (h : OwnR base 96 w vr xs) (hA : ∀ k, base ≤ k → A k) : Cn A w (.agg #[.int .u8 3, .slice none 0 0, .slice none 0 0, vr]) p 3 :=
  ⟨hp, .inr (.inr ⟨rfl, vr, rfl, hx ▸ Own.base h (Nat.zero_le _)⟩)⟩
theorem Cn.zero {w : World} : Cn A w (.agg #[.int .u8 0, .slice none 0 0, .slice none 0 0, .slice none 0 0]) (fun _ => false) 1 :=
  ⟨rfl, .inl ⟨rfl, 0, _, .inl rfl, rfl, by rw [erA (fun _ => false) (a := 0) 65536 (by decide) (fun _ _ _ => rfl)]; exact ⟨OwnI.nil, fun _ h => by cases h⟩⟩⟩
theorem Cn.parts {w : World} {v : Value} {p : Nat → Bool} {kk : Int} (h : Cn A w v p kk) : ∃ kd va vw vr, v = .agg #[.int .u8 kd, va, vw, vr] ∧ max kd 1 = kk ∧ 0 ≤ kd ∧ kd ≤ 3 ∧ kk = max kd 1 ∧ 1 ≤ kk ∧ kk ≤ 3 ∧ (∀ u ∈ (Value.agg #[.int .u8 kd, va, vw, vr]).cells.toList, u.oneCell' = true) := by
  obtain ⟨hp, h | h | h⟩ := h
  · obtain ⟨h1, kd, va, h2, h3, h4⟩ := h
    refine ⟨kd, va, _, _, h3, by omega, by omega, by omega, by omega, by omega, by omega, fun u hu => ?_⟩
    simp only [Value.cells, List.mem_cons, List.not_mem_nil, or_false] at hu
    rcases hu with rfl | rfl | rfl | rfl
    · rfl
    · exact OwnI.one h4.1
    · rfl
    · rfl
  · obtain ⟨h1, vw, h3, h4⟩ := h
    refine ⟨2, _, vw, _, h3, by omega, by omega, by omega, by omega, by omega, by omega, fun u hu => ?_⟩
    simp only [Value.cells, List.mem_cons, List.not_mem_nil, or_false] at hu
    rcases hu with rfl | rfl | rfl | rfl
    · rfl
    · rfl
    · exact OwnI.one h4
    · rfl
  · obtain ⟨h1, vr, h3, h4⟩ := h
    refine ⟨3, _, _, vr, h3, by omega, by omega, by omega, by omega, by omega, by omega, fun u hu => ?_⟩
    simp only [Value.cells, List.mem_cons, List.not_mem_nil, or_false] at hu
    rcases hu with rfl | rfl | rfl | rfl
    · rfl
    · rfl
    · rfl
    · obtain ⟨a, c, hv⟩ := (OwnR.slR h4).isSlice
      rw [hv]; rfl
def t9A (c : Nat) : Int := if c ≤ 4096 then 2 * (c : Int) else 8192
def aqA (p : Nat → Bool) : Int := if 2 + 4 * (cnt (biA p) 65536 : Int) < t9A (cnt p 65536) then 3 else if cnt p 65536 ≤ 4096 then 1 else 2
theorem Cn.congr {w : World} {v : Value} {p q : Nat → Bool} {kk : Int} (h : Cn A w v p kk) (hq : q 65536 = false) (e : ∀ i, i < 65536 → p i = q i) : Cn A w v q kk := by
  obtain ⟨hp, h⟩ := h
  rw [cxA 65536 e, beA e, eaA e] at h
  exact ⟨hq, h⟩
end Go.Proofs.YtfcioiobhpcngaaGreatDoor
end
section
set_option linter.unusedSimpArgs false
set_option linter.unusedVariables false
set_option maxRecDepth 3000
namespace Go.Proofs.YtfcioiobhpcngaaGreatDoor
open Go.LA Go.ArrP Go.RowKit
variable {A : Nat → Prop}
theorem clA : El Tryz.prog 52 72 (.int .u16 0) 1 2 := ⟨rfl, rfl, rfl, by decide⟩
theorem oxA (w : World) (v : Value) (n : Nat) (cs : List Value) (h : SlC w v n 1 cs) (h1 : ∀ u ∈ cs, u.oneCell' = true) (hb : n * 2 ≤ 140737488355328) : Fc Tryz.prog 55 #[v] w (Ret w (.pred (hpA w.heap.size 72 1 n cs))) := by
  obtain ⟨h0, a, cap, rfl, hc, hm, hn, hcs⟩ := id h
  have hlen := h.len
  cases a with
  | none =>
    obtain rfl := hn rfl
    obtain rfl : n = 0 := by omega
    obtain rfl : cs = [] := List.eq_nil_of_length_eq_zero (by omega)
    refine Fc.of (args := [_]) Tryz.func55 rfl rfl Tryz.ntmps55 (Nat.le_of_ble_eq_true rfl) ?_
    repeat' (first|(refine oLA ?_;first|refine a0A rfl ?_|refine c9A (c := .bool true) rfl rfl rfl (fun _ => rfl) ?_|refine wOp ?_|(refine wCm ?_ ?_<;>intro hc)|(refine wNl hK ?_;clear hK K))|refine wG ?_|(refine wCR ?_;intro K hK)|(refine oPX ?_;first|exact alA rfl rfl (Ext.refl _) (fun u w2 e2 hu => by obtain rfl : u = _ := hu; exact Own.nil))|fail)
  | some a =>
    refine Fc.of (args := [_]) Tryz.func55 rfl rfl Tryz.ntmps55 (Nat.le_of_ble_eq_true rfl) ?_
    repeat' (first|(refine oLA ?_;first|refine a0A rfl ?_|refine c9A (c := .bool false) rfl rfl rfl (fun _ => rfl) ?_|refine j5A 72 (s := 1) rfl (fun _ => by kernel_rfl) ?_|(refine a4A (hK _ _ (byA 5 rfl (fun v5 w5 e5 h5 => ?_))); clear hK K; have h6 := h.ext e5; have ho : Own w.heap.size _ _ w5 v5 0 [] := h5; refine amA (by kernel_rfl) (fun K hK => ?_))|(refine a4A (hK _ _ (ctA rfl (by decide) clA rfl ho rfl (HasC.val h6) h1 (by rw [Nat.zero_add]; unfold maxLen; omega) (by rw [Nat.zero_add]; exact hb) e5.size (fun v' w2 w3 he2 ho3 hg3 => ?_))); clear hK K; dsimp only [vals]; refine amA (by kernel_rfl) (fun K hK => ?_))|refine wOp ?_|(refine wCm ?_ ?_<;>intro hc)|(refine wNl hK ?_;clear hK K))|refine wG ?_|(refine wCR ?_;intro K hK)|fail)
    exact alA rfl rfl ((e5.trans he2).grown hg3 (fun q hq => (Own.lt ho q hq).1)) (fun u w4 e4 hu => by
      obtain rfl : u = _ := hu
      have h9 : Own w.heap.size 72 1 w3 u n cs := by simpa using ho3
      exact h9.ext e4)
theorem xcA : El Tryz.prog 62 22 (.int .u64 0) 1 8 := ⟨rfl, rfl, rfl, by decide⟩
theorem ovA (w : World) (v : Value) (n : Nat) (cs : List Value) (h : SlC w v n 1 cs) (h1 : ∀ u ∈ cs, u.oneCell' = true) (hb : n * 8 ≤ 140737488355328) : Fc Tryz.prog 69 #[v] w (Ret w (.pred (hpA w.heap.size 22 1 n cs))) := by
  obtain ⟨h0, a, cap, rfl, hc, hm, hn, hcs⟩ := id h
  have hlen := h.len
  cases a with
  | none =>
    obtain rfl := hn rfl
    obtain rfl : n = 0 := by omega
    obtain rfl : cs = [] := List.eq_nil_of_length_eq_zero (by omega)
    refine Fc.of (args := [_]) Tryz.func69 rfl rfl Tryz.ntmps69 (Nat.le_of_ble_eq_true rfl) ?_
    repeat' (first|(refine oLA ?_;first|refine a0A rfl ?_|refine c9A (c := .bool true) rfl rfl rfl (fun _ => rfl) ?_|refine wOp ?_|(refine wCm ?_ ?_<;>intro hc)|(refine wNl hK ?_;clear hK K))|refine wG ?_|(refine wCR ?_;intro K hK)|(refine oPX ?_;first|exact alA rfl rfl (Ext.refl _) (fun u w2 e2 hu => by obtain rfl : u = _ := hu; exact Own.nil))|fail)
  | some a =>
    refine Fc.of (args := [_]) Tryz.func69 rfl rfl Tryz.ntmps69 (Nat.le_of_ble_eq_true rfl) ?_
    repeat' (first|(refine oLA ?_;first|refine a0A rfl ?_|refine c9A (c := .bool false) rfl rfl rfl (fun _ => rfl) ?_|refine j5A 22 (s := 1) rfl (fun _ => by kernel_rfl) ?_|(refine a4A (hK _ _ (byA 5 rfl (fun v5 w5 e5 h5 => ?_))); clear hK K; have h6 := h.ext e5; have ho : Own w.heap.size _ _ w5 v5 0 [] := h5; refine amA (by kernel_rfl) (fun K hK => ?_))|(refine a4A (hK _ _ (ctA rfl (by decide) xcA rfl ho rfl (HasC.val h6) h1 (by rw [Nat.zero_add]; unfold maxLen; omega) (by rw [Nat.zero_add]; exact hb) e5.size (fun v' w2 w3 he2 ho3 hg3 => ?_))); clear hK K; dsimp only [vals]; refine amA (by kernel_rfl) (fun K hK => ?_))|refine wOp ?_|(refine wCm ?_ ?_<;>intro hc)|(refine wNl hK ?_;clear hK K))|refine wG ?_|(refine wCR ?_;intro K hK)|fail)
    exact alA rfl rfl ((e5.trans he2).grown hg3 (fun q hq => (Own.lt ho q hq).1)) (fun u w4 e4 hu => by
      obtain rfl : u = _ := hu
      have h9 : Own w.heap.size 22 1 w3 u n cs := by simpa using ho3
      exact h9.ext e4)
theorem fcA {w : World} {v : Value} {p : Nat → Bool} {kk : Int} (h : Cn A w v p kk) : Fc Tryz.prog 82 #[v] w (Ret w (.val (.int .u8 kk))) := by
  obtain ⟨kd, va, vw, vr, rfl, -, h1, h2, rfl, -⟩ := h.parts
  refine Fc.of (args := [_]) Tryz.func82 rfl rfl Tryz.ntmps82 (Nat.le_of_ble_eq_true rfl) ?_
  repeat' (first|(refine oLA ?_;first|refine a0A rfl ?_|refine dfA ?_|(refine egA rfl rfl rfl ?_)|refine wOp ?_|(refine wCm ?_ ?_<;>intro hc)|(refine wNl hK ?_;clear hK K))|refine wG ?_|(refine wCR ?_;intro K hK)|fail)
  all_goals skip
  all_goals exact abA rfl rfl (Ext.refl _) rfl
theorem rvA {w : World} {va vw vr : Value} {kd : Int} {xs : List Int} (h : SlI .u16 w va xs) : Fc Tryz.prog 95 #[.agg #[.int .u8 kd, va, vw, vr]] w (Ret w (.val (.int .i64 xs.length))) := by
  have hl := h.len
  refine Fc.of (args := [_]) Tryz.func95 rfl rfl Tryz.ntmps95 (Nat.le_of_ble_eq_true rfl) ?_
  repeat' (first|(refine oLA ?_;first|refine a0A rfl ?_|refine dfA ?_|refine wOp ?_|(refine wCm ?_ ?_<;>intro hc)|(refine wNl hK ?_;clear hK K))|refine wG ?_|(refine wCR ?_;intro K hK)|fail)
  all_goals skip
  all_goals exact abA rfl rfl (Ext.refl _) rfl
theorem q7A {w : World} {va vw vr : Value} {kd : Int} {p : Nat → Bool} (h : SlI .u64 w vw (wordsOf p)) : Fc Tryz.prog 96 #[.agg #[.int .u8 kd, va, vw, vr]] w (Ret w (.val (.int .i64 (cnt p 65536)))) := by
  refine Fc.of (args := [_]) Tryz.func96 rfl rfl Tryz.ntmps96 (Nat.le_of_ble_eq_true rfl) ?_
  repeat' (first|(refine oLA ?_;first|refine a0A rfl ?_|refine dfA ?_|refine wOp ?_|(refine wCm ?_ ?_<;>intro hc)|(refine oCv ?_;first|(refine oC 141 ?_; refine a1A (f := 141) rfl rfl rfl  (.val (.int .i64 (cnt p 65536))) (by intro u1 w e hu1; (try obtain rfl : u1 = _ := hu1); exact wlenP _ _ p (h.ext e)) ?_))|(refine wNl hK ?_;clear hK K))|refine wG ?_|(refine wCR ?_;intro K hK)|fail)
  all_goals skip
  all_goals exact abA rfl rfl (Ext.refl _) rfl
theorem qdA {w : World} {va vw vr : Value} {kd : Int} {p : Nat → Bool} (h : SlR w vr (aoA p)) : Fc Tryz.prog 97 #[.agg #[.int .u8 kd, va, vw, vr]] w (Ret w (.val (.int .i64 (cnt p 65536)))) := by
  have hl : kdA (aoA p) = cnt p 65536 := obA p 65536
  rw [← hl]
  have hn : (aoA p).length ≤ 70000 := by have := d1A p; omega
  refine Fc.of (args := [_]) Tryz.func97 rfl rfl Tryz.ntmps97 (Nat.le_of_ble_eq_true rfl) ?_
  repeat' (first|(refine oLA ?_;first|refine a0A rfl ?_|refine dfA ?_|refine wOp ?_|(refine wCm ?_ ?_<;>intro hc)|(refine oCv ?_;first|(refine oC 142 ?_; refine a1A (f := 142) rfl rfl rfl  (.val (.int .i64 (kdA (aoA p)))) (by intro u1 w e hu1; (try obtain rfl : u1 = _ := hu1); exact u7A _ _ (aoA p) (h.ext e) (dtA p) hn) ?_))|(refine wNl hK ?_;clear hK K))|refine wG ?_|(refine wCR ?_;intro K hK)|fail)
  all_goals skip
  all_goals exact abA rfl rfl (Ext.refl _) rfl
theorem hsA {w : World} {v : Value} {p : Nat → Bool} {kk : Int} (h : Cn A w v p kk) : Fc Tryz.prog 51 #[v] w (Ret w (.val (.int .i64 (cnt p 65536)))) := by
  have hk : ∀ w', Ext w w' → _ := fun w' e => fcA (h.ext e)
  have hll := baA p 65536
  obtain ⟨hp, ⟨rfl, kd, va, hkd, rfl, ho⟩ | ⟨rfl, vw, rfl, ho⟩ | ⟨rfl, vr, rfl, ho⟩⟩ := h
  · skip
    refine Fc.of (args := [_]) Tryz.func51 rfl rfl Tryz.ntmps51 (Nat.le_of_ble_eq_true rfl) ?_
    repeat' (first|(refine oLA ?_;first|refine a0A rfl ?_|refine dfA ?_|refine ceA (c := .agg #[.nilFunc, .func (.func 95) #[] #[], .func (.func 96) #[] #[], .func (.func 97) #[] #[]]) rfl rfl rfl rfl (fun _ => by kernel_rfl) ?_|(refine d7A 1 (c := .func (.func 95) #[] #[]) rfl rfl (fun _ => rfl) rfl rfl rfl (by decide) (fun _ => by kernel_rfl) ?_)|refine wOp ?_|(refine wCm ?_ ?_<;>intro hc)|(refine oCv ?_;first|(refine oC 82 ?_; refine a1A (f := 82) rfl rfl rfl _ (by intro u1 w' e hu1; obtain rfl : u1 = _ := hu1; exact hk w' e) ?_)|(refine a1A (f := 95) rfl rfl rfl (.val (.int .i64 (cnt p 65536))) (by intro u1 w' e hu1; obtain rfl : u1 = _ := hu1;exact by rw [← hll]; exact rvA (ho.ext e).slI) ?_))|(refine wNl hK ?_;clear hK K))|refine wG ?_|(refine wCR ?_;intro K hK)|fail)
    all_goals skip
    all_goals exact abA rfl rfl (Ext.refl _) rfl
  · skip
    refine Fc.of (args := [_]) Tryz.func51 rfl rfl Tryz.ntmps51 (Nat.le_of_ble_eq_true rfl) ?_
    repeat' (first|(refine oLA ?_;first|refine a0A rfl ?_|refine dfA ?_|refine ceA (c := .agg #[.nilFunc, .func (.func 95) #[] #[], .func (.func 96) #[] #[], .func (.func 97) #[] #[]]) rfl rfl rfl rfl (fun _ => by kernel_rfl) ?_|(refine d7A 2 (c := .func (.func 96) #[] #[]) rfl rfl (fun _ => rfl) rfl rfl rfl (by decide) (fun _ => by kernel_rfl) ?_)|refine wOp ?_|(refine wCm ?_ ?_<;>intro hc)|(refine oCv ?_;first|(refine oC 82 ?_; refine a1A (f := 82) rfl rfl rfl _ (by intro u1 w' e hu1; obtain rfl : u1 = _ := hu1; exact hk w' e) ?_)|(refine a1A (f := 96) rfl rfl rfl (.val (.int .i64 (cnt p 65536))) (by intro u1 w' e hu1; obtain rfl : u1 = _ := hu1;exact q7A (ho.ext e).slI) ?_))|(refine wNl hK ?_;clear hK K))|refine wG ?_|(refine wCR ?_;intro K hK)|fail)
    all_goals skip
    all_goals exact abA rfl rfl (Ext.refl _) rfl
  · skip
    refine Fc.of (args := [_]) Tryz.func51 rfl rfl Tryz.ntmps51 (Nat.le_of_ble_eq_true rfl) ?_
    repeat' (first|(refine oLA ?_;first|refine a0A rfl ?_|refine dfA ?_|refine ceA (c := .agg #[.nilFunc, .func (.func 95) #[] #[], .func (.func 96) #[] #[], .func (.func 97) #[] #[]]) rfl rfl rfl rfl (fun _ => by kernel_rfl) ?_|(refine d7A 3 (c := .func (.func 97) #[] #[]) rfl rfl (fun _ => rfl) rfl rfl rfl (by decide) (fun _ => by kernel_rfl) ?_)|refine wOp ?_|(refine wCm ?_ ?_<;>intro hc)|(refine oCv ?_;first|(refine oC 82 ?_; refine a1A (f := 82) rfl rfl rfl _ (by intro u1 w' e hu1; obtain rfl : u1 = _ := hu1; exact hk w' e) ?_)|(refine a1A (f := 97) rfl rfl rfl (.val (.int .i64 (cnt p 65536))) (by intro u1 w' e hu1; obtain rfl : u1 = _ := hu1;exact qdA (ho.ext e).slR) ?_))|(refine wNl hK ?_;clear hK K))|refine wG ?_|(refine wCR ?_;intro K hK)|fail)
    all_goals skip
    all_goals exact abA rfl rfl (Ext.refl _) rfl
theorem v3A (p : Nat → Bool) (x : Nat) (hx : x < 65536) : crA (adA p 65536) (x : Int) = p x := by
  rw [e5A _ (bfA p _)]; exact c6A p hx
theorem rwA {w : World} {va vw vr : Value} {kd : Int} {p : Nat → Bool} {x : Nat} (h : SlI .u16 w va (adA p 65536)) (hx : x < 65536) : Fc Tryz.prog 101 #[.agg #[.int .u8 kd, va, vw, vr], .int .u16 x] w (Ret w (.val (.bool (p x)))) := by
  have hf := v3A p x hx
  have hn : (adA p 65536).length ≤ 4611686018427387903 := by rw [baA]; have := cnt_le p 65536; omega
  refine Fc.of (args := [_, _]) Tryz.func101 rfl rfl Tryz.ntmps101 (Nat.le_of_ble_eq_true rfl) ?_
  repeat' (first|(refine oLA ?_;first|refine a0A rfl ?_|refine dfA ?_|refine wOp ?_|(refine wCm ?_ ?_<;>intro hc)|(refine oCv ?_;first|(refine oC 143 ?_; refine a3A (f := 143) rfl rfl rfl rfl  (.tup2 (.val (.int .i64 (bsS (adA p 65536) x))) (.val (.bool (p x)))) (by intro u1 u2 w e hu1 hu2; (try obtain rfl : u1 = _ := hu1); (try obtain rfl : u2 = _ := hu2); exact qlA rfl (by rw [hf]) (tdA _ _ (adA p 65536) x (h.ext e) hn)) ?_))|(refine wNl hK ?_;clear hK K))|refine wG ?_|(refine wCR ?_;intro K hK)|fail)
  all_goals skip
  all_goals exact abA rfl rfl (Ext.refl _) rfl
theorem q8A {w : World} {va vw vr : Value} {kd : Int} {p : Nat → Bool} {x : Nat} (h : SlI .u64 w vw (wordsOf p)) (hx : x < 65536) : Fc Tryz.prog 102 #[.agg #[.int .u8 kd, va, vw, vr], .int .u16 x] w (Ret w (.val (.bool (p x)))) := by
  refine Fc.of (args := [_, _]) Tryz.func102 rfl rfl Tryz.ntmps102 (Nat.le_of_ble_eq_true rfl) ?_
  repeat' (first|(refine oLA ?_;first|refine a0A rfl ?_|refine dfA ?_|refine wOp ?_|(refine wCm ?_ ?_<;>intro hc)|(refine oCv ?_;first|(refine oC 146 ?_; refine a3A (f := 146) rfl rfl rfl rfl  (.val (.bool (p x))) (by intro u1 u2 w e hu1 hu2; (try obtain rfl : u1 = _ := hu1); (try obtain rfl : u2 = _ := hu2); exact whasP _ _ p (h.ext e) x hx) ?_))|(refine wNl hK ?_;clear hK K))|refine wG ?_|(refine wCR ?_;intro K hK)|fail)
  all_goals skip
  all_goals exact abA rfl rfl (Ext.refl _) rfl
theorem qeA {w : World} {va vw vr : Value} {kd : Int} {p : Nat → Bool} {x : Nat} (h : SlR w vr (aoA p)) (hx : x < 65536) : Fc Tryz.prog 103 #[.agg #[.int .u8 kd, va, vw, vr], .int .u16 x] w (Ret w (.val (.bool (p x)))) := by
  rw [← gfA p hx]
  have hn : (aoA p).length ≤ 70000 := by have := d1A p; omega
  refine Fc.of (args := [_, _]) Tryz.func103 rfl rfl Tryz.ntmps103 (Nat.le_of_ble_eq_true rfl) ?_
  repeat' (first|(refine oLA ?_;first|refine a0A rfl ?_|refine dfA ?_|refine wOp ?_|(refine wCm ?_ ?_<;>intro hc)|(refine oCv ?_;first|(refine oC 147 ?_; refine a3A (f := 147) rfl rfl rfl rfl  (.val (.bool (inR (aoA p) x))) (by intro u1 u2 w e hu1 hu2; (try obtain rfl : u1 = _ := hu1); (try obtain rfl : u2 = _ := hu2); exact u8A _ _ (aoA p) x (h.ext e) (dtA p) (e0A p) hx hn) ?_))|(refine wNl hK ?_;clear hK K))|refine wG ?_|(refine wCR ?_;intro K hK)|fail)
  all_goals skip
  all_goals exact abA rfl rfl (Ext.refl _) rfl
theorem x7A {w : World} {v : Value} {p : Nat → Bool} {kk : Int} {x : Nat} (h : Cn A w v p kk) (hx : x < 65536) : Fc Tryz.prog 54 #[v, .int .u16 x] w (Ret w (.val (.bool (p x)))) := by
  have hk : ∀ w', Ext w w' → _ := fun w' e => fcA (h.ext e)
  obtain ⟨hp, ⟨rfl, kd, va, hkd, rfl, ho⟩ | ⟨rfl, vw, rfl, ho⟩ | ⟨rfl, vr, rfl, ho⟩⟩ := h
  · skip
    refine Fc.of (args := [_, _]) Tryz.func54 rfl rfl Tryz.ntmps54 (Nat.le_of_ble_eq_true rfl) ?_
    repeat' (first|(refine oLA ?_;first|refine a0A rfl ?_|refine dfA ?_|refine ceA (c := .agg #[.nilFunc, .func (.func 101) #[] #[], .func (.func 102) #[] #[], .func (.func 103) #[] #[]]) rfl rfl rfl rfl (fun _ => by kernel_rfl) ?_|(refine d7A 1 (c := .func (.func 101) #[] #[]) rfl rfl (fun _ => rfl) rfl rfl rfl (by decide) (fun _ => by kernel_rfl) ?_)|refine wOp ?_|(refine wCm ?_ ?_<;>intro hc)|(refine oCv ?_;first|(refine oC 82 ?_; refine a1A (f := 82) rfl rfl rfl _ (by intro u1 w' e hu1; obtain rfl : u1 = _ := hu1; exact hk w' e) ?_)|(refine a3A (f := 101) rfl rfl rfl rfl (.val (.bool (p x))) (by intro u1 u2 w' e hu1 hu2; obtain rfl : u1 = _ := hu1; obtain rfl : u2 = _ := hu2;exact rwA (ho.ext e).slI hx) ?_))|(refine wNl hK ?_;clear hK K))|refine wG ?_|(refine wCR ?_;intro K hK)|fail)
    all_goals skip
    all_goals exact abA rfl rfl (Ext.refl _) rfl
  · skip
    refine Fc.of (args := [_, _]) Tryz.func54 rfl rfl Tryz.ntmps54 (Nat.le_of_ble_eq_true rfl) ?_
    repeat' (first|(refine oLA ?_;first|refine a0A rfl ?_|refine dfA ?_|refine ceA (c := .agg #[.nilFunc, .func (.func 101) #[] #[], .func (.func 102) #[] #[], .func (.func 103) #[] #[]]) rfl rfl rfl rfl (fun _ => by kernel_rfl) ?_|(refine d7A 2 (c := .func (.func 102) #[] #[]) rfl rfl (fun _ => rfl) rfl rfl rfl (by decide) (fun _ => by kernel_rfl) ?_)|refine wOp ?_|(refine wCm ?_ ?_<;>intro hc)|(refine oCv ?_;first|(refine oC 82 ?_; refine a1A (f := 82) rfl rfl rfl _ (by intro u1 w' e hu1; obtain rfl : u1 = _ := hu1; exact hk w' e) ?_)|(refine a3A (f := 102) rfl rfl rfl rfl (.val (.bool (p x))) (by intro u1 u2 w' e hu1 hu2; obtain rfl : u1 = _ := hu1; obtain rfl : u2 = _ := hu2;exact q8A (ho.ext e).slI hx) ?_))|(refine wNl hK ?_;clear hK K))|refine wG ?_|(refine wCR ?_;intro K hK)|fail)
    all_goals skip
    all_goals exact abA rfl rfl (Ext.refl _) rfl
  · skip
    refine Fc.of (args := [_, _]) Tryz.func54 rfl rfl Tryz.ntmps54 (Nat.le_of_ble_eq_true rfl) ?_
    repeat' (first|(refine oLA ?_;first|refine a0A rfl ?_|refine dfA ?_|refine ceA (c := .agg #[.nilFunc, .func (.func 101) #[] #[], .func (.func 102) #[] #[], .func (.func 103) #[] #[]]) rfl rfl rfl rfl (fun _ => by kernel_rfl) ?_|(refine d7A 3 (c := .func (.func 103) #[] #[]) rfl rfl (fun _ => rfl) rfl rfl rfl (by decide) (fun _ => by kernel_rfl) ?_)|refine wOp ?_|(refine wCm ?_ ?_<;>intro hc)|(refine oCv ?_;first|(refine oC 82 ?_; refine a1A (f := 82) rfl rfl rfl _ (by intro u1 w' e hu1; obtain rfl : u1 = _ := hu1; exact hk w' e) ?_)|(refine a3A (f := 103) rfl rfl rfl rfl (.val (.bool (p x))) (by intro u1 u2 w' e hu1 hu2; obtain rfl : u1 = _ := hu1; obtain rfl : u2 = _ := hu2;exact qeA (ho.ext e).slR hx) ?_))|(refine wNl hK ?_;clear hK K))|refine wG ?_|(refine wCR ?_;intro K hK)|fail)
    all_goals skip
    all_goals exact abA rfl rfl (Ext.refl _) rfl
end Go.Proofs.YtfcioiobhpcngaaGreatDoor
end
section
set_option linter.unusedSimpArgs false
set_option linter.unusedVariables false
set_option maxRecDepth 3000
namespace Go.Proofs.YtfcioiobhpcngaaGreatDoor
open Go.LA Go.ArrP Go.RowKit
variable {A : Nat → Prop}
theorem SlI.nil16 {w : World} : SlI .u16 w (.slice none 0 0) [] := ⟨rfl, none, 0, rfl, Nat.le_refl _, Nat.zero_le _, fun _ => rfl, .inl rfl⟩
theorem rdA {rs : List Rn} (hr : Right rs) (hu : U16 rs) {k : Nat} (hk : k < rs.length) : wordsOf (jrA (inR (rs.take k)) (fst rs k) (fst rs k + mor rs k + 1)) = wordsOf (inR (rs.take (k + 1))) := beA fun i _ => by
  have h0 := (jfA hr hu k (by omega)).1 i
  have h1 := (hr k hk).1
  rw [fkA hk, h1A, h0A]
  unfold jrA
  by_cases h2 : fst rs k ≤ (i : Int)
  · rw [h0 (by omega), decide_eq_true h2]
    by_cases h3 : (i : Int) ≤ fst rs k + mor rs k
    · rw [decide_eq_true (by omega : (i : Int) < fst rs k + mor rs k + 1), decide_eq_true h3]; rfl
    · rw [decide_eq_false (by omega : ¬ (i : Int) < fst rs k + mor rs k + 1), decide_eq_false h3]; rfl
  · rw [decide_eq_false h2]
    cases inR (rs.take k) i <;> rfl
theorem foA (w : World) (v : Value) (xs : List Int) (h : SlI .u16 w v xs) (hb : xs.length ≤ 65536) : Fc Tryz.prog 55 #[v] w (Ret w (.pred (bjA w.heap.size 72 .u16 xs))) :=
  oxA w v xs.length (xs.map (Value.int .u16)) h ipA (by omega)
theorem oyA (w : World) (v : Value) (xs : List Int) (h : SlI .u64 w v xs) (hb : xs.length ≤ 65536) : Fc Tryz.prog 69 #[v] w (Ret w (.pred (bjA w.heap.size 22 .u64 xs))) :=
  ovA w v xs.length (xs.map (Value.int .u64)) h ipA (by omega)
theorem roA (w : World) (v : Value) (rs : List Rn) (h : SlR w v rs) (hb : rs.length ≤ 65536) : Fc Tryz.prog 73 #[v] w (Ret w (.pred (ekA w.heap.size 96 rs))) :=
  jtA w v rs.length (csA rs) h (fyA rs) (by omega)
theorem keA (p : Nat → Bool) : (adA p 65536).length ≤ 65536 := by rw [baA]; exact cnt_le p 65536
theorem p4A {w : World} {v : Value} {p : Nat → Bool} {kk : Int} (h : Cn A w v p kk) (hT : Tab w) : Fc Tryz.prog 64 #[v] w (Ret w (.pred (bjA w.heap.size 72 .u16 (adA p 65536)))) := by
  have hl : ebA (aoA p) = adA p 65536 := ltA p 65536
  have hn : (aoA p).length ≤ 70000 := by have := d1A p; omega
  obtain ⟨hp, ⟨rfl, kd, va, hkd, rfl, ho⟩ | ⟨rfl, vw, rfl, ho⟩ | ⟨rfl, vr, rfl, ho⟩⟩ := h
  · refine Fc.of (args := [_]) Tryz.func64 rfl rfl Tryz.ntmps64 (Nat.le_of_ble_eq_true rfl) ?_
    repeat' (first|(refine oLA ?_;first|refine a0A rfl ?_|refine dfA ?_|refine wOp ?_|(refine wCm ?_ ?_<;>intro hc)|(refine oCv ?_;first|(refine oC 55 ?_; refine a1A (f := 55) rfl rfl rfl  (.pred (bjA _ 72 .u16 (adA p 65536))) (by intro u1 w e hu1; (try obtain rfl : u1 = _ := hu1); exact (foA _ _ _ (ho.ext e).slI (keA p)).mono (aaA e.size)) ?_))|(refine wNl hK ?_;clear hK K))|refine wG ?_|(refine wCR ?_;intro K hK)|fail)
    all_goals skip
    all_goals exact alA rfl rfl (Ext.refl _) (fun _ _ _ hv => hv)
  · refine Fc.of (args := [_]) Tryz.func64 rfl rfl Tryz.ntmps64 (Nat.le_of_ble_eq_true rfl) ?_
    repeat' (first|(refine oLA ?_;first|refine a0A rfl ?_|refine dfA ?_|refine wOp ?_|(refine wCm ?_ ?_<;>intro hc)|(refine oCv ?_;first|(refine oC 114 ?_; refine a1A (f := 114) rfl rfl rfl  (.pred (bjA _ 72 .u16 (adA p 65536))) (by intro u1 w e hu1; (try obtain rfl : u1 = _ := hu1); exact (wbA _ _ p (ho.ext e).slI (hT.ext e)).mono (aaA e.size)) ?_))|(refine wNl hK ?_;clear hK K))|refine wG ?_|(refine wCR ?_;intro K hK)|fail)
    all_goals skip
    all_goals exact alA rfl rfl (Ext.refl _) (fun _ _ _ hv => hv)
  · refine Fc.of (args := [_]) Tryz.func64 rfl rfl Tryz.ntmps64 (Nat.le_of_ble_eq_true rfl) ?_
    repeat' (first|(refine oLA ?_;first|refine a0A rfl ?_|refine dfA ?_|refine wOp ?_|(refine wCm ?_ ?_<;>intro hc)|(refine oCv ?_;first|(refine oC 115 ?_; refine a1A (f := 115) rfl rfl rfl  (.pred (bjA _ 72 .u16 (adA p 65536))) (by intro u1 w e hu1; (try obtain rfl : u1 = _ := hu1); exact by rw [← hl]; exact (qjA _ _ _ (ho.ext e).slR (dtA p) (e0A p) hn).mono (aaA e.size)) ?_))|(refine wNl hK ?_;clear hK K))|refine wG ?_|(refine wCR ?_;intro K hK)|fail)
    all_goals skip
    all_goals exact alA rfl rfl (Ext.refl _) (fun _ _ _ hv => hv)
theorem x0A {w : World} {v : Value} {p : Nat → Bool} {kk : Int} (h : Cn A w v p kk) : Fc Tryz.prog 126 #[v] w (Ret w (.val (.int .i64 (cnt (biA p) 65536)))) := by
  have hm : (aoA p).length = cnt (biA p) 65536 := geA p 65536
  have hr := k7A p
  obtain ⟨hp, ⟨rfl, kd, va, hkd, rfl, ho⟩ | ⟨rfl, vw, rfl, ho⟩ | ⟨rfl, vr, rfl, ho⟩⟩ := h
  · refine Fc.of (args := [_]) Tryz.func126 rfl rfl Tryz.ntmps126 (Nat.le_of_ble_eq_true rfl) ?_
    repeat' (first|(refine oLA ?_;first|refine a0A rfl ?_|refine dfA ?_|refine wOp ?_|(refine wCm ?_ ?_<;>intro hc)|(refine oCv ?_;first|(refine oC 176 ?_; refine a1A (f := 176) rfl rfl rfl  (.val (.int .i64 (cnt (biA p) 65536))) (by intro u1 w e hu1; (try obtain rfl : u1 = _ := hu1); exact agA (by rw [hr]) (wiA _ _ _ (ho.ext e).slI)) ?_))|(refine wNl hK ?_;clear hK K))|refine wG ?_|(refine wCR ?_;intro K hK)|fail)
    all_goals skip
    all_goals exact abA rfl rfl (Ext.refl _) rfl
  · refine Fc.of (args := [_]) Tryz.func126 rfl rfl Tryz.ntmps126 (Nat.le_of_ble_eq_true rfl) ?_
    repeat' (first|(refine oLA ?_;first|refine a0A rfl ?_|refine dfA ?_|refine wOp ?_|(refine wCm ?_ ?_<;>intro hc)|(refine oCv ?_;first|(refine oC 175 ?_; refine a1A (f := 175) rfl rfl rfl  (.val (.int .i64 (cnt (biA p) 65536))) (by intro u1 w e hu1; (try obtain rfl : u1 = _ := hu1); exact w6A _ _ p (ho.ext e).slI) ?_))|(refine wNl hK ?_;clear hK K))|refine wG ?_|(refine wCR ?_;intro K hK)|fail)
    all_goals skip
    all_goals exact abA rfl rfl (Ext.refl _) rfl
  · have hs := ho.slR
    rw [← hm]
    refine Fc.of (args := [_]) Tryz.func126 rfl rfl Tryz.ntmps126 (Nat.le_of_ble_eq_true rfl) ?_
    repeat' (first|(refine oLA ?_;first|refine a0A rfl ?_|refine dfA ?_|(refine cyA ?_; refine bzA rfl _ rfl rfl (HasR.val hs) ?_)|refine wOp ?_|(refine wCm ?_ ?_<;>intro hc)|(refine wNl hK ?_;clear hK K))|refine wG ?_|(refine wCR ?_;intro K hK)|fail)
    all_goals skip
    all_goals exact abA rfl rfl (Ext.refl _) rfl
theorem kqA {w : World} {v : Value} {p : Nat → Bool} {kk : Int} (h : Cn A w v p kk) (hT : Tab w) : Fc Tryz.prog 36 #[v] w (Ret w (.pred (ekA w.heap.size 96 (aoA p)))) := by
  have hm' := d1A p
  have hmm : aoA (bkA (adA p 65536)) = aoA p := eaA fun i hi => c6A p hi
  have ha : ∀ w', Ext w w' → _ := fun w' e => p4A (h.ext e) (hT.ext e)
  obtain ⟨hp, ⟨rfl, kd, va, hkd, rfl, ho⟩ | ⟨rfl, vw, rfl, ho⟩ | ⟨rfl, vr, rfl, ho⟩⟩ := h
  · refine Fc.of (args := [_]) Tryz.func36 rfl rfl Tryz.ntmps36 (Nat.le_of_ble_eq_true rfl) ?_
    repeat' (first|(refine oLA ?_;first|refine a0A rfl ?_|refine dfA ?_|refine wOp ?_|(refine wCm ?_ ?_<;>intro hc)|(refine oCv ?_;first|(refine oC 64 ?_; refine a1A (f := 64) rfl rfl rfl  (.pred (bjA _ 72 .u16 (adA p 65536))) (by intro u1 w e hu1; (try obtain rfl : u1 = _ := hu1); exact (ha _ e).mono (aaA e.size)) ?_)|(refine oC 74 ?_; refine a1A (f := 74) rfl rfl rfl  (.pred (ekA _ 96 (aoA p))) (by intro u1 w e hu1; (try obtain rfl : u1 = _ := hu1); exact (t0A _ _ _ (OwnI.slI hu1) (bfA p _) (ckA p)).mono (azA e.size hmm)) ?_))|(refine wNl hK ?_;clear hK K))|refine wG ?_|(refine wCR ?_;intro K hK)|fail)
    all_goals skip
    all_goals exact alA rfl rfl (Ext.refl _) (fun _ _ _ hv => hv)
  · refine Fc.of (args := [_]) Tryz.func36 rfl rfl Tryz.ntmps36 (Nat.le_of_ble_eq_true rfl) ?_
    repeat' (first|(refine oLA ?_;first|refine a0A rfl ?_|refine dfA ?_|refine wOp ?_|(refine wCm ?_ ?_<;>intro hc)|(refine oCv ?_;first|(refine oC 64 ?_; refine a1A (f := 64) rfl rfl rfl  (.pred (bjA _ 72 .u16 (adA p 65536))) (by intro u1 w e hu1; (try obtain rfl : u1 = _ := hu1); exact (ha _ e).mono (aaA e.size)) ?_)|(refine oC 74 ?_; refine a1A (f := 74) rfl rfl rfl  (.pred (ekA _ 96 (aoA p))) (by intro u1 w e hu1; (try obtain rfl : u1 = _ := hu1); exact (t0A _ _ _ (OwnI.slI hu1) (bfA p _) (ckA p)).mono (azA e.size hmm)) ?_))|(refine wNl hK ?_;clear hK K))|refine wG ?_|(refine wCR ?_;intro K hK)|fail)
    all_goals skip
    all_goals exact alA rfl rfl (Ext.refl _) (fun _ _ _ hv => hv)
  · refine Fc.of (args := [_]) Tryz.func36 rfl rfl Tryz.ntmps36 (Nat.le_of_ble_eq_true rfl) ?_
    repeat' (first|(refine oLA ?_;first|refine a0A rfl ?_|refine dfA ?_|refine wOp ?_|(refine wCm ?_ ?_<;>intro hc)|(refine oCv ?_;first|(refine oC 73 ?_; refine a1A (f := 73) rfl rfl rfl  (.pred (ekA _ 96 (aoA p))) (by intro u1 w e hu1; (try obtain rfl : u1 = _ := hu1); exact (roA _ _ _ (ho.ext e).slR hm').mono (azA e.size rfl)) ?_))|(refine wNl hK ?_;clear hK K))|refine wG ?_|(refine wCR ?_;intro K hK)|fail)
    all_goals skip
    all_goals exact alA rfl rfl (Ext.refl _) (fun _ _ _ hv => hv)
end Go.Proofs.YtfcioiobhpcngaaGreatDoor
end
section
set_option linter.unusedSimpArgs false
set_option linter.unusedVariables false
set_option maxRecDepth 3000
namespace Go.Proofs.YtfcioiobhpcngaaGreatDoor
open Go.LA Go.ArrP Go.RowKit
variable {A : Nat → Prop}
set_option maxHeartbeats 2000000 in
theorem iwA {w : World} {v : Value} {p : Nat → Bool} {kk : Int} (h : Cn A w v p kk) : Fc Tryz.prog 34 #[v] w (Ret w (.pred (bjA w.heap.size 22 .u64 (wordsOf p)))) := by
  have hm' := d1A p
  have hwl := bdA p
  obtain ⟨hp, ⟨rfl, kd, va, hkd, rfl, ho⟩ | ⟨rfl, vw, rfl, ho⟩ | ⟨rfl, vr, rfl, ho⟩⟩ := h
  · have hww : wordsOf (bkA (adA p 65536)) = wordsOf p := beA fun i hi => c6A p hi
    refine Fc.of (args := [_]) Tryz.func34 rfl rfl Tryz.ntmps34 (Nat.le_of_ble_eq_true rfl) ?_
    repeat' (first|(refine oLA ?_;first|refine a0A rfl ?_|refine dfA ?_|refine wOp ?_|(refine wCm ?_ ?_<;>intro hc)|(refine oCv ?_;first|(refine oC 70 ?_; refine a1A (f := 70) rfl rfl rfl  (.pred (bjA _ 22 .u64 (wordsOf p))) (by intro u1 w e hu1; (try obtain rfl : u1 = _ := hu1); exact (w9A _ _ _ (ho.ext e).slI (ckA p)).mono (moA e.size hww)) ?_))|(refine wNl hK ?_;clear hK K))|refine wG ?_|(refine wCR ?_;intro K hK)|fail)
    all_goals skip
    all_goals exact alA rfl rfl (Ext.refl _) (fun _ _ _ hv => hv)
  · refine Fc.of (args := [_]) Tryz.func34 rfl rfl Tryz.ntmps34 (Nat.le_of_ble_eq_true rfl) ?_
    repeat' (first|(refine oLA ?_;first|refine a0A rfl ?_|refine dfA ?_|refine wOp ?_|(refine wCm ?_ ?_<;>intro hc)|(refine oCv ?_;first|(refine oC 69 ?_; refine a1A (f := 69) rfl rfl rfl  (.pred (bjA _ 22 .u64 (wordsOf p))) (by intro u1 w e hu1; (try obtain rfl : u1 = _ := hu1); exact (oyA _ _ _ (ho.ext e).slI (by omega)).mono (aaA e.size)) ?_))|(refine wNl hK ?_;clear hK K))|refine wG ?_|(refine wCR ?_;intro K hK)|fail)
    all_goals skip
    all_goals exact alA rfl rfl (Ext.refl _) (fun _ _ _ hv => hv)
  · have hww : wordsOf (inR (aoA p)) = wordsOf p := beA fun i hi => gfA p hi
    rw [← hww]
    have h := ho.slR
    have hu := dtA p
    have hr := e0A p
    obtain ⟨rs, hrs⟩ : ∃ rs, rs = aoA p := ⟨_, rfl⟩
    rw [← hrs] at h hu hr hm' ⊢
    have hlen := h.len
    refine Fc.of (args := [_]) Tryz.func34 rfl rfl Tryz.ntmps34 (Nat.le_of_ble_eq_true rfl) ?_
    repeat' (first|(refine oLA ?_;first|refine a0A rfl ?_|refine dfA ?_|(refine oI ?_; refine b7A rfl _ rfl (fun _ => rfl) rfl (by first | exact HasR.val (by assumption) | exact HasR.own | exact HasR.ownV (by assumption)) rfl (by omega) ?_)|(refine oLt 96 ?_; refine anA rfl (fun _ => rfl) (fun _ => rfl) rfl ?_)|(show LA _ _ _ _ (⟨some 99, .alloc _, _, _, _, _⟩ :: _) _; refine a4A (hK _ _ (c7A rfl rfl (by decide) (fun _ => rfl) (fun _ => rfl) (fun _ => rfl) rfl (by intro u hu; simp [Value.cells] at hu; rcases hu with rfl | rfl <;> rfl) (fun bx wx ex hbx hbc => ?_))); clear hK K; refine amA (by kernel_rfl) (fun K hK => ?_))|(refine oF 0 ?_; refine a2A (a := ⟨bx, 0, none⟩) (a' := ⟨bx, 0, none⟩) rfl rfl (fun _ => rfl) ?_)|(refine oF 1 ?_; refine a2A (a := ⟨bx, 0, none⟩) (a' := ⟨bx, 1, none⟩) rfl rfl (fun _ => rfl) ?_)|(refine oLt 96 ?_; refine b6A rfl (fun _ => rfl) (fun _ => rfl) rfl hbc ?_)|(refine oLt 72 ?_; refine a8A rfl (fun _ => rfl) rfl hbc rfl ?_)|(refine cyA ?_; refine bzA rfl _ rfl rfl (by first | exact HasR.val (by assumption) | exact HasR.own | exact HasR.ownV (by assumption)) ?_)|refine wOp ?_|(refine wCm ?_ ?_<;>intro hc)|(refine oCv ?_;first|(refine oC 70 ?_; refine a1A (f := 70) rfl rfl rfl  (.pred (bjA w.heap.size 22 .u64 (wordsOf (inR [])))) (by intro u1 w e hu1; (try obtain rfl : u1 = _ := hu1); exact (w9A _ _ [] SlI.nil16 (fun x hx => by cases hx)).mono (moA e.size (beA fun i _ => by simp [bkA, inR]))) ?_))|(refine wNl hK ?_;clear hK K))|refine wG ?_|(refine wCR ?_;intro K hK)|fail)
    refine g6A 3 rfl (fun v3 w3 e3 h3 => ?_)
    have h3 : OwnI w.heap.size 22 .u64 w3 v3 (wordsOf (inR [])) := h3
    refine ahA (ι := Nat × Value) (fun i => [(3, .val i.2), (17, .val vr), (18, .val (.int .i64 rs.length)), (19, .val (.int .i64 i.1))]) (fun i w' => Ext w w' ∧ i.1 ≤ rs.length ∧ OwnI w.heap.size 22 .u64 w' i.2 (wordsOf (inR (rs.take i.1)))) (fun i => rs.length - i.1)
      (fun w2 e2 => ⟨(0, v3), ⟨e3.trans e2, Nat.zero_le _, by dsimp only; rw [List.take_zero]; exact h3.ext e2⟩, (by repeat' (first | exact Sub.nil | refine Sub.val rfl (by first | with_reducible rfl | (congr 1; omega)) ?_ | refine Sub.same rfl ?_))⟩) ?_
    rintro ⟨k, so⟩ w1 ⟨he, hk, ho⟩
    dsimp only at hk ho ⊢
    have h1 := h.ext he
    by_cases hkl : k < rs.length
    · obtain ⟨u1, u2, u3, u4⟩ := hu.at k
      obtain ⟨-, hr2⟩ := hr k hkl
      have hfr := rdA hr hu hkl
      repeat' (first|(refine oLA ?_;first|refine a0A rfl ?_|(refine oI ?_; refine b7A rfl _ rfl (fun _ => rfl) rfl (by first | exact HasR.val (by assumption) | exact HasR.own | exact HasR.ownV (by assumption)) rfl (by omega) ?_)|(refine oLt 96 ?_; refine anA rfl (fun _ => rfl) (fun _ => rfl) rfl ?_)|(show LA _ _ _ _ (⟨some 5, .alloc _, _, _, _, _⟩ :: _) _; refine a4A (hK _ _ (c7A rfl rfl (by decide) (fun _ => rfl) (fun _ => rfl) (fun _ => rfl) rfl (by intro u hu; simp [Value.cells] at hu; rcases hu with rfl | rfl <;> rfl) (fun bx wx ex hbx hbc => ?_))); clear hK K; refine amA (by kernel_rfl) (fun K hK => ?_))|(refine oF 0 ?_; refine a2A (a := ⟨bx, 0, none⟩) (a' := ⟨bx, 0, none⟩) rfl rfl (fun _ => rfl) ?_)|(refine oF 1 ?_; refine a2A (a := ⟨bx, 0, none⟩) (a' := ⟨bx, 1, none⟩) rfl rfl (fun _ => rfl) ?_)|(refine oLt 96 ?_; refine b6A rfl (fun _ => rfl) (fun _ => rfl) rfl hbc ?_)|(refine oLt 72 ?_; refine a8A rfl (fun _ => rfl) rfl hbc rfl ?_)|(refine cyA ?_; refine bzA rfl _ rfl rfl (by first | exact HasR.val (by assumption) | exact HasR.own | exact HasR.ownV (by assumption)) ?_)|refine wOp ?_|(refine wCm ?_ ?_<;>intro hc)|(refine oCv ?_;first|(refine oC 71 ?_; refine bhA (f := 71) rfl rfl rfl rfl rfl  (.pred (bjA w.heap.size 22 .u64 (wordsOf (inR (rs.take (k + 1)))))) (by intro u1 u2 u3 w e hu1 hu2 hu3; (try obtain rfl : u1 = _ := hu1); (try obtain rfl : u2 = _ := hu2); (try obtain rfl : u3 = _ := hu3); exact (l3A _ _ (inR (rs.take k)) (OwnI.slI (ho.ext (ex.trans e))) _ _ (by omega) (by omega)).mono (moA (Nat.le_trans he.size (Nat.le_trans ex.size e.size)) hfr)) ?_))|(refine wNl hK ?_;clear hK K))|refine wG ?_|(refine wCR ?_;intro K hK)|fail)
      refine vpA 3 rfl (fun v4 w4 e4 h4 => ?_)
      have h4 : OwnI w.heap.size 22 .u64 w4 v4 (wordsOf (inR (rs.take (k + 1)))) := h4
      exact a7A (k + 1, v4) (fun w5 e5 => ⟨he.trans (ex.trans (e4.trans e5)), hkl, h4.ext e5⟩) (by dsimp only; omega) (by repeat' (first | exact Sub.nil | refine Sub.val rfl (by first | with_reducible rfl | (congr 1; omega)) ?_ | refine Sub.same rfl ?_))
    · obtain rfl : k = rs.length := by omega
      rw [List.take_length] at ho
      repeat' (first|(refine oLA ?_;first|refine a0A rfl ?_|refine wOp ?_|(refine wCm ?_ ?_<;>intro hc)|(refine wNl hK ?_;clear hK K))|refine wG ?_|(refine wCR ?_;intro K hK)|fail)
      exact alA rfl rfl he (fun u w5 e5 hu' => by obtain rfl : u = _ := hu'; exact ho.ext e5)
theorem b4A {p : Nat → Bool} {kk : Int} : Lays (cnP A p kk) 4 65 :=
  ⟨fun v w h => by
    obtain ⟨kd, va, vw, vr, rfl, -, -, -, -, -, -, h1⟩ := Cn.parts h
    exact ⟨_, rfl, rfl, h1⟩, fun v w b cur j cs h hb => Cn.setRow h hb ⟨by decide, by decide, by decide⟩ cs⟩
theorem mtA (p : Nat → Bool) : ∃ n r : Nat, ∃ kq : Int, cnt p 65536 = n ∧ cnt (biA p) 65536 = r ∧ aqA p = kq ∧ n ≤ 65536 ∧ r ≤ 65536 ∧
    ((n ≤ 4096 ∧ 2 + 4 * (r : Int) < 2 * n ∧ kq = 3) ∨ (n ≤ 4096 ∧ ¬ 2 + 4 * (r : Int) < 2 * n ∧ kq = 1) ∨ (¬ n ≤ 4096 ∧ 2 + 4 * (r : Int) < 8192 ∧ kq = 3) ∨ (¬ n ≤ 4096 ∧ ¬ 2 + 4 * (r : Int) < 8192 ∧ kq = 2)) := by
  refine ⟨_, _, _, rfl, rfl, rfl, cnt_le _ _, cnt_le _ _, ?_⟩
  unfold aqA t9A
  generalize cnt p 65536 = n
  generalize cnt (biA p) 65536 = r
  by_cases h1 : n ≤ 4096
  · by_cases h2 : 2 + 4 * (r : Int) < 2 * n
    · exact .inl ⟨h1, h2, by simp [h1, h2]⟩
    · exact .inr (.inl ⟨h1, h2, by simp [h1, h2]⟩)
  · by_cases h2 : 2 + 4 * (r : Int) < 8192
    · exact .inr (.inr (.inl ⟨h1, h2, by simp [h1, h2]⟩))
    · exact .inr (.inr (.inr ⟨h1, h2, by simp [h1, h2]⟩))
set_option maxHeartbeats 4000000 in
theorem d4A {w : World} {v : Value} {p : Nat → Bool} {kk : Int} (h : Cn A w v p kk) (hT : Tab w) (hA : Fsh A w) : Fc Tryz.prog 75 #[v] w (Ret w (.pred (cnP A p (aqA p)))) := by
  obtain ⟨n, r, kq, en, er, eq, h1, h2, hK⟩ := mtA p
  have hp := h.1
  have hk : ∀ w', Ext w w' → _ := fun w' e => fcA (h.ext e)
  have hl : ∀ w', Ext w w' → _ := fun w' e => hsA (h.ext e)
  have hm : ∀ w', Ext w w' → _ := fun w' e => x0A (h.ext e)
  have hru : ∀ w', Ext w w' → _ := fun w' e => kqA (h.ext e) (hT.ext e)
  have ha : ∀ w', Ext w w' → _ := fun w' e => p4A (h.ext e) (hT.ext e)
  have hw : ∀ w', Ext w w' → _ := fun w' e => iwA (h.ext e)
  have hs : ∀ w', Ext w w' → Cn A w' v p kk := fun w' e => h.ext e
  obtain ⟨kd, va, vw, vr, rfl, -, -, -, -, k1, k2, -⟩ := h.parts
  rw [en] at hl; rw [er] at hm; rw [eq]
  clear h en er eq
  rcases hK with ⟨a1, a2, rfl⟩ | ⟨a1, a2, rfl⟩ | ⟨a1, a2, rfl⟩ | ⟨a1, a2, rfl⟩
  · skip
    by_cases hkk : kk = 3
    all_goals
      refine Fc.of (args := [_]) Tryz.func75 rfl rfl Tryz.ntmps75 (Nat.le_of_ble_eq_true rfl) ?_
      repeat' (first|(refine oLA ?_;first|refine a0A rfl ?_|refine dfA ?_|refine bgA rfl (fun _ => rfl) ?_|(refine acA (j1 := 3) (c := fun u => .agg #[.int .u8 3, .slice none 0 0, .slice none 0 0, u]) rfl rfl rfl (fun v1 w1 hv1 => by obtain ⟨a', c', rfl⟩ := (OwnR.slR hv1).isSlice; kernel_rfl) ?_)|(refine acA (j1 := 1) (c := fun u => .agg #[.int .u8 1, u, .slice none 0 0, .slice none 0 0]) rfl rfl rfl (fun v1 w1 hv1 => by obtain ⟨a', c', rfl⟩ := (OwnI.slI hv1).isSlice; kernel_rfl) ?_)|(refine acA (j1 := 2) (c := fun u => .agg #[.int .u8 2, .slice none 0 0, u, .slice none 0 0]) rfl rfl rfl (fun v1 w1 hv1 => by obtain ⟨a', c', rfl⟩ := (OwnI.slI hv1).isSlice; kernel_rfl) ?_)|(refine a4A (hK _ _ (bvA (φ := cnP A p 3) (w0 := w) rfl rfl rfl b4A (fun v' w' e hv => ?_) rfl (fun _ => rfl) (Ext.refl _) (fun w' e' => ?_))); clear hK K)|refine wOp ?_|(refine wCm ?_ ?_<;>intro hc)|(refine oCv ?_;first|(refine oC 51 ?_; refine a1A (f := 51) rfl rfl rfl  (.val (.int .i64 n)) (by intro u1 w e hu1; (try obtain rfl : u1 = _ := hu1); exact hl _ e) ?_)|(refine oC 126 ?_; refine a1A (f := 126) rfl rfl rfl  (.val (.int .i64 r)) (by intro u1 w e hu1; (try obtain rfl : u1 = _ := hu1); exact hm _ e) ?_)|(refine oC 82 ?_; refine a1A (f := 82) rfl rfl rfl  (.val (.int .u8 kk)) (by intro u1 w e hu1; (try obtain rfl : u1 = _ := hu1); exact hk _ e) ?_)|(refine oC 36 ?_; refine a1A (f := 36) rfl rfl rfl  (.pred (ekA _ 96 (aoA p))) (by intro u1 w e hu1; (try obtain rfl : u1 = _ := hu1); exact (hru _ e).mono (azA e.size rfl)) ?_)|(refine oC 64 ?_; refine a1A (f := 64) rfl rfl rfl  (.pred (bjA _ 72 .u16 (adA p 65536))) (by intro u1 w e hu1; (try obtain rfl : u1 = _ := hu1); exact (ha _ e).mono (aaA e.size)) ?_)|(refine oC 34 ?_; refine a1A (f := 34) rfl rfl rfl  (.pred (bjA _ 22 .u64 (wordsOf p))) (by intro u1 w e hu1; (try obtain rfl : u1 = _ := hu1); exact (hw _ e).mono (aaA e.size)) ?_))|(refine wNl hK ?_;clear hK K))|refine wG ?_|(refine wCR ?_;intro K hK)|(refine oPX ?_;first|exact bxA rfl rfl rfl rfl rfl (by assumption))|fail)
      all_goals skip
      all_goals first
        | (obtain rfl : v' = _ := hv; exact hkk ▸ hs _ e)
        | (obtain ⟨u, rfl, hu⟩ := hv; exact Cn.rns hp rfl hu hA)
  · skip
    by_cases hkk : kk = 1
    all_goals
      refine Fc.of (args := [_]) Tryz.func75 rfl rfl Tryz.ntmps75 (Nat.le_of_ble_eq_true rfl) ?_
      repeat' (first|(refine oLA ?_;first|refine a0A rfl ?_|refine dfA ?_|refine bgA rfl (fun _ => rfl) ?_|(refine acA (j1 := 3) (c := fun u => .agg #[.int .u8 3, .slice none 0 0, .slice none 0 0, u]) rfl rfl rfl (fun v1 w1 hv1 => by obtain ⟨a', c', rfl⟩ := (OwnR.slR hv1).isSlice; kernel_rfl) ?_)|(refine acA (j1 := 1) (c := fun u => .agg #[.int .u8 1, u, .slice none 0 0, .slice none 0 0]) rfl rfl rfl (fun v1 w1 hv1 => by obtain ⟨a', c', rfl⟩ := (OwnI.slI hv1).isSlice; kernel_rfl) ?_)|(refine acA (j1 := 2) (c := fun u => .agg #[.int .u8 2, .slice none 0 0, u, .slice none 0 0]) rfl rfl rfl (fun v1 w1 hv1 => by obtain ⟨a', c', rfl⟩ := (OwnI.slI hv1).isSlice; kernel_rfl) ?_)|(refine a4A (hK _ _ (bvA (φ := cnP A p 1) (w0 := w) rfl rfl rfl b4A (fun v' w' e hv => ?_) rfl (fun _ => rfl) (Ext.refl _) (fun w' e' => ?_))); clear hK K)|refine wOp ?_|(refine wCm ?_ ?_<;>intro hc)|(refine oCv ?_;first|(refine oC 51 ?_; refine a1A (f := 51) rfl rfl rfl  (.val (.int .i64 n)) (by intro u1 w e hu1; (try obtain rfl : u1 = _ := hu1); exact hl _ e) ?_)|(refine oC 126 ?_; refine a1A (f := 126) rfl rfl rfl  (.val (.int .i64 r)) (by intro u1 w e hu1; (try obtain rfl : u1 = _ := hu1); exact hm _ e) ?_)|(refine oC 82 ?_; refine a1A (f := 82) rfl rfl rfl  (.val (.int .u8 kk)) (by intro u1 w e hu1; (try obtain rfl : u1 = _ := hu1); exact hk _ e) ?_)|(refine oC 36 ?_; refine a1A (f := 36) rfl rfl rfl  (.pred (ekA _ 96 (aoA p))) (by intro u1 w e hu1; (try obtain rfl : u1 = _ := hu1); exact (hru _ e).mono (azA e.size rfl)) ?_)|(refine oC 64 ?_; refine a1A (f := 64) rfl rfl rfl  (.pred (bjA _ 72 .u16 (adA p 65536))) (by intro u1 w e hu1; (try obtain rfl : u1 = _ := hu1); exact (ha _ e).mono (aaA e.size)) ?_)|(refine oC 34 ?_; refine a1A (f := 34) rfl rfl rfl  (.pred (bjA _ 22 .u64 (wordsOf p))) (by intro u1 w e hu1; (try obtain rfl : u1 = _ := hu1); exact (hw _ e).mono (aaA e.size)) ?_))|(refine wNl hK ?_;clear hK K))|refine wG ?_|(refine wCR ?_;intro K hK)|(refine oPX ?_;first|exact bxA rfl rfl rfl rfl rfl (by assumption))|fail)
      all_goals skip
      all_goals first
        | (obtain rfl : v' = _ := hv; exact hkk ▸ hs _ e)
        | (obtain ⟨u, rfl, hu⟩ := hv; exact Cn.arr hp rfl hu hA)
  · skip
    by_cases hkk : kk = 3
    all_goals
      refine Fc.of (args := [_]) Tryz.func75 rfl rfl Tryz.ntmps75 (Nat.le_of_ble_eq_true rfl) ?_
      repeat' (first|(refine oLA ?_;first|refine a0A rfl ?_|refine dfA ?_|refine bgA rfl (fun _ => rfl) ?_|(refine acA (j1 := 3) (c := fun u => .agg #[.int .u8 3, .slice none 0 0, .slice none 0 0, u]) rfl rfl rfl (fun v1 w1 hv1 => by obtain ⟨a', c', rfl⟩ := (OwnR.slR hv1).isSlice; kernel_rfl) ?_)|(refine acA (j1 := 1) (c := fun u => .agg #[.int .u8 1, u, .slice none 0 0, .slice none 0 0]) rfl rfl rfl (fun v1 w1 hv1 => by obtain ⟨a', c', rfl⟩ := (OwnI.slI hv1).isSlice; kernel_rfl) ?_)|(refine acA (j1 := 2) (c := fun u => .agg #[.int .u8 2, .slice none 0 0, u, .slice none 0 0]) rfl rfl rfl (fun v1 w1 hv1 => by obtain ⟨a', c', rfl⟩ := (OwnI.slI hv1).isSlice; kernel_rfl) ?_)|(refine a4A (hK _ _ (bvA (φ := cnP A p 3) (w0 := w) rfl rfl rfl b4A (fun v' w' e hv => ?_) rfl (fun _ => rfl) (Ext.refl _) (fun w' e' => ?_))); clear hK K)|refine wOp ?_|(refine wCm ?_ ?_<;>intro hc)|(refine oCv ?_;first|(refine oC 51 ?_; refine a1A (f := 51) rfl rfl rfl  (.val (.int .i64 n)) (by intro u1 w e hu1; (try obtain rfl : u1 = _ := hu1); exact hl _ e) ?_)|(refine oC 126 ?_; refine a1A (f := 126) rfl rfl rfl  (.val (.int .i64 r)) (by intro u1 w e hu1; (try obtain rfl : u1 = _ := hu1); exact hm _ e) ?_)|(refine oC 82 ?_; refine a1A (f := 82) rfl rfl rfl  (.val (.int .u8 kk)) (by intro u1 w e hu1; (try obtain rfl : u1 = _ := hu1); exact hk _ e) ?_)|(refine oC 36 ?_; refine a1A (f := 36) rfl rfl rfl  (.pred (ekA _ 96 (aoA p))) (by intro u1 w e hu1; (try obtain rfl : u1 = _ := hu1); exact (hru _ e).mono (azA e.size rfl)) ?_)|(refine oC 64 ?_; refine a1A (f := 64) rfl rfl rfl  (.pred (bjA _ 72 .u16 (adA p 65536))) (by intro u1 w e hu1; (try obtain rfl : u1 = _ := hu1); exact (ha _ e).mono (aaA e.size)) ?_)|(refine oC 34 ?_; refine a1A (f := 34) rfl rfl rfl  (.pred (bjA _ 22 .u64 (wordsOf p))) (by intro u1 w e hu1; (try obtain rfl : u1 = _ := hu1); exact (hw _ e).mono (aaA e.size)) ?_))|(refine wNl hK ?_;clear hK K))|refine wG ?_|(refine wCR ?_;intro K hK)|(refine oPX ?_;first|exact bxA rfl rfl rfl rfl rfl (by assumption))|fail)
      all_goals skip
      all_goals first
        | (obtain rfl : v' = _ := hv; exact hkk ▸ hs _ e)
        | (obtain ⟨u, rfl, hu⟩ := hv; exact Cn.rns hp rfl hu hA)
  · skip
    by_cases hkk : kk = 2
    all_goals
      refine Fc.of (args := [_]) Tryz.func75 rfl rfl Tryz.ntmps75 (Nat.le_of_ble_eq_true rfl) ?_
      repeat' (first|(refine oLA ?_;first|refine a0A rfl ?_|refine dfA ?_|refine bgA rfl (fun _ => rfl) ?_|(refine acA (j1 := 3) (c := fun u => .agg #[.int .u8 3, .slice none 0 0, .slice none 0 0, u]) rfl rfl rfl (fun v1 w1 hv1 => by obtain ⟨a', c', rfl⟩ := (OwnR.slR hv1).isSlice; kernel_rfl) ?_)|(refine acA (j1 := 1) (c := fun u => .agg #[.int .u8 1, u, .slice none 0 0, .slice none 0 0]) rfl rfl rfl (fun v1 w1 hv1 => by obtain ⟨a', c', rfl⟩ := (OwnI.slI hv1).isSlice; kernel_rfl) ?_)|(refine acA (j1 := 2) (c := fun u => .agg #[.int .u8 2, .slice none 0 0, u, .slice none 0 0]) rfl rfl rfl (fun v1 w1 hv1 => by obtain ⟨a', c', rfl⟩ := (OwnI.slI hv1).isSlice; kernel_rfl) ?_)|(refine a4A (hK _ _ (bvA (φ := cnP A p 2) (w0 := w) rfl rfl rfl b4A (fun v' w' e hv => ?_) rfl (fun _ => rfl) (Ext.refl _) (fun w' e' => ?_))); clear hK K)|refine wOp ?_|(refine wCm ?_ ?_<;>intro hc)|(refine oCv ?_;first|(refine oC 51 ?_; refine a1A (f := 51) rfl rfl rfl  (.val (.int .i64 n)) (by intro u1 w e hu1; (try obtain rfl : u1 = _ := hu1); exact hl _ e) ?_)|(refine oC 126 ?_; refine a1A (f := 126) rfl rfl rfl  (.val (.int .i64 r)) (by intro u1 w e hu1; (try obtain rfl : u1 = _ := hu1); exact hm _ e) ?_)|(refine oC 82 ?_; refine a1A (f := 82) rfl rfl rfl  (.val (.int .u8 kk)) (by intro u1 w e hu1; (try obtain rfl : u1 = _ := hu1); exact hk _ e) ?_)|(refine oC 36 ?_; refine a1A (f := 36) rfl rfl rfl  (.pred (ekA _ 96 (aoA p))) (by intro u1 w e hu1; (try obtain rfl : u1 = _ := hu1); exact (hru _ e).mono (azA e.size rfl)) ?_)|(refine oC 64 ?_; refine a1A (f := 64) rfl rfl rfl  (.pred (bjA _ 72 .u16 (adA p 65536))) (by intro u1 w e hu1; (try obtain rfl : u1 = _ := hu1); exact (ha _ e).mono (aaA e.size)) ?_)|(refine oC 34 ?_; refine a1A (f := 34) rfl rfl rfl  (.pred (bjA _ 22 .u64 (wordsOf p))) (by intro u1 w e hu1; (try obtain rfl : u1 = _ := hu1); exact (hw _ e).mono (aaA e.size)) ?_))|(refine wNl hK ?_;clear hK K))|refine wG ?_|(refine wCR ?_;intro K hK)|(refine oPX ?_;first|exact bxA rfl rfl rfl rfl rfl (by assumption))|fail)
      all_goals skip
      all_goals first
        | (obtain rfl : v' = _ := hv; exact hkk ▸ hs _ e)
        | (obtain ⟨u, rfl, hu⟩ := hv; exact Cn.wrd hp rfl hu hA)
end Go.Proofs.YtfcioiobhpcngaaGreatDoor
end
section
set_option linter.unusedSimpArgs false
set_option linter.unusedVariables false
set_option maxRecDepth 3000
namespace Go.Proofs.YtfcioiobhpcngaaGreatDoor
open Go.LA Go.ArrP Go.RowKit
variable {A : Nat → Prop}
theorem qxA {xs : List Int} (hl : Low xs) : bkA xs 65536 = false := by
  unfold bkA
  refine decide_eq_false fun h => ?_
  have := (hl _ h).2; omega
theorem ujA {w : World} {v : Value} {xs : List Int} (h : SlI .u16 w v xs) (hi : Inc xs) (hl : Low xs) (hA : Fsh A w) : Fc Tryz.prog 32 #[v] w (Ret w (.tup2 (.pred (cnP A (bkA xs) 1)) (.val (.bool true)))) := by
  have hx : adA (bkA xs) 65536 = xs := hxA hi hl
  have hn : xs.length ≤ 65536 := by rw [← hx]; exact keA _
  have hp := qxA hl
  refine Fc.of (args := [_]) Tryz.func32 rfl rfl Tryz.ntmps32 (Nat.le_of_ble_eq_true rfl) ?_
  repeat' (first|(refine oLA ?_;first|refine a0A rfl ?_|refine bgA rfl (fun _ => rfl) ?_|(refine acA (j1 := 1) (c := fun u => .agg #[.int .u8 1, u, .slice none 0 0, .slice none 0 0]) rfl rfl rfl (fun v1 w1 hv1 => by obtain ⟨a', c', rfl⟩ := (OwnI.slI hv1).isSlice; kernel_rfl) ?_)|(refine a4A (hK _ _ (bvA (φ := cnP A (bkA xs) 1) (w0 := w) rfl rfl rfl b4A (fun v' w' e hv => by obtain ⟨u, rfl, hu⟩ := hv; exact Cn.arr hp hx.symm hu hA) rfl (fun _ => rfl) (Ext.refl _) (fun w' e' => ?_))); clear hK K; refine amA (by kernel_rfl) (fun K hK => ?_))|refine wOp ?_|(refine wCm ?_ ?_<;>intro hc)|(refine oCv ?_;first|(refine oC 68 ?_; refine a1A (f := 68) rfl rfl rfl  (.val (.bool true)) (by intro u1 w e hu1; (try obtain rfl : u1 = _ := hu1); exact qmA (may_c _ _ xs (h.ext e)) (decide_eq_true hi)) ?_)|(refine oC 55 ?_; refine a1A (f := 55) rfl rfl rfl  (.pred (bjA _ 72 .u16 xs)) (by intro u1 w e hu1; (try obtain rfl : u1 = _ := hu1); exact (foA _ _ _ (h.ext e) hn).mono (aaA e.size)) ?_))|(refine wNl hK ?_;clear hK K))|refine wG ?_|(refine wCR ?_;intro K hK)|(refine oPX ?_;first|exact s4A rfl rfl rfl rfl rfl rfl (by assumption))|fail)
  all_goals skip
def flp (p : Nat → Bool) (lo hi : Int) : Nat → Bool := two fxA p (d9A lo hi)
theorem v4A {p : Nat → Bool} (hp : p 65536 = false) (lo hi : Int) : flp p lo hi 65536 = false := by
  unfold flp two fxA; rw [hp, l7A]; rfl
theorem opA (p : Nat → Bool) (lo hi : Int) {i : Nat} (h : i < 65536) : jrA p lo hi i = flp p lo hi i := by
  unfold flp two fxA jrA d9A; rw [decide_eq_true h, Bool.and_true]
set_option maxHeartbeats 2000000 in
theorem xaA {w : World} {v : Value} {p : Nat → Bool} {kk : Int} (h : Cn A w v p kk) (hT : Tab w) (hA : Fsh A w) (lo hi : Int) (hlo : -9223372036854775808 ≤ lo ∧ lo < 9223372036854775808) (hhi : -9223372036854775808 ≤ hi ∧ hi < 9223372036854775808) :
    Fc Tryz.prog 49 #[v, .int .i64 lo, .int .i64 hi] w (Ret w (.pred (cnP A (flp p lo hi) (aqA (flp p lo hi))))) := by
  have hq := v4A h.1 lo hi
  have hww : wordsOf (jrA p lo hi) = wordsOf (flp p lo hi) := beA fun i hi' => opA p lo hi hi'
  have hru : ∀ w', Ext w w' → _ := fun w' e => kqA (h.ext e) (hT.ext e)
  obtain ⟨hp, ⟨rfl, kd, va, hkd, rfl, ho⟩ | ⟨rfl, vw, rfl, ho⟩ | ⟨rfl, vr, rfl, ho⟩⟩ := h
  · skip
    refine Fc.of (args := [_, _, _]) Tryz.func49 rfl rfl Tryz.ntmps49 (Nat.le_of_ble_eq_true rfl) ?_
    repeat' (first|(refine oLA ?_;first|refine a0A rfl ?_|refine dfA ?_|refine bgA rfl (fun _ => rfl) ?_|(refine acA (j1 := 3) (c := fun u => .agg #[.int .u8 3, .slice none 0 0, .slice none 0 0, u]) rfl rfl rfl (fun v1 w1 hv1 => by obtain ⟨a', c', rfl⟩ := (OwnR.slR hv1).isSlice; kernel_rfl) ?_)|(refine acA (j1 := 2) (c := fun u => .agg #[.int .u8 2, .slice none 0 0, u, .slice none 0 0]) rfl rfl rfl (fun v1 w1 hv1 => by obtain ⟨a', c', rfl⟩ := (OwnI.slI hv1).isSlice; kernel_rfl) ?_)|(refine a4A (hK _ _ (bvA (φ := cnP A (flp p lo hi) (aqA (flp p lo hi))) (w0 := w) rfl rfl rfl b4A (fun v' w' e hv => hv) rfl (fun _ => rfl) (Ext.refl _) (fun w' e' => ?_))); clear hK K)|refine wOp ?_|(refine wCm ?_ ?_<;>intro hc)|(refine oCv ?_;first|(refine oC 71 ?_; refine bhA (f := 71) rfl rfl rfl rfl rfl  (.pred (bjA _ 22 .u64 (wordsOf (flp p lo hi)))) (by intro u1 u2 u3 w e hu1 hu2 hu3; (try obtain rfl : u1 = _ := hu1); (try obtain rfl : u2 = _ := hu2); (try obtain rfl : u3 = _ := hu3); exact (l3A _ _ p (ho.ext e).slI lo hi hlo hhi).mono (moA e.size hww)) ?_)|(refine oC 36 ?_; refine a1A (f := 36) rfl rfl rfl  (.pred (ekA _ 96 (aoA p))) (by intro u1 w e hu1; (try obtain rfl : u1 = _ := hu1); exact (hru _ e).mono (azA e.size rfl)) ?_)|(refine oC 94 ?_; refine bhA (f := 94) rfl rfl rfl rfl rfl  (.pred (ekA _ 96 (aoA (flp p lo hi)))) (by intro u1 u2 u3 w e hu1 hu2 hu3; (try obtain rfl : u1 = _ := hu1); (try obtain rfl : u2 = _ := hu2); (try obtain rfl : u3 = _ := hu3); exact (ieA _ _ p lo hi hp (OwnR.slR hu1) hlo hhi).mono (azA e.size rfl)) ?_)|(refine oC 75 ?_; refine a1A (f := 75) rfl rfl rfl  (.pred (cnP A (flp p lo hi) (aqA (flp p lo hi)))) (by intro u1 w e hu1; (try obtain rfl : u1 = _ := hu1); exact by obtain ⟨u, rfl, hu⟩ := hu1; exact d4A (Cn.rns hq rfl hu hA) (hT.ext e) (hA.ext e)) ?_))|(refine wNl hK ?_;clear hK K))|refine wG ?_|(refine wCR ?_;intro K hK)|(refine oPX ?_;first|exact bxA rfl rfl rfl rfl rfl (by assumption))|fail)
    all_goals skip
  · skip
    refine Fc.of (args := [_, _, _]) Tryz.func49 rfl rfl Tryz.ntmps49 (Nat.le_of_ble_eq_true rfl) ?_
    repeat' (first|(refine oLA ?_;first|refine a0A rfl ?_|refine dfA ?_|refine bgA rfl (fun _ => rfl) ?_|(refine acA (j1 := 3) (c := fun u => .agg #[.int .u8 3, .slice none 0 0, .slice none 0 0, u]) rfl rfl rfl (fun v1 w1 hv1 => by obtain ⟨a', c', rfl⟩ := (OwnR.slR hv1).isSlice; kernel_rfl) ?_)|(refine acA (j1 := 2) (c := fun u => .agg #[.int .u8 2, .slice none 0 0, u, .slice none 0 0]) rfl rfl rfl (fun v1 w1 hv1 => by obtain ⟨a', c', rfl⟩ := (OwnI.slI hv1).isSlice; kernel_rfl) ?_)|(refine a4A (hK _ _ (bvA (φ := cnP A (flp p lo hi) (aqA (flp p lo hi))) (w0 := w) rfl rfl rfl b4A (fun v' w' e hv => hv) rfl (fun _ => rfl) (Ext.refl _) (fun w' e' => ?_))); clear hK K)|refine wOp ?_|(refine wCm ?_ ?_<;>intro hc)|(refine oCv ?_;first|(refine oC 71 ?_; refine bhA (f := 71) rfl rfl rfl rfl rfl  (.pred (bjA _ 22 .u64 (wordsOf (flp p lo hi)))) (by intro u1 u2 u3 w e hu1 hu2 hu3; (try obtain rfl : u1 = _ := hu1); (try obtain rfl : u2 = _ := hu2); (try obtain rfl : u3 = _ := hu3); exact (l3A _ _ p (ho.ext e).slI lo hi hlo hhi).mono (moA e.size hww)) ?_)|(refine oC 36 ?_; refine a1A (f := 36) rfl rfl rfl  (.pred (ekA _ 96 (aoA p))) (by intro u1 w e hu1; (try obtain rfl : u1 = _ := hu1); exact (hru _ e).mono (azA e.size rfl)) ?_)|(refine oC 94 ?_; refine bhA (f := 94) rfl rfl rfl rfl rfl  (.pred (ekA _ 96 (aoA (flp p lo hi)))) (by intro u1 u2 u3 w e hu1 hu2 hu3; (try obtain rfl : u1 = _ := hu1); (try obtain rfl : u2 = _ := hu2); (try obtain rfl : u3 = _ := hu3); exact (ieA _ _ p lo hi hp (OwnR.slR hu1) hlo hhi).mono (azA e.size rfl)) ?_)|(refine oC 75 ?_; refine a1A (f := 75) rfl rfl rfl  (.pred (cnP A (flp p lo hi) (aqA (flp p lo hi)))) (by intro u1 w e hu1; (try obtain rfl : u1 = _ := hu1); exact by obtain ⟨u, rfl, hu⟩ := hu1; exact d4A (Cn.wrd hq rfl hu hA) (hT.ext e) (hA.ext e)) ?_))|(refine wNl hK ?_;clear hK K))|refine wG ?_|(refine wCR ?_;intro K hK)|(refine oPX ?_;first|exact bxA rfl rfl rfl rfl rfl (by assumption))|fail)
    all_goals skip
  · skip
    refine Fc.of (args := [_, _, _]) Tryz.func49 rfl rfl Tryz.ntmps49 (Nat.le_of_ble_eq_true rfl) ?_
    repeat' (first|(refine oLA ?_;first|refine a0A rfl ?_|refine dfA ?_|refine bgA rfl (fun _ => rfl) ?_|(refine acA (j1 := 3) (c := fun u => .agg #[.int .u8 3, .slice none 0 0, .slice none 0 0, u]) rfl rfl rfl (fun v1 w1 hv1 => by obtain ⟨a', c', rfl⟩ := (OwnR.slR hv1).isSlice; kernel_rfl) ?_)|(refine acA (j1 := 2) (c := fun u => .agg #[.int .u8 2, .slice none 0 0, u, .slice none 0 0]) rfl rfl rfl (fun v1 w1 hv1 => by obtain ⟨a', c', rfl⟩ := (OwnI.slI hv1).isSlice; kernel_rfl) ?_)|(refine a4A (hK _ _ (bvA (φ := cnP A (flp p lo hi) (aqA (flp p lo hi))) (w0 := w) rfl rfl rfl b4A (fun v' w' e hv => hv) rfl (fun _ => rfl) (Ext.refl _) (fun w' e' => ?_))); clear hK K)|refine wOp ?_|(refine wCm ?_ ?_<;>intro hc)|(refine oCv ?_;first|(refine oC 71 ?_; refine bhA (f := 71) rfl rfl rfl rfl rfl  (.pred (bjA _ 22 .u64 (wordsOf (flp p lo hi)))) (by intro u1 u2 u3 w e hu1 hu2 hu3; (try obtain rfl : u1 = _ := hu1); (try obtain rfl : u2 = _ := hu2); (try obtain rfl : u3 = _ := hu3); exact (l3A _ _ p (ho.ext e).slI lo hi hlo hhi).mono (moA e.size hww)) ?_)|(refine oC 36 ?_; refine a1A (f := 36) rfl rfl rfl  (.pred (ekA _ 96 (aoA p))) (by intro u1 w e hu1; (try obtain rfl : u1 = _ := hu1); exact (hru _ e).mono (azA e.size rfl)) ?_)|(refine oC 94 ?_; refine bhA (f := 94) rfl rfl rfl rfl rfl  (.pred (ekA _ 96 (aoA (flp p lo hi)))) (by intro u1 u2 u3 w e hu1 hu2 hu3; (try obtain rfl : u1 = _ := hu1); (try obtain rfl : u2 = _ := hu2); (try obtain rfl : u3 = _ := hu3); exact (ieA _ _ p lo hi hp (OwnR.slR hu1) hlo hhi).mono (azA e.size rfl)) ?_)|(refine oC 75 ?_; refine a1A (f := 75) rfl rfl rfl  (.pred (cnP A (flp p lo hi) (aqA (flp p lo hi)))) (by intro u1 w e hu1; (try obtain rfl : u1 = _ := hu1); exact by obtain ⟨u, rfl, hu⟩ := hu1; exact d4A (Cn.rns hq rfl hu hA) (hT.ext e) (hA.ext e)) ?_))|(refine wNl hK ?_;clear hK K))|refine wG ?_|(refine wCR ?_;intro K hK)|(refine oPX ?_;first|exact bxA rfl rfl rfl rfl rfl (by assumption))|fail)
    all_goals skip
end Go.Proofs.YtfcioiobhpcngaaGreatDoor
end
section
set_option linter.unusedSimpArgs false
set_option linter.unusedVariables false
namespace Go.ArrP
open Go.LA
def f7A (q : Nat → Bool) (xs : List Int) : List Int := xs.filter (fun x => !q x.toNat)
def gcA (q : Nat → Bool) : List Int → Nat
  | [] => 0
  | x :: r => if q x.toNat then 0 else gcA q r + 1
theorem irA (q : Nat → Bool) : ∀ xs, gcA q xs ≤ xs.length
  | [] => Nat.le_refl _
  | x :: r => by
    have := irA q r
    unfold gcA; split
    · simp
    · simp only [List.length_cons]; omega
theorem ecA (q : Nat → Bool) : ∀ (xs : List Int) (j : Nat), j < gcA q xs → q (xs.getD j 0).toNat = false
  | [], j, h => by simp [gcA] at h
  | x :: r, 0, h => by
    unfold gcA at h
    split at h
    · omega
    · rename_i hq; simpa using hq
  | x :: r, j + 1, h => by
    unfold gcA at h
    split at h
    · omega
    · simpa using ecA q r j (by omega)
theorem kiA (q : Nat → Bool) : ∀ (xs : List Int), gcA q xs < xs.length → q (xs.getD (gcA q xs) 0).toNat = true
  | [], h => by simp at h
  | x :: r, h => by
    unfold gcA at h ⊢
    by_cases hq : q x.toNat = true
    · simp [hq]
    · simp only [hq, Bool.false_eq_true, if_false] at h ⊢
      simpa using kiA q r (by simpa using h)
theorem oiA (q : Nat → Bool) {xs : List Int} (h : gcA q xs = xs.length) : f7A q xs = xs := by
  unfold f7A
  rw [List.filter_eq_self]
  intro x hx
  obtain ⟨j, hj, rfl⟩ := List.getElem_of_mem hx
  have := ecA q xs j (by omega)
  rw [List.getD_eq_getElem?_getD, List.getElem?_eq_getElem hj] at this
  simpa using this
theorem ohA (q : Nat → Bool) (xs : List Int) : f7A q (xs.take (gcA q xs)) = xs.take (gcA q xs) := by
  unfold f7A
  rw [List.filter_eq_self]
  intro x hx
  obtain ⟨j, hj, rfl⟩ := List.getElem_of_mem hx
  have hj' : j < gcA q xs := by simp at hj; omega
  have := ecA q xs j hj'
  have hl : j < xs.length := by have := irA q xs; omega
  rw [List.getD_eq_getElem?_getD, List.getElem?_eq_getElem hl] at this
  simpa using this
theorem fvA (q : Nat → Bool) {xs : List Int} {j : Nat} (hj : j < xs.length) : f7A q (xs.take (j + 1)) = f7A q (xs.take j) ++ if q (xs.getD j 0).toNat then [] else [xs.getD j 0] := by
  unfold f7A
  rw [List.take_succ_eq_append_getElem hj, List.filter_append, List.getD_eq_getElem?_getD, List.getElem?_eq_getElem hj]
  cases hq : q xs[j].toNat <;> simp [hq]
structure Mid (q : Nat → Bool) (xs ys : List Int) (i j : Nat) : Prop where
  len : ys.length = xs.length
  lt : i < j
  le : j ≤ xs.length
  pre : ys.take i = f7A q (xs.take j)
  rest : ys.drop j = xs.drop j
theorem Mid.cur {q : Nat → Bool} {xs ys : List Int} {i j : Nat} (h : Mid q xs ys i j) (hj : j < xs.length) : ys.getD j 0 = xs.getD j 0 := by
  have := congrArg (fun l => l.getD 0 0) h.rest
  simpa [List.getD_eq_getElem?_getD, List.getElem?_drop] using this
theorem Mid.start (q : Nat → Bool) {xs : List Int} (h : gcA q xs < xs.length) : Mid q xs xs (gcA q xs) (gcA q xs + 1) :=
  ⟨rfl, by omega, by omega, by rw [fvA q h, kiA q xs h, ohA]; simp, rfl⟩
theorem Mid.skip {q : Nat → Bool} {xs ys : List Int} {i j : Nat} (h : Mid q xs ys i j) (hj : j < xs.length) (hq : q (xs.getD j 0).toNat = true) : Mid q xs ys i (j + 1) :=
  ⟨h.len, by have := h.lt; omega, by omega, by rw [fvA q hj, hq, h.pre]; simp, by
    have := congrArg (List.drop 1) h.rest
    simpa [List.drop_drop, Nat.add_comm] using this⟩
theorem Mid.put {q : Nat → Bool} {xs ys : List Int} {i j : Nat} (h : Mid q xs ys i j) (hj : j < xs.length) (hq : q (xs.getD j 0).toNat = false) : Mid q xs (ys.set i (xs.getD j 0)) (i + 1) (j + 1) := by
  have hlt := h.lt
  have hil : i < ys.length := by have := h.len; omega
  refine ⟨by simpa using h.len, by omega, by omega, ?_, ?_⟩
  · rw [fvA q hj, hq, ← h.pre]
    rw [List.take_succ_eq_append_getElem (by simpa using hil), List.getElem_set_self]
    simp [List.take_set_of_le]
  · rw [List.drop_set_of_lt (by omega)]
    have := congrArg (List.drop 1) h.rest
    simpa [List.drop_drop, Nat.add_comm] using this
theorem Mid.fin {q : Nat → Bool} {xs ys : List Int} {i : Nat} (h : Mid q xs ys i xs.length) : ys.take i = f7A q xs := by
  have := h.pre; rwa [List.take_length] at this
theorem jqA (p q : Nat → Bool) : ∀ n, f7A (fun i => !q i) (adA p n) = adA (fun i => p i && q i) n
  | 0 => rfl
  | n + 1 => by
    have ih := jqA p q n
    unfold f7A at ih ⊢
    simp only [adA, List.filter_append, ih]
    by_cases hp : p n = true
    · by_cases hq : q n = true
      · simp [hp, hq]
      · simp [hp, hq]
    · simp [hp]
end Go.ArrP
end
section
set_option linter.unusedSimpArgs false
set_option linter.unusedVariables false
set_option maxRecDepth 3000
namespace Go.Proofs.YtfcioiobhpcngaaGreatDoor
open Go.LA Go.ArrP Go.RowKit
def Tells (w : World) (fv : Value) (q : Nat → Bool) : Prop := ∀ w', Ext w w' → ∀ x : Nat, x < 65536 → Clb Tryz.prog fv [.int .u16 x] w' (Ret w' (.val (.bool (q x))))
theorem Tells.ext {w w' : World} {fv : Value} {q : Nat → Bool} (h : Tells w fv q) (e : Ext w w') : Tells w' fv q := fun w2 e2 => h w2 (e.trans e2)
set_option maxHeartbeats 2000000 in
theorem x6A (w : World) (v fv : Value) (xs : List Int) (q : Nat → Bool) (h : SlI .u16 w v xs) (hl : Low xs) (hF : Tells w fv q) :
    Fc Tryz.prog 192 #[v, fv] w (Ret w (.val (.int .i64 (if gcA q xs < xs.length then (gcA q xs : Int) else -1)))) := by
  have hlen := h.len
  have hle := irA q xs
  refine Fc.of (args := [_, _]) Tryz.func192 rfl rfl Tryz.ntmps192 (Nat.le_of_ble_eq_true rfl) ?_
  repeat' (first|(refine oLA ?_;first|refine a0A rfl ?_|refine wOp ?_|(refine wCm ?_ ?_<;>intro hc)|(refine wNl hK ?_;clear hK K))|refine wG ?_|(refine wCR ?_;intro K hK)|fail)
  refine b8A (ι := Nat) (fun j => [(0, .val v), (1, .val fv), (7, .val (.int .i64 xs.length)), (8, .val (.int .i64 j))]) (fun j => j ≤ gcA q xs) (fun j => xs.length - j) 0 (by omega) (by repeat' (first | exact Sub.nil | refine Sub.val rfl (by first | with_reducible rfl | (congr 1; omega)) ?_ | refine Sub.same rfl ?_)) ?_
  intro j hj
  by_cases hjl : j < xs.length
  · have hx : 0 ≤ xs.getD j 0 ∧ xs.getD j 0 < 65536 := by rw [axA hjl]; exact hl _ (List.getElem_mem hjl)
    obtain ⟨x, hxx⟩ := Int.eq_ofNat_of_zero_le hx.1
    have hx' : x < 65536 := by omega
    have hb := ecA q xs j
    have ha := kiA q xs
    rw [hxx, Int.toNat_natCast] at hb
    have hF0 : ∀ w', Ext w w' → Clb Tryz.prog fv [.int .u16 (xs.getD j 0)] w' (Ret w' (.val (.bool (q x)))) := fun w' e => by rw [hxx]; exact hF w' e x hx'
    cases hq : q x
    · rw [hq] at hF0
      have hne : j ≠ gcA q xs := fun e => by
        subst e
        rw [hxx, Int.toNat_natCast, hq] at ha
        cases ha hjl
      repeat' (first|(refine oLA ?_;first|refine a0A rfl ?_|refine wOp ?_|(refine wCm ?_ ?_<;>intro hc)|(refine oCv ?_;first|(refine f1A rfl rfl rfl (.val (.bool false)) (by intro vf u1 w' e hf hu1; obtain rfl : vf = _ := hf; obtain rfl : u1 = _ := hu1; exact hF0 w' e) ?_))|(refine wNl hK ?_;clear hK K))|refine wG ?_|(refine wCR ?_;intro K hK)|fail)
      refine bpA (j + 1) ?_ ?_ (by repeat' (first | exact Sub.nil | refine Sub.val rfl (by first | with_reducible rfl | (congr 1; omega)) ?_ | refine Sub.same rfl ?_))
      · omega
      · omega
    · rw [hq] at hF0
      have hjq : j = gcA q xs := by
        rcases Nat.lt_or_ge j (gcA q xs) with h | h
        · rw [hq] at hb; cases hb h
        · omega
      rw [if_pos (by omega), ← hjq]
      repeat' (first|(refine oLA ?_;first|refine a0A rfl ?_|refine wOp ?_|(refine wCm ?_ ?_<;>intro hc)|(refine oCv ?_;first|(refine f1A rfl rfl rfl (.val (.bool true)) (by intro vf u1 w' e hf hu1; obtain rfl : vf = _ := hf; obtain rfl : u1 = _ := hu1; exact hF0 w' e) ?_))|(refine wNl hK ?_;clear hK K))|refine wG ?_|(refine wCR ?_;intro K hK)|(refine oPX ?_;first|exact abA rfl rfl (Ext.refl _) rfl)|fail)
      all_goals skip
  · rw [if_neg (by omega)]
    repeat' (first|(refine oLA ?_;first|refine a0A rfl ?_|refine wOp ?_|(refine wCm ?_ ?_<;>intro hc)|(refine wNl hK ?_;clear hK K))|refine wG ?_|(refine wCR ?_;intro K hK)|(refine oPX ?_;first|exact abA rfl rfl (Ext.refl _) rfl)|fail)
    all_goals skip
set_option maxHeartbeats 4000000 in
theorem xeA (w0 w : World) (he0 : Ext w0 w) (v fv : Value) (xs : List Int) (q : Nat → Bool) (ho0 : OwnI w0.heap.size 72 .u16 w v xs) (hl : Low xs) (hn : xs.length ≤ 65536) (hF : Tells w0 fv q) :
    Fc Tryz.prog 150 #[v, fv] w (fun en w' => ∃ v', en = .returned v' ∧ OwnI w0.heap.size 72 .u16 w' v' (f7A q xs) ∧ Ext w0 w') := by
  have hle := irA q xs
  have hix : ∀ w', Ext w w' → _ := fun w' e => x6A w' v fv xs q (ho0.ext e).slI hl (hF.ext (he0.trans e))
  by_cases hall : gcA q xs < xs.length
  · rw [if_pos hall] at hix
    have hst := Mid.start q hall
    obtain ⟨i0, hi0⟩ : ∃ i0, i0 = gcA q xs := ⟨_, rfl⟩
    rw [← hi0] at hix hall hle hst
    refine Fc.of (args := [_, _]) Tryz.func150 rfl rfl Tryz.ntmps150 (Nat.le_of_ble_eq_true rfl) ?_
    repeat' (first|(refine oLA ?_;first|refine a0A rfl ?_|refine wOp ?_|(refine wCm ?_ ?_<;>intro hc)|(refine oCv ?_;first|(refine oC 192 ?_; refine a3A (f := 192) rfl rfl rfl rfl  (.val (.int .i64 i0)) (by intro u1 u2 w e hu1 hu2; (try obtain rfl : u1 = _ := hu1); (try obtain rfl : u2 = _ := hu2); exact hix _ e) ?_))|(refine wNl hK ?_;clear hK K))|refine wG ?_|(refine wCR ?_;intro K hK)|fail)
    refine ahA (ι := (Nat × Nat) × List Int) (fun s => [(0, .val v), (1, .val fv), (5, .val (.int .i64 s.1.1)), (6, .val (.int .i64 s.1.2))]) (fun s w' => Ext w0 w' ∧ Mid q xs s.2 s.1.1 s.1.2 ∧ OwnI w0.heap.size 72 .u16 w' v s.2) (fun s => xs.length - s.1.2)
      (fun w2 e2 => ⟨((i0, i0 + 1), xs), ⟨he0.trans e2, hst, ho0.ext e2⟩, (by repeat' (first | exact Sub.nil | refine Sub.val rfl (by first | with_reducible rfl | (congr 1; omega)) ?_ | refine Sub.same rfl ?_))⟩) ?_
    rintro ⟨⟨i, j⟩, ys⟩ w1 ⟨he, hM, ho⟩
    dsimp only at hM ho ⊢
    have m1 := hM.len
    have m2 := hM.lt
    have m3 := hM.le
    clear hix ho0 hst
    by_cases hjl : j < xs.length
    · have hcur := hM.cur hjl
      have hx : 0 ≤ xs.getD j 0 ∧ xs.getD j 0 < 65536 := by rw [axA hjl]; exact hl _ (List.getElem_mem hjl)
      obtain ⟨x, hxx⟩ := Int.eq_ofNat_of_zero_le hx.1
      have hx' : x < 65536 := by omega
      have hF0 : ∀ w', Ext w1 w' → Clb Tryz.prog fv [.int .u16 (ys.getD j 0)] w' (Ret w' (.val (.bool (q x)))) := fun w' e => by rw [hcur, hxx]; exact hF w' (he.trans e) x hx'
      have hqq : q (xs.getD j 0).toNat = q x := by rw [hxx]; rfl
      obtain ⟨gb, cap, cur, rfl, hgb, hgc, hgn, hgm, hgs, hgt⟩ := ho.row (by omega)
      cases hq : q x
      · rw [hq] at hF0 hqq
        have hM' := hM.put hjl hqq
        rw [← hcur] at hM'
        repeat' (first|(refine oLA ?_;first|refine a0A rfl ?_|(refine oD 33 ?_; refine cuA (s := 1) rfl rfl (fun _ => rfl) rfl rfl (by omega) (by omega) ?_; rw [Int.toNat_natCast])|(refine a4A (hK _ _ (deA (o := 0 + i * 1) rfl rfl rfl hgc (fun _ => rfl) (by omega) rfl rfl (fun w4 e4 => ?_))); clear hK K; dsimp only [vals])|refine wOp ?_|(refine wCm ?_ ?_<;>intro hc)|(refine oCv ?_;first|(refine f1A rfl rfl rfl (.val (.bool false)) (by intro vf u1 w' e hf hu1; obtain rfl : vf = _ := hf; obtain rfl : u1 = _ := hu1; exact hF0 w' e) ?_))|(refine wNl hK ?_;clear hK K))|refine wG ?_|(refine wCR ?_;intro K hK)|fail)
        all_goals skip
        refine a7A ((i + 1, j + 1), ys.set i (ys.getD j 0)) (fun w5 e5 => ⟨((he.trans e4).setRow hgb _).trans e5, hM', ?_⟩) (by dsimp only; omega) (by repeat' (first | exact Sub.nil | refine Sub.val rfl (by first | with_reducible rfl | (congr 1; omega)) ?_ | refine Sub.same rfl ?_))
        have hh := OwnI.set hgb (e4.block hgc) hgn hgm hgs hgt (0 + i * 1) (by omega) (ys.getD j 0)
        rw [show 0 + i * 1 = i by omega] at hh e5
        exact OwnI.ext hh e5
      · rw [hq] at hF0 hqq
        have hM' := hM.skip hjl hqq
        repeat' (first|(refine oLA ?_;first|refine a0A rfl ?_|refine wOp ?_|(refine wCm ?_ ?_<;>intro hc)|(refine oCv ?_;first|(refine f1A rfl rfl rfl (.val (.bool true)) (by intro vf u1 w' e hf hu1; obtain rfl : vf = _ := hf; obtain rfl : u1 = _ := hu1; exact hF0 w' e) ?_))|(refine wNl hK ?_;clear hK K))|refine wG ?_|(refine wCR ?_;intro K hK)|fail)
        all_goals skip
        exact a7A ((i, j + 1), ys) (fun w5 e5 => ⟨he.trans e5, hM', ho.ext e5⟩) (by dsimp only; omega) (by repeat' (first | exact Sub.nil | refine Sub.val rfl (by first | with_reducible rfl | (congr 1; omega)) ?_ | refine Sub.same rfl ?_))
    · obtain rfl : j = xs.length := by omega
      have hfin := hM.fin
      have hkl : (f7A q xs).length = i := by rw [← hfin, List.length_take]; omega
      obtain ⟨gb, cap, cur, rfl, hgb, hgc, hgn, hgm, hgs, hgt⟩ := ho.row (by omega)
      have hsl : dyA (.slice (some ⟨gb, 0, none⟩) ys.length cap) i ys.length 1 = .slice (some ⟨gb, 0 + i * 1, none⟩) (ys.length - i) (cap - i) := by rw [e8A (by omega)]; simp
      have hsh : dyA (.slice (some ⟨gb, 0, none⟩) ys.length cap) 0 i 1 = .slice (some ⟨gb, 0, none⟩) i cap := by rw [e8A (by omega)]; simp
      repeat' (first|(refine oLA ?_;first|refine a0A rfl ?_|(refine oD 38 ?_; refine cdA (n := ys.length) (s := 1) (i := (i : Int)) rfl _ rfl rfl (HasI.ownV ho).c rfl (by omega) (by omega) (fun _ => rfl) ?_; rw [Int.toNat_natCast, hsl])|(refine a4A (hK _ _ (mdA (b := gb) (o := 0 + i * 1) (m := ys.length - i) (c := cap - i) rfl rfl (fun _ => rfl) rfl rfl rfl hgc (by omega) (fun w4 cur4 e4 hs4 ht4 => ?_))); clear hK K; dsimp only [vals])|refine wOp ?_|(refine wCm ?_ ?_<;>intro hc)|(refine wNl hK ?_;clear hK K))|refine wG ?_|(refine wCR ?_;intro K hK)|fail)
      all_goals skip
      have hb4 := setRow_heap w4 gb cur cur4 72 (0, 0) (e4.block hgc)
      have hown : OwnI w0.heap.size 72 .u16 (w4.setRow gb cur4) (.slice (some ⟨gb, 0, none⟩) i cap) (f7A q xs) := by
        refine ⟨by simp, .inr ⟨gb, cap, cur4, by rw [hkl], hgb, hb4, by rw [hkl]; omega, hgm, by omega, ?_⟩⟩
        rw [hkl, Nat.mul_one, ← hfin, List.map_take, ← hgt]
        rw [show (0 + i * 1) = i by omega] at ht4
        rw [ht4, List.take_take, Nat.min_eq_left (by omega)]
      have hcs : SlC (w4.setRow gb cur4) (.slice (some ⟨gb, 0, none⟩) ys.length cap) ys.length 1 (cur4.toList.take ys.length) :=
        ⟨by simp; omega, _, cap, rfl, hgn, hgm, (fun h => by cases h), .inr ⟨gb, 0, rfl, fun j c hj => by
          rw [cell_of_row _ gb _ cur4 _ (0, 0) hb4, ← Array.getElem?_toList]
          rw [List.getElem?_take] at hj
          split at hj
          · simpa using hj
          · cases hj⟩⟩
      repeat' (first|(refine oLA ?_;first|refine a0A rfl ?_|(refine oD 41 ?_; refine exA (n := ys.length) (s := 1) (i := (i : Int)) rfl _ rfl rfl (HasC.val hcs) rfl (by omega) (by omega) (fun _ => rfl) ?_; rw [Int.toNat_natCast, hsh])|refine wOp ?_|(refine wCm ?_ ?_<;>intro hc)|(refine wNl hK ?_;clear hK K))|refine wG ?_|(refine wCR ?_;intro K hK)|fail)
      all_goals skip
      all_goals exact blA rfl (fun v' w' e hv => by obtain rfl : v' = _ := hv; exact ⟨_, rfl, hown.ext e, ((he.trans e4).setRow hgb _).trans e⟩)
  · rw [if_neg hall] at hix
    have hk : f7A q xs = xs := oiA q (by omega)
    rw [hk]
    refine Fc.of (args := [_, _]) Tryz.func150 rfl rfl Tryz.ntmps150 (Nat.le_of_ble_eq_true rfl) ?_
    repeat' (first|(refine oLA ?_;first|refine a0A rfl ?_|refine wOp ?_|(refine wCm ?_ ?_<;>intro hc)|(refine oCv ?_;first|(refine oC 192 ?_; refine a3A (f := 192) rfl rfl rfl rfl  (.val (.int .i64 (-1))) (by intro u1 u2 w e hu1 hu2; (try obtain rfl : u1 = _ := hu1); (try obtain rfl : u2 = _ := hu2); exact hix _ e) ?_))|(refine wNl hK ?_;clear hK K))|refine wG ?_|(refine wCR ?_;intro K hK)|fail)
    all_goals skip
    all_goals exact blA rfl (fun v' w' e hv => by obtain rfl : v' = _ := hv; exact ⟨_, rfl, ho0.ext e, he0.trans e⟩)
end Go.Proofs.YtfcioiobhpcngaaGreatDoor
end
section
set_option linter.unusedSimpArgs false
set_option linter.unusedVariables false
set_option maxRecDepth 3000
namespace Go.Proofs.YtfcioiobhpcngaaGreatDoor
open Go.LA Go.ArrP Go.RowKit
variable {A : Nat → Prop}
theorem tyA {w : World} {a : Addr} {fv : Value} {q : Nat → Bool} {x : Nat} (hc : w.cell? a = some fv) (hF : Tells w fv q) (hx : x < 65536) : Fc Tryz.prog 151 #[.int .u16 x, .pointer (some a)] w (Ret w (.val (.bool (!q x)))) := by
  have h0 : ∀ w', Ext w w' → _ := fun w' e => hF w' e x hx
  refine Fc.of (args := [_, _]) Tryz.func151 rfl rfl Tryz.ntmps151 (Nat.le_of_ble_eq_true rfl) ?_
  repeat' (first|(refine oLA ?_;first|refine a0A rfl ?_|(refine oLd ?_; refine j4A rfl (fun _ => rfl) rfl hc ?_)|refine wOp ?_|(refine wCm ?_ ?_<;>intro hc)|(refine oCv ?_;first|(refine f1A rfl rfl rfl (.val (.bool (q x))) (by intro vf u1 w' e hf hu1; obtain rfl : vf = _ := hf; obtain rfl : u1 = _ := hu1; exact h0 w' e) ?_))|(refine wNl hK ?_;clear hK K))|refine wG ?_|(refine wCR ?_;intro K hK)|(refine oPX ?_;first|exact abA rfl rfl (Ext.refl _) rfl)|fail)
  all_goals skip
set_option maxHeartbeats 2000000 in
theorem wgA {w : World} {va fv : Value} {p q : Nat → Bool} (ha : SlI .u16 w va (adA p 65536)) (hp : p 65536 = false) (hF : Tells w fv q) (hT : Tab w) (hA : Fsh A w) :
    Fc Tryz.prog 107 #[va, fv] w (Ret w (.pred (cnP A (fun i => p i && q i) (aqA (fun i => p i && q i))))) := by
  have hq : (fun i => p i && q i) 65536 = false := by simp [hp]
  have hks : f7A (fun i => !q i) (adA p 65536) = adA (fun i => p i && q i) 65536 := jqA p q 65536
  have hl := ckA p
  have hn := keA p
  obtain ⟨r, hr⟩ : ∃ r : Nat → Bool, r = fun i => p i && q i := ⟨_, rfl⟩
  rw [← hr] at hq hks ⊢
  obtain ⟨f, first, cap, rfl, -⟩ := hF w (Ext.refl _) 0 (by decide)
  refine Fc.of (args := [_, _]) Tryz.func107 rfl rfl Tryz.ntmps107 (Nat.le_of_ble_eq_true rfl) ?_
  repeat' (first|(refine oLA ?_;first|refine a0A rfl ?_|(refine oBx ?_; refine l0A rfl rfl ?_)|refine bgA rfl (fun _ => rfl) ?_|(refine oD 6 ?_; refine a4A (hK _ _ (byA 3 rfl (fun v3 w3 e3 h3 => byA 4 rfl (fun v4 w4 e4 h4 => ?_)))); clear hK K)|refine wOp ?_|(refine wCm ?_ ?_<;>intro hc)|(refine wNl hK ?_;clear hK K))|refine wG ?_|(refine wCR ?_;intro K hK)|fail)
  obtain ⟨a3, rfl, hc3⟩ := h3
  have hc3 := hc3 0 _ rfl
  rw [Addr.add_zero'] at hc3
  obtain ⟨b4, hb4, rfl, hg4⟩ := h4
  have e34 := e3.trans e4
  have hF4 := hF.ext e34
  have hc4 := e4.cell hc3
  have hc1 : ∀ w', Ext w4 w' → Tells w' (.func (.func 151) #[] #[.pointer (some a3)]) (fun i => !q i) := fun w' e w2 e2 x hx => Clb.of1 (tyA ((e.trans e2).cell hc4) (hF4.ext (e.trans e2)) hx)
  refine amA (by kernel_rfl) (fun K hK => ?_)
  repeat' (first|(refine oLA ?_;first|refine a0A rfl ?_|(refine a4A (hK _ _ (byA 6 rfl (fun v6 w6 e6 h6 => ?_))); clear hK K)|refine wOp ?_|(refine wCm ?_ ?_<;>intro hc)|(refine oCv ?_;first|(refine oC 55 ?_; refine a1A (f := 55) rfl rfl rfl  (.pred (bjA _ 72 .u16 (adA p 65536))) (by intro u1 w e hu1; (try obtain rfl : u1 = _ := hu1); exact (foA _ _ _ (ha.ext (e34.trans e)) hn).mono (aaA e.size)) ?_))|(refine wNl hK ?_;clear hK K))|refine wG ?_|(refine wCR ?_;intro K hK)|fail)
  have h6 : OwnI w4.heap.size 72 .u16 w6 v6 (adA p 65536) := h6
  refine amA (by kernel_rfl) (fun K hK => ?_)
  repeat' (first|(refine oLA ?_;first|refine a0A rfl ?_|(refine oD 7 ?_; refine j6A rfl rfl ?_)|(refine oD 8 ?_; refine a4A (hK _ _ (byA 7 rfl (fun v7 w7 e7 h7 => ?_))); clear hK K)|refine wOp ?_|(refine wCm ?_ ?_<;>intro hc)|(refine wNl hK ?_;clear hK K))|refine wG ?_|(refine wCR ?_;intro K hK)|fail)
  obtain ⟨c7, rfl, h7⟩ := h7
  obtain rfl : c7 = _ := h7
  refine s5A (f := 150) rfl (by decide) rfl rfl rfl (fun v' w' => OwnI w4.heap.size 72 .u16 w' v' (adA r 65536) ∧ Ext w4 w') (fun w' e => by
    have := xeA w4 w' (e6.trans (e7.trans e)) v6 _ (adA p 65536) (fun i => !q i) (h6.ext (e7.trans e)) hl hn (hc1 w4 (Ext.refl _))
    rw [hks] at this
    exact this) (fun v8 w8 h8 => ?_)
  obtain ⟨o8, x8⟩ := h8
  have hg8 := x8.block hg4
  have x08 := e34.trans x8
  have hT8 := hT.ext x08
  dsimp only [vals]
  refine amA (by kernel_rfl) (fun K hK => ?_)
  repeat' (first|(refine oLA ?_;first|refine a0A rfl ?_|(refine cfA (c := .agg #[.int .u8 1, v8, .slice none 0 0, .slice none 0 0]) rfl rfl rfl (fun w1 => by obtain ⟨a', c', rfl⟩ := (OwnI.slI o8).isSlice; kernel_rfl) ?_)|(refine a4A (hK _ _ (vqA (φ := cnP A r (aqA r)) (w0 := w) rfl rfl hb4 hg8 rfl b4A (fun v' w' e hv => hv) rfl (fun _ => rfl) x08 (fun w' e' => ?_))); clear hK K)|refine wOp ?_|(refine wCm ?_ ?_<;>intro hc)|(refine oCv ?_;first|(refine oC 75 ?_; refine a1A (f := 75) rfl rfl rfl  (.pred (cnP A r (aqA r))) (by intro u1 w e hu1; (try obtain rfl : u1 = _ := hu1); exact d4A (Cn.arr hq rfl (o8.ext e) (hA.ext e34)) (hT8.ext e) ((hA.ext x08).ext e)) ?_))|(refine wNl hK ?_;clear hK K))|refine wG ?_|(refine wCR ?_;intro K hK)|(refine oPX ?_;first|exact bxA rfl rfl rfl rfl rfl (by assumption))|fail)
  all_goals skip
end Go.Proofs.YtfcioiobhpcngaaGreatDoor
end
