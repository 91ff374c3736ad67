import Derived.Test.YtjiacignpmabcaaDoorW5

set_option linter.unusedSimpArgs false
set_option linter.unusedVariables false
set_option maxRecDepth 3000
namespace Go.Proofs.YtjiacignpmabcaaDoor
open Go.LA Go.ArrP Go.RowKit

/-- What comes word by word. -/
def eachP (F : Bool → Bool → Bool) (a b : List Int) (i : Nat) : Bool := decide (i < 64 * min (min a.length b.length) 1024) && F (wbit a i) (wbit b i)
theorem each_c (F : Bool → Bool → Bool) (G : Nat → Nat → Nat) (ft : FuncId) (hT : ∀ (x y : Nat) (w : World), x < 18446744073709551616 → y < 18446744073709551616 → Fc Tryd.prog ft #[.int .u64 x, .int .u64 y] w (Ret w (.val (.int .u64 (G x y)))))
    (hG : ∀ x y, x < 18446744073709551616 → y < 18446744073709551616 → G x y < 18446744073709551616 ∧ ∀ i, i < 64 → (G x y).testBit i = F (x.testBit i) (y.testBit i)) (w : World) (va vb : Value) (a b : List Int) (ha : SlI .u64 w va a) (hb : SlI .u64 w vb b) (hla : Lw a) (hlb : Lw b) :
    Fc Tryd.prog 83 #[va, vb, .func (.func ft) #[] #[]] w (Ret w (.pred (ownI w.heap.size 66 .u64 (wordsOf (eachP F a b))))) := by
  have hlen := ha.len
  have hlen' := hb.len
  refine Fc.of (args := [_, _, _]) Tryd.func83 rfl rfl Tryd.ntmps83 (Nat.le_of_ble_eq_true rfl) ?_
  repeat' (first
   |(refine oLA ?_;first
   |refine LA_pass rfl ?_
   |refine LA_makeI (n := 1024) rfl u64_el rfl rfl (by decide) (by decide) ?_
   |refine LA_min3 rfl rfl rfl rfl ?_|(refine wOpB ?_;try dsimp only [Int.reduceToNat, Int.reducePow])|refine wOp ?_|(refine wOpD ?_;try dsimp only [Int.reduceToNat, Int.toNat_natCast])|(refine LA_cmp rfl rfl rfl rfl (fun hc => ?_) (fun hc => ?_)<;>dsimp only [cmpP] at hc)|(refine LA_nil (hK [] _ (LX_nil ?_));clear hK K)|(refine LA_nil (hK _ ?_);clear hK K))
   |(refine oCX ?_;first
   |refine wCX ?_|(refine wCR ?_;intro K hK))
   |(refine oPX ?_;first
   |refine wPX ?_)
   |(refine oLX ?_;first
   |refine LX_nil ?_))
  refine CX_pick 7 rfl (fun v7 w3 e3 h3 => ?_)
  have h3 : OwnI w.heap.size 66 .u64 w3 v7 (List.replicate 1024 0) := h3
  obtain ⟨L, hL⟩ : ∃ L : Nat, L = min (min a.length b.length) 1024 := ⟨_, rfl⟩
  have hLi : min (min (a.length : Int) (b.length : Int)) 1024 = L := by omega
  rw [hLi]
  refine CX_loopV (ι := Nat × List Int) (fun i => [(0, .val va), (1, .val vb), (2, .val (.func (.func ft) #[] #[])), (7, .val v7), (14, .val (.int .i64 L)), (15, .val (.int .i64 i.1))]) (fun i w' => Ext w w' ∧ i.1 ≤ L ∧ i.2.length = 1024 ∧ Lw i.2 ∧ (∀ j, j < 65536 → wbit i.2 j = (decide (j < 64 * i.1) && F (wbit a j) (wbit b j))) ∧ OwnI w.heap.size 66 .u64 w' v7 i.2)
    (fun i => L - i.1) (fun w2 e2 => ⟨(0, List.replicate 1024 0), ⟨e3.trans e2, Nat.zero_le _, List.length_replicate, Lw_zero _, fun j _ => by rw [wbit_zero]; simp, h3.ext e2⟩, (by repeat' (first | exact Sub.nil | refine Sub.val rfl (by first | with_reducible rfl | (congr 1; omega)) ?_ | refine Sub.same rfl ?_))⟩) ?_
  rintro ⟨k, ws⟩ w1 ⟨he, hk, hwl, hlw, hbit, ho⟩
  dsimp only at hk hwl hlw hbit ho ⊢
  have h1 := ha.ext he
  have h2 := hb.ext he
  by_cases hkl : k < L
  · obtain ⟨gb, cap, cur, rfl, hgb, hgc, hgn, hgm, hgs, hgt⟩ := ho.row (by omega)
    obtain ⟨e1, e2⟩ := hla.at k
    obtain ⟨e1', e2'⟩ := hlb.at k
    obtain ⟨g1, g2⟩ := hG _ _ e2 e2'
    repeat' (first
     |(refine oLA ?_;first
     |refine LA_pass rfl ?_
     |(refine LA_indexS (s := 1) rfl rfl (fun _ => rfl) rfl rfl (by omega) (by omega) ?_; rw [Int.toNat_natCast])
     |(refine LA_stop (hK _ _ rfl (LX_store1 (o := 0 + k * 1) rfl rfl rfl hgc (fun _ => rfl) (by omega) rfl rfl (fun w4 e4 => ?_))); clear hK K; dsimp only [vals]; refine LX_la (by kernel_rfl) (fun K hK => ?_))|(refine wOpB ?_;try dsimp only [Int.reduceToNat, Int.reducePow])|refine wOp ?_|(refine wOpD ?_;try dsimp only [Int.reduceToNat, Int.toNat_natCast])|(refine LA_cmp rfl rfl rfl rfl (fun hc => ?_) (fun hc => ?_)<;>dsimp only [cmpP] at hc)|(refine oCv ?_;first
     |refine LA_call2 (f := ft) (r1 := .val (.int .u64 _)) (r2 := .val (.int .u64 _)) rfl rfl rfl rfl (.val (.int .u64 (G (wd a k) (wd b k)))) (by intro u1 u2 w e hu1 hu2; obtain rfl : u1 = _ := hu1; obtain rfl : u2 = _ := hu2; rw [e1, e1']; exact hT _ _ _ e2 e2') ?_)|(refine LA_nil (hK [] _ (LX_nil ?_));clear hK K)|(refine LA_nil (hK _ ?_);clear hK K))
     |(refine oCX ?_;first
     |refine CX_regionS 13 (by decide) (by kernel_rfl) (by kernel_rfl) (fun K hK => ?_)
     |refine wCX ?_|(refine wCR ?_;intro K hK))
     |(refine oPX ?_;first
     |refine wPX ?_)
     |(refine oLX ?_;first
     |refine LX_nil ?_))
    refine PX_rndV (k + 1, ws.set (0 + k * 1) ((G (wd a k) (wd b k) : Nat) : Int)) (fun w5 e5 => ⟨((he.trans e4).setRow hgb _).trans e5, ?_, ?_, ?_, ?_, ?_⟩) ?_ (by repeat' (first | exact Sub.nil | refine Sub.val rfl (by first | with_reducible rfl | (congr 1; omega)) ?_ | refine Sub.same rfl ?_))
    · dsimp only; omega
    · dsimp only; simp [hwl]
    · exact hlw.set _ g1
    · intro j hj
      dsimp only
      rw [show 0 + k * 1 = k by omega, wbit_setw (by omega)]
      by_cases e : j / 64 = k
      · rw [if_pos e, g2 _ (by omega), decide_eq_true (by omega)]
        unfold wbit; rw [e]; simp
      · rw [if_neg e, hbit j hj, show decide (j < 64 * (k + 1)) = decide (j < 64 * k) by rw [decide_eq_decide]; omega]
    · have hh := OwnI.set hgb (e4.block hgc) hgn hgm hgs hgt (0 + k * 1) (by omega) ((G (wd a k) (wd b k) : Nat) : Int)
      dsimp only
      exact OwnI.ext hh e5
    · dsimp only; omega
  · obtain rfl : k = L := by omega
    repeat' (first
     |(refine oLA ?_;first
     |refine LA_pass rfl ?_|(refine wOpB ?_;try dsimp only [Int.reduceToNat, Int.reducePow])|refine wOp ?_|(refine wOpD ?_;try dsimp only [Int.reduceToNat, Int.toNat_natCast])|(refine LA_cmp rfl rfl rfl rfl (fun hc => ?_) (fun hc => ?_)<;>dsimp only [cmpP] at hc)|(refine LA_nil (hK [] _ (LX_nil ?_));clear hK K)|(refine LA_nil (hK _ ?_);clear hK K))
     |(refine oCX ?_;first
     |refine wCX ?_|(refine wCR ?_;intro K hK))
     |(refine oPX ?_;first
     |refine wPX ?_)
     |(refine oLX ?_;first
     |refine LX_nil ?_))
    refine PX_retP rfl rfl he (fun u w2 e2 hu => ?_)
    obtain rfl : u = _ := hu
    have hh := ho.ext e2
    rwa [words_of hlw hwl, wordsOf_congr (q := eachP F a b) (fun i hi => by rw [hbit i hi]; unfold eachP; rw [← hL])] at hh
end Go.Proofs.YtjiacignpmabcaaDoor
