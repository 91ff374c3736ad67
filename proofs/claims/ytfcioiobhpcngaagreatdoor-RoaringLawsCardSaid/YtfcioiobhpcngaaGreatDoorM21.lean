import Derived.Laws.StructEq
import Derived.Test.YtfcioiobhpcngaaGreatDoorM14
import Derived.Test.YtfcioiobhpcngaaGreatDoorM15
import Derived.Test.YtfcioiobhpcngaaGreatDoorM20
section
set_option linter.unusedSimpArgs false
set_option linter.unusedVariables false
set_option maxRecDepth 3000
namespace Go.Proofs.YtfcioiobhpcngaaGreatDoor
open Go.LA Go.ArrP Go.RowKit
variable {A B : Nat → Prop}
theorem has_s {w : World} {v : Value} {p : Nat → Bool} (h : NSet B A w v p) {x : Nat} (hx : x < 4294967296) : Fc Tryz.prog 20 #[v, .int .u32 x] w (Ret w (.val (.bool (p x)))) := by
  have hb : blk p (x / 65536) (x % 65536) = p x := by rw [blk_at (Nat.mod_lt _ (by omega))]; congr 1; omega
  have e2 : IntKind.u16.wrap (x : Int) = ((x % 65536 : Nat) : Int) := by rw [IntKind.wrap_u16]; omega
  have e1 : (x : Int) / 65536 = ((x / 65536 : Nat) : Int) := by omega
  have hx1 : x / 65536 < 65536 := by omega
  have hx2 : x % 65536 < 65536 := Nat.mod_lt _ (by omega)
  obtain ⟨k, hk⟩ : ∃ k, k = x / 65536 := ⟨_, rfl⟩
  obtain ⟨r, hr⟩ : ∃ r, r = x % 65536 := ⟨_, rfl⟩
  rw [← hk, ← hr] at hb
  rw [← hk] at e1 hx1; rw [← hr] at e2 hx2
  clear hk hr
  refine Fc.of (args := [_, _]) Tryz.func20 rfl rfl Tryz.ntmps20 (Nat.le_of_ble_eq_true rfl) ?_
  repeat' (first|(refine oLA ?_;first|refine LA_pass rfl ?_|(refine oB .shr ?_; refine LA_shr rfl rfl rfl (by decide) (by decide) ?_; rw [show (2 : Int) ^ Int.toNat 16 = 65536 by decide, e1])|(refine oD 11 ?_; refine LA_conv rfl rfl rfl rfl ?_; rw [e2])|refine wOp ?_|(refine wCm ?_ ?_<;>intro hc)|(refine oCv ?_;first|(refine oC 47 ?_; refine LA_call2 (f := 47) rfl rfl rfl rfl  (.pred (cnP A (blk p k) (kindP (blk p k)))) (by intro u1 u2 w e hu1 hu2; (try obtain rfl : u1 = _ := hu1); (try obtain rfl : u2 = _ := hu2); exact get_s (h.ext e) hx1) ?_)|(refine oC 54 ?_; refine LA_call2 (f := 54) rfl rfl rfl rfl  (.val (.bool (blk p k r))) (by intro u1 u2 w e hu1 hu2; (try obtain rfl : u1 = _ := hu1); (try obtain rfl : u2 = _ := hu2); exact has_c hu1 hx2) ?_))|(refine wNl hK ?_;clear hK K))|refine wG ?_|(refine wCR ?_;intro K hK)|fail)
  all_goals skip
  exact PX_retE rfl rfl (Ext.refl _) (by rw [hb])
theorem RS.self {A : Nat → Prop} {w : World} {b : Nat} {kv lv : Value} {p : Nat → Bool} (h : RS A w b kv lv p) : RS (fun k => A k ∧ kv.ownBlock ≠ some k) w b kv lv p := h.mono fun k _ ha hb => ⟨ha, hb⟩
theorem copy_s {w : World} {v : Value} {p : Nat → Bool} (h : NSet B A w v p) {B' A' : Nat → Prop} (hB : Fsh B' w) (hA : ∀ k, k < w.heap.size → A k → A' k) : Fc Tryz.prog 22 #[v] w (Ret w (.pred (rsP B' A' p))) := by
  obtain ⟨lv, Q, hP, hL⟩ := list_s h
  have htop := nset_top h
  have hnk := nk_le p
  have hq1 : ∀ c ∈ cellsQ Q, c.oneCell' = true := fun c hc => by
    obtain ⟨j, j1, j2⟩ := cellsQ_mem Q c hc
    exact (hP.at (by have := hP.len; omega)).2.2 c j2
  refine Fc.of (args := [_]) Tryz.func22 rfl rfl Tryz.ntmps22 (Nat.le_of_ble_eq_true rfl) ?_
  repeat' (first|(refine oLA ?_;first|refine LA_pass rfl ?_|refine wOp ?_|(refine wCm ?_ ?_<;>intro hc)|(refine oCv ?_;first|(refine oC 40 ?_; refine LA_call1 (f := 40) rfl rfl rfl  (.pred (ownI w.heap.size tK .u16 (keysL p))) (by intro u1 w e hu1; (try obtain rfl : u1 = _ := hu1); exact (keys_s (h.ext e)).mono (ret_base e.size)) ?_)|(refine oC 55 ?_; refine LA_call1 (f := 55) rfl rfl rfl  (.pred (ownI w.heap.size tK .u16 (keysL p))) (by intro u1 w e hu1; (try obtain rfl : u1 = _ := hu1); exact (clone16_c _ _ _ (OwnI.slI hu1) (by rw [keysL_len]; exact hnk)).mono (ret_base e.size)) ?_)|(refine oC 50 ?_; refine LA_call1 (f := 50) rfl rfl rfl  (.val lv) (by intro u1 w e hu1; (try obtain rfl : u1 = _ := hu1); exact hL _ e) ?_)|(refine oC 56 ?_; refine LA_call1 (f := 56) rfl rfl rfl  (.pred (ownC w.heap.size tC 4 (nk p) (cellsQ Q))) (by intro u1 w e hu1; (try obtain rfl : u1 = _ := hu1); exact (clone_cct _ _ _ _ (hP.own.ext e).slC hq1 (by omega)).mono (ret_baseC e.size)) ?_))|(refine wNl hK ?_;clear hK K))|refine wG ?_|(refine wCR ?_;intro K hK)|fail)
  refine LA_stop (hK _ _ (LX_pick 8 rfl (fun v8 w8 e8 h8 => LX_pick 5 rfl (fun v5 w5 e5 h5 => ?_))))
  clear hK K
  replace h8 : Own w.heap.size tC 4 w5 v8 (nk p) (cellsQ Q) := Own.ext h8 e5
  replace h5 : OwnI w.heap.size tK .u16 w5 v5 (keysL p) := h5
  obtain ⟨a8, c8, rfl⟩ := h8.slC.isSlice
  obtain ⟨a5, c5, rfl⟩ := h5.slI.isSlice
  refine LX_la (by kernel_rfl) (fun K hK => LA_build2 (c := .agg #[.slice a5 (keysL p).length c5, .slice a8 (nk p) c8]) rfl rfl rfl (fun _ => by kernel_rfl) ?_)
  repeat' (first|(refine oLA ?_;first|refine LA_pass rfl ?_|refine LA_box rfl rfl ?_|refine wOp ?_|(refine wCm ?_ ?_<;>intro hc)|(refine wNl hK ?_;clear hK K))|refine wG ?_|(refine wCR ?_;intro K hK)|fail)
  all_goals skip
  have x5 := e8.trans e5
  refine PX_retP rfl rfl x5 (fun v w' e hv => ?_)
  obtain ⟨b, hb, rfl, hh⟩ := hv
  have ge5 := fun k hk => (Own.lt h5 k hk).1
  have ge8 := fun k hk => (Own.lt h8 k hk).1
  refine ⟨b, _, _, rfl, ⟨hh, Own.base (h5.ext e) (Nat.zero_le _), htop, Q, hP.len, Own.base (h8.ext e) (Nat.zero_le _), fun i hi => ?_⟩, fun k hk => hB k ?_⟩
  · exact ((hP.cn i hi).mono fun k hk ha => ⟨hA k hk ha, fun h => by have := ge5 k h; omega⟩).ext (x5.trans e)
  · have := x5.size
    rcases hk with rfl | hk | hk
    · omega
    · exact ge5 k hk
    · exact ge8 k hk
end Go.Proofs.YtfcioiobhpcngaaGreatDoor
end
section
set_option linter.unusedSimpArgs false
set_option linter.unusedVariables false
set_option maxRecDepth 3000
namespace Go.Proofs.YtfcioiobhpcngaaGreatDoor
open Go.LA Go.ArrP Go.RowKit
variable {A B : Nat → Prop}
theorem and_mask (x : Nat) (hx : x < 18446744073709551616) : bits .and .u64 (x : Int) 65535 = ((x % 65536 : Nat) : Int) := by
  rw [and64 x 65535 hx (by decide) (x := (x : Int)) (y := 65535) rfl rfl, show (65535 : Nat) = 2 ^ 16 - 1 from rfl, Nat.and_two_pow_sub_one_eq_mod]
theorem rank_s {w : World} {v : Value} {p : Nat → Bool} (h : NSet B A w v p) {x : Nat} (hx : x < 18446744073709551616) : Fc Tryz.prog 16 #[v, .int .u64 x] w (Ret w (.val (.int .i64 (cnt p (min x TOP))))) := by
  obtain ⟨lv, Q, hP, hL⟩ := list_s h
  have hlen : ∀ w', Ext w w' → _ := fun w' e => len_s (h.ext e)
  have hnk := nk_le p
  have hct := cnt_le p TOP
  have htop := TOP_eq
  by_cases hxt : 4294967296 ≤ x
  · rw [show min x TOP = TOP by omega]
    refine Fc.of (args := [_, _]) Tryz.func16 rfl rfl Tryz.ntmps16 (Nat.le_of_ble_eq_true rfl) ?_
    repeat' (first|(refine oLA ?_;first|refine LA_pass rfl ?_|refine wOp ?_|(refine wCm ?_ ?_<;>intro hc)|(refine oCv ?_;first|(refine oC 15 ?_; refine LA_call1 (f := 15) rfl rfl rfl  (.val (.int .i64 (cnt p TOP))) (by intro u1 w e hu1; (try obtain rfl : u1 = _ := hu1); exact hlen _ e) ?_))|(refine wNl hK ?_;clear hK K))|refine wG ?_|(refine wCR ?_;intro K hK)|fail)
    exact PX_retE rfl rfl (Ext.refl _) rfl
  · rw [show min x TOP = x by omega]
    have hm := and_mask x hx
    have hdm : x = x / 65536 * 65536 + x % 65536 := by omega
    have hdm2 : x / 65536 * 65536 ≤ x ∧ x < (x / 65536 + 1) * 65536 := by omega
    have hr := Nat.mod_lt x (show 0 < 65536 by omega)
    have e1 : (x : Int) / 65536 = ((x / 65536 : Nat) : Int) := by omega
    have hq : x / 65536 < 65536 := by omega
    obtain ⟨X, hX⟩ : ∃ X, X = x / 65536 := ⟨_, rfl⟩
    obtain ⟨R, hR⟩ : ∃ R, R = x % 65536 := ⟨_, rfl⟩
    rw [← hX, ← hR] at hdm
    rw [← hX] at hdm2
    rw [← hX] at e1 hq
    rw [← hR] at hm hr
    clear hX hR
    refine Fc.of (args := [_, _]) Tryz.func16 rfl rfl Tryz.ntmps16 (Nat.le_of_ble_eq_true rfl) ?_
    repeat' (first|(refine oLA ?_;first|refine LA_pass rfl ?_|(refine oLen ?_; refine LA_len rfl _ rfl rfl (HasC.ownV hP.own) ?_)|refine wOp ?_|(refine wCm ?_ ?_<;>intro hc)|(refine oCv ?_;first|(refine oC 50 ?_; refine LA_call1 (f := 50) rfl rfl rfl  (.val lv) (by intro u1 w e hu1; (try obtain rfl : u1 = _ := hu1); exact hL _ e) ?_))|(refine wNl hK ?_;clear hK K))|refine wG ?_|(refine wCR ?_;intro K hK)|fail)
    refine CX_loop (ι := Nat) (fun i => [(0, .val v), (1, .val (.int .u64 x)), (5, .val (.int .i64 (cnt p (min x (kp p i * 65536))))), (14, .val lv), (15, .val (.int .i64 (nk p))), (16, .val (.int .i64 i))]) (fun i => i ≤ nk p) (fun i => nk p - i) 0 (Nat.zero_le _) (by rw [rank_0]; (repeat' (first | exact Sub.nil | (refine Sub.val rfl ?_ ?_; first | with_reducible rfl | (congr 1; omega)) | refine Sub.same rfl ?_)); done) ?_
    intro i hi
    by_cases hil : i < nk p
    · obtain ⟨hat, hcn, h1⟩ := hP.at hil
      obtain ⟨b, kv, rfl, hb, hkv⟩ := hP.set (by omega)
      obtain ⟨k1, k2, k3, k4⟩ := kp_at hil
      have hkl := keysL_len p
      have hown := hP.own
      have f1 := rank_lt (x := x) (X := X) hil hdm2.1
      have f2 := rank_eq (x := x) (R := R) hil
      have f3 := rank_gt (x := x) (X := X) hil hdm2.2
      have b1 := cnt_le p (min x (kp p i * 65536))
      have b2 := cnt_le (blk p (kp p i)) 65536
      have b3 := cnt_le (blk p (kp p i)) R
      have b4 : min x (kp p i * 65536) ≤ x := Nat.min_le_left _ _
      have hcl : ∀ w', Ext w w' → _ := fun w' e => len_c (hcn.ext e)
      have hcr : ∀ w', Ext w w' → _ := fun w' e => rank_c (x := R) (hcn.ext e) (by omega)
      obtain ⟨K0, hK0⟩ : ∃ K0, K0 = kp p i := ⟨_, rfl⟩
      obtain ⟨n0, hn0⟩ : ∃ n0, n0 = cnt p (min x (kp p i * 65536)) := ⟨_, rfl⟩
      obtain ⟨n1, hn1⟩ : ∃ n1, n1 = cnt p (min x (kp p (i + 1) * 65536)) := ⟨_, rfl⟩
      obtain ⟨c1, hc1⟩ : ∃ c1, c1 = cnt (blk p (kp p i)) 65536 := ⟨_, rfl⟩
      obtain ⟨c2, hc2⟩ : ∃ c2, c2 = cnt (blk p (kp p i)) R := ⟨_, rfl⟩
      rw [← hc1, ← hn0, ← hn1] at f1
      rw [← hc2, ← hn0, ← hn1] at f2
      rw [← hn0, ← hn1] at f3
      rw [← hn0] at b1 ⊢
      rw [← hc1] at b2 hcl
      rw [← hc2] at b3 hcr
      rw [← hK0] at k1 k4 f1 f2 f3
      clear hP k2 k3 hL hct hn0 hc1 hc2 hcn hlen h
      repeat' (first|(refine oLA ?_;first|refine LA_pass rfl ?_|(refine oNc ?_; refine LA_nilCheck rfl rfl ?_)|(refine oF 0 ?_; refine LA_fieldAddr (a' := ⟨b, 0, none⟩) rfl rfl (fun _ => rfl) ?_)|(refine oF 1 ?_; refine LA_fieldAddr (a' := ⟨b, 1, none⟩) rfl rfl (fun _ => rfl) ?_)|(refine oLt 52 ?_; refine LA_loadB (c := kv) rfl (fun _ => rfl) rfl hb rfl ?_)|(refine oLt 53 ?_; refine LA_loadB (c := lv) rfl (fun _ => rfl) rfl hb rfl ?_)|(refine oI ?_; refine LA_indexC (s := 4) rfl _ rfl (fun _ => rfl) rfl (HasC.ownV hown) rfl i rfl (by omega) ?_; rw [hat])|(refine oLt 65 ?_; refine LA_loadC (cs := qcs _) rfl (fun _ => rfl) (fun _ => rfl) rfl ?_)|(refine oD 7 ?_; refine LA_stop (hK _ _ (LX_varA rfl rfl rfl (by decide) (by decide) (fun _ => rfl) (fun _ => rfl) rfl (fun _ => rfl) (fun _ => rfl) rfl h1 (fun bx wx ex hbx hbc => ?_))); clear hK K; replace hb := ex.block hb; replace hkv := hkv.ext ex; refine LX_la (by kernel_rfl) (fun K hK => ?_))|(refine oD 26 ?_; refine LA_indexN rfl _ rfl (fun _ => rfl) rfl (HasI.ownV hkv) rfl (by omega) ?_; rw [k4])|(refine oD 46 ?_; refine LA_bits (.inl rfl) rfl rfl rfl ?_; rw [hm])|(refine oB .shr ?_; refine LA_shr rfl rfl rfl (by decide) (by decide) ?_; rw [show (2 : Int) ^ Int.toNat 16 = 65536 by decide, e1])|(refine oLt 65 ?_; refine LA_loadK (n := 4) rfl hbc rfl rfl (fun _ => rfl) (fun _ => rfl) ?_)|refine wOp ?_|(refine wCm ?_ ?_<;>intro hc)|(refine oCv ?_;first|(refine oC 51 ?_; refine LA_call1 (f := 51) rfl rfl rfl  (.val (.int .i64 c1)) (by intro u1 w e hu1; (try obtain rfl : u1 = _ := hu1); exact hcl _ (ex.trans e)) ?_)|(refine oC 52 ?_; refine LA_call2 (f := 52) rfl rfl rfl rfl  (.val (.int .i64 c2)) (by intro u1 u2 w e hu1 hu2; (try obtain rfl : u1 = _ := hu1); (try obtain rfl : u2 = _ := hu2); exact hcr _ (ex.trans e)) ?_))|(refine wNl hK ?_;clear hK K))|refine wG ?_|(refine wCR ?_;intro K hK)|fail)
      all_goals skip
      · exact PX_rndB ex (i + 1) hil (by omega) (by rw [← hn1, f1 (by omega)]; (repeat' (first | exact Sub.nil | (refine Sub.val rfl ?_ ?_; first | with_reducible rfl | (congr 1; omega)) | refine Sub.same rfl ?_)); done)
      · have e9 : K0 = X := by omega
        have e8 := f2 (by rw [e9]; exact hdm) hr
        exact PX_rndB ex (i + 1) hil (by omega) (by rw [← hn1, e8]; (repeat' (first | exact Sub.nil | (refine Sub.val rfl ?_ ?_; first | with_reducible rfl | (congr 1; omega)) | refine Sub.same rfl ?_)); done)
      · exact PX_rndB ex (i + 1) hil (by omega) (by rw [← hn1, f3 (by omega)]; (repeat' (first | exact Sub.nil | (refine Sub.val rfl ?_ ?_; first | with_reducible rfl | (congr 1; omega)) | refine Sub.same rfl ?_)); done)
    · obtain rfl : i = nk p := by omega
      rw [rank_n p (by omega)]
      repeat' (first|(refine oLA ?_;first|refine LA_pass rfl ?_|refine wOp ?_|(refine wCm ?_ ?_<;>intro hc)|(refine wNl hK ?_;clear hK K))|refine wG ?_|(refine wCR ?_;intro K hK)|fail)
      exact PX_retE rfl rfl (Ext.refl _) rfl
end Go.Proofs.YtfcioiobhpcngaaGreatDoor
end
section
set_option linter.unusedSimpArgs false
set_option linter.unusedVariables false
set_option maxRecDepth 3000
namespace Go.Proofs.YtfcioiobhpcngaaGreatDoor
open Go.LA Go.ArrP Go.RowKit
variable {A B : Nat → Prop}
def rng (p : Nat → Bool) (lo hi y : Nat) : Bool := p y || (decide (lo ≤ y) && decide (y < hi))
theorem rng_none (p : Nat → Bool) {lo hi : Nat} (h : hi ≤ lo) : rng p lo hi = p := by
  funext y; unfold rng
  by_cases h1 : lo ≤ y
  · rw [decide_eq_false (show ¬ y < hi by omega), Bool.and_false, Bool.or_false]
  · rw [decide_eq_false h1, Bool.false_and, Bool.or_false]
theorem upd_rng (p : Nat → Bool) {lo0 lo e k : Nat} (h0 : lo0 ≤ lo) (h1 : lo < e) (hk1 : k * 65536 ≤ lo) (hk2 : e ≤ (k + 1) * 65536) {a c : Int} (ha : a = (lo : Int) - (k : Int) * 65536) (hc : c = (e : Int) - (k : Int) * 65536) :
    upd (rng p lo0 lo) k (two (fun x y => x || y) (blk (rng p lo0 lo) k) (flp (fun _ => false) a c)) = rng p lo0 e := by
  funext y
  have hdm := Nat.div_add_mod y 65536
  have hml := Nat.mod_lt y (show 0 < 65536 by decide)
  unfold upd
  by_cases hy : y / 65536 = k
  · rw [if_pos hy]
    have hyy : k * 65536 + y % 65536 = y := by rw [← hy, Nat.mul_comm]; exact hdm
    have h2 : blk (rng p lo0 lo) k (y % 65536) = rng p lo0 lo y := by rw [blk_at hml, hyy]
    have h3 : flp (fun _ => false) a c (y % 65536) = (decide (lo ≤ y) && decide (y < e)) := by
      unfold flp two fXor' spanM
      rw [decide_eq_true hml, Bool.and_true]
      have e1 : decide (a ≤ ((y % 65536 : Nat) : Int)) = decide (lo ≤ y) := decide_eq_decide.2 (by omega)
      have e2 : decide (((y % 65536 : Nat) : Int) < c) = decide (y < e) := decide_eq_decide.2 (by omega)
      rw [e1, e2]
      cases decide (lo ≤ y) <;> cases decide (y < e) <;> rfl
    show (blk (rng p lo0 lo) k (y % 65536) || flp (fun _ => false) a c (y % 65536)) = _
    rw [h2, h3]
    unfold rng
    rw [Bool.or_assoc]
    congr 1
    rw [Bool.eq_iff_iff]
    simp only [Bool.or_eq_true, Bool.and_eq_true, decide_eq_true_eq]
    omega
  · rw [if_neg hy]
    unfold rng
    congr 1
    rw [Bool.eq_iff_iff]
    simp only [Bool.and_eq_true, decide_eq_true_eq]
    have hks := mul_succ' k
    omega
theorem upd_addM (p : Nat → Bool) (x : Nat) : upd p (x / 65536) (addP (blk p (x / 65536)) (x % 65536)) = addM p x := by
  funext y
  have hdm := Nat.div_add_mod y 65536
  have hdx := Nat.div_add_mod x 65536
  have hml := Nat.mod_lt y (show 0 < 65536 by decide)
  unfold upd addM addP
  by_cases hy : y / 65536 = x / 65536
  · rw [if_pos hy, blk_at hml, ← hy, Nat.mul_comm, hdm]
    congr 1
    exact decide_eq_decide.2 (by rw [hy] at hdm; omega)
  · rw [if_neg hy, decide_eq_false (show ¬ y = x by intro h; exact hy (by rw [h])), Bool.or_false]
theorem flip_on {p : Nat → Bool} {lo hi : Int} {i : Nat} (h1 : lo ≤ (i : Int)) (h2 : (i : Int) < hi) (h3 : i < 65536) : flp p lo hi i = !p i := by
  unfold flp two fXor' spanM
  rw [decide_eq_true h1, decide_eq_true h2, decide_eq_true h3]
  cases p i <;> rfl
theorem cnt_pos {q : Nat → Bool} {r n : Nat} (h : r < n) (hr : q r = true) : 0 < cnt q n := by
  have h1 : cnt q (r + 1) = cnt q r + 1 := by simp only [cnt, hr, if_true]
  have h2 := cnt_mono q (m := r + 1) n h
  omega
theorem RS.fsh {w : World} {b : Nat} {kv lv : Value} {p : Nat → Bool} (h : RS A w b kv lv p) (hA : Fsh A w) : Fsh (fun k => A k ∧ kv.ownBlock ≠ some k) w := fun k hk => ⟨hA k hk, fun hb => by have := h.lt (.inr (.inl hb)); omega⟩
theorem RS.nset {w : World} {b : Nat} {kv lv : Value} {p : Nat → Bool} (h : RS A w b kv lv p) : NSet TT (fun k => A k ∧ kv.ownBlock ≠ some k) w (.pointer (some ⟨b, 0, none⟩)) p := .inr ⟨b, kv, lv, rfl, h.self, fun _ _ => trivial⟩
theorem Mut.from {w w1 w' : World} {b : Nat} {kv lv : Value} {p' : Nat → Bool} (e : Ext w w1) (h : Mut A w1 b kv lv p' w') : Mut A w b kv lv p' w' := by
  obtain ⟨kv', lv', h1, h2, h3, h4⟩ := h
  exact ⟨kv', lv', h1, (Fr.of e).trans h2, h3.le e.size, h4.le e.size⟩
theorem Mut.ext {w w1 w' : World} {b : Nat} {kv lv : Value} {p' : Nat → Bool} (h : Mut A w b kv lv p' w1) (e : Ext w1 w') : Mut A w b kv lv p' w' := by
  obtain ⟨kv', lv', h1, h2, h3, h4⟩ := h
  exact ⟨kv', lv', h1.ext e, h2.trans (Fr.of e), h3, h4⟩
theorem onw_loc {w : World} {b : Nat} {kv lv kv' lv' : Value} {base : Nat} (hb : ∀ k, onw b kv lv k → base ≤ k) (hs : base ≤ w.heap.size) (h1 : LocR w kv kv') (h2 : LocR w lv lv') (k : Nat) (hk : onw b kv' lv' k) : base ≤ k := by
  rcases hk with rfl | hk | hk
  · exact hb _ (.inl rfl)
  · exact h1.ge (fun k hk => hb k (.inr (.inl hk))) hs k hk
  · exact h2.ge (fun k hk => hb k (.inr (.inr hk))) hs k hk
theorem Mut.then {w w1 w' : World} {b : Nat} {kv lv kv1 lv1 : Value} {p' : Nat → Bool} (hf : Fr (onw b kv lv) w w1) (h1 : LocR w kv kv1) (h2 : LocR w lv lv1) (h : Mut A w1 b kv1 lv1 p' w') : Mut A w b kv lv p' w' := by
  obtain ⟨kv', lv', g1, g2, g3, g4⟩ := h
  refine ⟨kv', lv', g1, ⟨g2.os.trans hf.os, g2.tape.trans hf.tape, g2.output.trans hf.output, Nat.le_trans hf.size g2.size, fun k hk hn => ?_⟩, h1.trans g3 hf.size, h2.trans g4 hf.size⟩
  rw [g2.block k (Nat.lt_of_lt_of_le hk hf.size) (fun h => hn ?_), hf.block k hk hn]
  rcases h with h | h | h
  · exact .inl h
  · rcases h1 with h1 | h1
    · exact .inr (.inl (h1 ▸ h))
    · have := h1 k h; omega
  · rcases h2 with h2 | h2
    · exact .inr (.inr (h2 ▸ h))
    · have := h2 k h; omega
theorem add_s {w : World} {b : Nat} {kv lv : Value} {p : Nat → Bool} (hS : RS A w b kv lv p) (hT : Tab w) (hA : Fsh A w) {x : Nat} (hx : x < 4294967296) :
    Fc Tryz.prog 23 #[.pointer (some ⟨b, 0, none⟩), .int .u32 x] w (fun en w' => en = .returned (.tuple #[]) ∧ Mut A w b kv lv (addM p x) w') := by
  have hup := upd_addM p x
  have e2 : IntKind.u16.wrap (x : Int) = ((x % 65536 : Nat) : Int) := by rw [IntKind.wrap_u16]; omega
  have e1 : (x : Int) / 65536 = ((x / 65536 : Nat) : Int) := by omega
  have hx1 : x / 65536 < 65536 := by omega
  have hx2 : x % 65536 < 65536 := Nat.mod_lt _ (by omega)
  obtain ⟨k, hk⟩ : ∃ k, k = x / 65536 := ⟨_, rfl⟩
  obtain ⟨r, hr⟩ : ∃ r, r = x % 65536 := ⟨_, rfl⟩
  rw [← hk, ← hr] at hup
  rw [← hk] at e1 hx1; rw [← hr] at e2 hx2
  clear hk hr
  have hF := hS.fsh hA
  obtain ⟨q, hq⟩ : ∃ q, q = addP (blk p k) r := ⟨_, rfl⟩
  have hq1 : ∀ i, 65536 ≤ i → q i = false := fun i hi => by rw [hq]; unfold addP; rw [blk_off (by omega), decide_eq_false (by omega)]; rfl
  have hq2 : 0 < cnt q 65536 := cnt_pos hx2 (by rw [hq]; unfold addP; rw [decide_eq_true rfl, Bool.or_true])
  have hw : ∀ w', Ext w w' → ∀ u, Cn (fun k => A k ∧ kv.ownBlock ≠ some k) w' u (blk p k) (kindP (blk p k)) → _ := fun w' e u hu => acA hu (hT.ext e) (hF.ext e) hx2
  rw [← hq] at hup hw
  refine Fc.of (args := [_, _]) Tryz.func23 rfl rfl Tryz.ntmps23 (Nat.le_of_ble_eq_true rfl) ?_
  repeat' (first|(refine oLA ?_;first|refine LA_pass rfl ?_|(refine oEq ?_; refine LA_binV (c := .bool true) rfl rfl rfl (fun _ => rfl) ?_)|(refine oB .shr ?_; refine LA_shr rfl rfl rfl (by decide) (by decide) ?_; rw [show (2 : Int) ^ Int.toNat 16 = 65536 by decide, e1])|(refine oD 16 ?_; refine LA_conv rfl rfl rfl rfl ?_; rw [e2])|(refine oC 46 ?_; refine LA_stop (hK _ _ (LX_pick 17 rfl (fun v17 w17 e17 h17 => LX_call3 rfl (by decide) rfl rfl rfl rfl (fun v w' => v = .tuple #[] ∧ Mut A w b kv lv (addM p x) w') (fun w1 e1 => ?_) (fun v w2 hm => ?_)))); clear hK K)|refine wOp ?_|(refine wCm ?_ ?_<;>intro hc)|(refine oCv ?_;first|(refine oC 47 ?_; refine LA_call2 (f := 47) rfl rfl rfl rfl  (.pred (cnP (fun k => A k ∧ kv.ownBlock ≠ some k) (blk p k) (kindP (blk p k)))) (by intro u1 u2 w e hu1 hu2; (try obtain rfl : u1 = _ := hu1); (try obtain rfl : u2 = _ := hu2); exact get_s (hS.ext e).nset hx1) ?_)|(refine oC 57 ?_; refine LA_call2 (f := 57) rfl rfl rfl rfl  (.pred (cnP (fun k => A k ∧ kv.ownBlock ≠ some k) q (kindP q))) (by intro u1 u2 w e hu1 hu2; (try obtain rfl : u1 = _ := hu1); (try obtain rfl : u2 = _ := hu2); exact hw _ e _ hu1) ?_))|(refine wNl hK ?_;clear hK K))|refine wG ?_|(refine wCR ?_;intro K hK)|fail)
  all_goals skip
  · exact (put_s (hS.ext (e17.trans e1)) hx1 (Cn.ext h17 e1) hq1 hq2).mono (fun en w' h => ⟨_, h.1, rfl, hup ▸ h.2.from (e17.trans e1)⟩)
  · obtain ⟨rfl, hm⟩ := hm
    exact PX_end0 rfl (fun w5 e5 => ⟨rfl, hm.ext e5⟩) (.inl rfl)
theorem add_nil {w : World} (x : Int) : Fc Tryz.prog 23 #[.pointer none, .int .u32 x] w (Ret w (.val (.tuple #[]))) := by
  refine Fc.of (args := [_, _]) Tryz.func23 rfl rfl Tryz.ntmps23 (Nat.le_of_ble_eq_true rfl) ?_
  repeat' (first|(refine oLA ?_;first|refine LA_pass rfl ?_|(refine oEq ?_; refine LA_binV (c := .bool false) rfl rfl rfl (fun _ => rfl) ?_)|refine wOp ?_|(refine wCm ?_ ?_<;>intro hc)|(refine wNl hK ?_;clear hK K))|refine wG ?_|(refine wCR ?_;intro K hK)|fail)
  all_goals skip
  exact PX_end0 rfl (fun w5 e5 => ⟨_, rfl, e5, rfl⟩) (.inl rfl)
theorem addrange_nil {w : World} (x y : Int) : Fc Tryz.prog 12 #[.pointer none, .int .u64 x, .int .u64 y] w (Ret w (.val (.tuple #[]))) := by
  refine Fc.of (args := [_, _, _]) Tryz.func12 rfl rfl Tryz.ntmps12 (Nat.le_of_ble_eq_true rfl) ?_
  repeat' (first|(refine oLA ?_;first|refine LA_pass rfl ?_|refine LA_min2 rfl rfl rfl ?_|refine wOp ?_|(refine wCm ?_ ?_<;>intro hc)|(refine wNl hK ?_;clear hK K))|refine wG ?_|(refine wCR ?_;intro K hK)|fail)
  refine CX_loop (ι := Nat) (fun i => [(0, .val (.pointer none))]) (fun i => True) (fun i => 0) 0 trivial (by repeat' (first | exact Sub.nil | refine Sub.val rfl (by first | with_reducible rfl | (congr 1; omega)) ?_ | refine Sub.same rfl ?_)) ?_
  intro i _
  repeat' (first|(refine oLA ?_;first|refine LA_pass rfl ?_|(refine oEq ?_; refine LA_binV (c := .bool false) rfl rfl rfl (fun _ => rfl) ?_)|refine wOp ?_|(refine wCm ?_ ?_<;>intro hc)|(refine wNl hK ?_;clear hK K))|refine wG ?_|(refine wCR ?_;intro K hK)|fail)
  all_goals skip
  exact PX_end0 rfl (fun w5 e5 => ⟨_, rfl, e5, rfl⟩) (.inl rfl)
set_option maxHeartbeats 1000000 in
theorem addrange_s {w0 w : World} {b : Nat} {kv lv : Value} {p : Nat → Bool} (h0 : Ext w0 w) (hT : Tab w0) (hB : ∀ k, onw b kv lv k → w0.heap.size ≤ k) (hS : RS A w b kv lv p) (hA : Fsh A w) {lo hi : Nat} (hlo : lo < 18446744073709551616) (hhi : hi < 18446744073709551616) :
    Fc Tryz.prog 12 #[.pointer (some ⟨b, 0, none⟩), .int .u64 lo, .int .u64 hi] w (fun en w' => en = .returned (.tuple #[]) ∧ Mut A w b kv lv (rng p lo (min hi TOP)) w') := by
  have htop := TOP_eq
  obtain ⟨H, hH⟩ : ∃ H, H = min hi TOP := ⟨_, rfl⟩
  have hH2 : min (hi : Int) 4294967296 = (H : Int) := by omega
  have hH3 : H ≤ 4294967296 := by omega
  rw [← hH]
  clear hH htop
  refine Fc.of (args := [_, _, _]) Tryz.func12 rfl rfl Tryz.ntmps12 (Nat.le_of_ble_eq_true rfl) ?_
  repeat' (first|(refine oLA ?_;first|refine LA_pass rfl ?_|(refine LA_min2 rfl rfl rfl ?_; rw [hH2])|refine wOp ?_|(refine wCm ?_ ?_<;>intro hc)|(refine wNl hK ?_;clear hK K))|refine wG ?_|(refine wCR ?_;intro K hK)|fail)
  refine CX_loopV (ι := Nat) (fun i => [(0, .val (.pointer (some ⟨b, 0, none⟩))), (1, .val (.int .u64 i)), (2, .val (.int .u64 H))]) (fun i w' => lo ≤ i ∧ (i = lo ∨ i ≤ H) ∧ Mut A w b kv lv (rng p lo i) w') (fun i => H - i)
    (fun w2 e2 => ⟨lo, ⟨Nat.le_refl _, .inl rfl, by rw [rng_none p (Nat.le_refl _)]; exact ⟨kv, lv, hS.ext e2, Fr.of e2, LocR.refl, LocR.refl⟩⟩, (by repeat' (first | exact Sub.nil | refine Sub.val rfl (by first | with_reducible rfl | (congr 1; omega)) ?_ | refine Sub.same rfl ?_))⟩) ?_
  rintro i w1 ⟨hi0, hi1, kv1, lv1, hS1, hF1, hl1, hl2⟩
  have hB1 := onw_loc hB h0.size hl1 hl2
  have h01 : Ext w0 w1 := Fr.ext h0 hF1 hB
  have hA1 : Fsh A w1 := fun k hk => hA k (Nat.le_trans hF1.size hk)
  have hF := hS1.fsh hA1
  have hT1 := hT.ext h01
  by_cases hlt : i < H
  · obtain ⟨k, hk⟩ : ∃ k, k = i / 65536 := ⟨_, rfl⟩
    obtain ⟨e0, he0⟩ : ∃ e0, e0 = min H ((k + 1) * 65536) := ⟨_, rfl⟩
    have hks := mul_succ' k
    have k1 : k * 65536 ≤ i := by omega
    have k2 : i < k * 65536 + 65536 := by omega
    have k3 : k < 65536 := by omega
    have e1 : (i : Int) / 65536 = (k : Int) := by omega
    have e3 : IntKind.u64.wrap ((((i : Int) / 65536) + 1) * 65536) = ((k * 65536 + 65536 : Nat) : Int) := by rw [e1, wrap_fits .u64 _ (by dsimp only [fits]; omega)]; omega
    have e4 : IntKind.u64.wrap ((k : Int) * 65536) = ((k * 65536 : Nat) : Int) := by rw [wrap_fits .u64 _ (by dsimp only [fits]; omega)]; omega
    have e5 : min (H : Int) ((k * 65536 + 65536 : Nat) : Int) = (e0 : Int) := by omega
    have hup := upd_rng p (lo0 := lo) (lo := i) (e := e0) (k := k) hi0 (by omega) k1 (by omega) (a := (i : Int) - ((k * 65536 : Nat) : Int)) (c := (e0 : Int) - ((k * 65536 : Nat) : Int)) (by omega) (by omega)
    obtain ⟨g, hg⟩ : ∃ g, g = flp (fun _ => false) ((i : Int) - ((k * 65536 : Nat) : Int)) ((e0 : Int) - ((k * 65536 : Nat) : Int)) := ⟨_, rfl⟩
    obtain ⟨q, hq⟩ : ∃ q, q = two (fun x y => x || y) (blk (rng p lo i) k) g := ⟨_, rfl⟩
    rw [← hg, ← hq] at hup
    have f1 : ∀ w', Ext w1 w' → ∀ u, Cn (fun k => A k ∧ kv1.ownBlock ≠ some k) w' u (fun _ => false) 1 → Fc Tryz.prog 49 #[u, .int .i64 ((i : Int) - ((k * 65536 : Nat) : Int)), .int .i64 ((e0 : Int) - ((k * 65536 : Nat) : Int))] w' (Ret w' (.pred (cnP (fun k => A k ∧ kv1.ownBlock ≠ some k) g (kindP g)))) :=
      fun w' e u hu => by rw [hg]; exact flip_c hu (hT1.ext e) (hF.ext e) _ _ (by omega) (by omega)
    have f2 : ∀ w', Ext w1 w' → ∀ u v, Cn (fun k => A k ∧ kv1.ownBlock ≠ some k) w' u (blk (rng p lo i) k) (kindP (blk (rng p lo i) k)) → Cn (fun k => A k ∧ kv1.ownBlock ≠ some k) w' v g (kindP g) → Fc Tryz.prog 48 #[u, v] w' (Ret w' (.pred (cnP (fun k => A k ∧ kv1.ownBlock ≠ some k) q (kindP q)))) :=
      fun w' e u v hu hv => by rw [hq]; exact cor_c hu hv (hT1.ext e) (hF.ext e)
    have hq1 : ∀ i, 65536 ≤ i → q i = false := fun j hj => by
      rw [hq, hg]; unfold two flp two fXor' spanM
      rw [blk_off (by omega), decide_eq_false (show ¬ j < 65536 by omega), Bool.and_false]; rfl
    have hq2 : 0 < cnt q 65536 := by
      refine cnt_pos (r := i - k * 65536) (by omega) ?_
      rw [hq, hg]; unfold two
      rw [flip_on (by omega) (by omega) (by omega)]; simp
    have f3 : ∀ w', Ext w1 w' → ∀ u, Cn (fun k => A k ∧ kv1.ownBlock ≠ some k) w' u q (kindP q) → _ := fun w' (e : Ext w1 w') u hu => put_s (hS1.ext e) (vc := u) k3 hu hq1 hq2
    rw [hup] at f3
    clear hg hup hq hq1 hq2
    repeat' (first|(refine oLA ?_;first|refine LA_pass rfl ?_|(refine oEq ?_; refine LA_binV (c := .bool true) rfl rfl rfl (fun _ => rfl) ?_)|(refine oB .shr ?_; refine LA_shr rfl rfl rfl (by decide) (by decide) ?_; rw [show (2 : Int) ^ Int.toNat 16 = 65536 by decide])|(refine oD 23 ?_; refine LA_shl rfl rfl rfl (by decide) (by decide) ?_; rw [show (2 : Int) ^ Int.toNat 16 = 65536 by decide, e3])|(refine oD 30 ?_; refine LA_shl rfl rfl rfl (by decide) (by decide) ?_; rw [show (2 : Int) ^ Int.toNat 16 = 65536 by decide, e1, e4])|(refine oD 27 ?_; rw [e1]; refine LA_convF (n := (k : Int)) rfl rfl rfl rfl (by dsimp only [fits]; omega) ?_)|(refine LA_min2 rfl rfl rfl ?_; rw [e5])|(refine oAl ?_; refine LA_stop (hK _ _ (LX_al rfl (by decide) (fun _ => rfl) (fun b9 w9 x9 hb9 h9 => ?_))); clear hK K; have c9 : Cn (fun k => A k ∧ kv1.ownBlock ≠ some k) w9 (.agg #[.int .u8 0, nilS, nilS, nilS]) (fun _ => false) 1 := Cn.zero; refine LX_la (by kernel_rfl) (fun K hK => ?_))|(refine oLd ?_; refine LA_loadK (n := 4) rfl h9 rfl rfl (fun _ => rfl) (fun _ => rfl) ?_)|(refine oC 46 ?_; refine LA_stop (hK _ _ rfl (LX_pick 46 rfl (fun v17 w17 e17 h17 => LX_call3 rfl (by decide) rfl rfl rfl rfl (fun v w' => v = .tuple #[] ∧ Mut A w b kv lv (rng p lo e0) w') (fun w8 e8 => (f3 _ (x9.trans (e17.trans e8)) _ (Cn.ext h17 e8)).mono fun en w' h => ⟨_, h.1, rfl, (h.2.from (x9.trans (e17.trans e8))).then hF1 hl1 hl2⟩) (fun v w2 hm => ?_)))); clear hK K; obtain ⟨rfl, hm⟩ := hm)|refine wOp ?_|(refine wCm ?_ ?_<;>intro hc)|(refine oCv ?_;first|(refine oC 47 ?_; refine LA_call2 (f := 47) rfl rfl rfl rfl  (.pred (cnP (fun k => A k ∧ kv1.ownBlock ≠ some k) (blk (rng p lo i) k) (kindP (blk (rng p lo i) k)))) (by intro u1 u2 w e hu1 hu2; (try obtain rfl : u1 = _ := hu1); (try obtain rfl : u2 = _ := hu2); exact get_s (hS1.ext (x9.trans e)).nset k3) ?_)|(refine oC 49 ?_; refine LA_call3 (f := 49) rfl rfl rfl rfl rfl  (.pred (cnP (fun k => A k ∧ kv1.ownBlock ≠ some k) g (kindP g))) (by intro u1 u2 u3 w e hu1 hu2 hu3; (try obtain rfl : u1 = _ := hu1); (try obtain rfl : u2 = _ := hu2); (try obtain rfl : u3 = _ := hu3); exact f1 _ (x9.trans e) _ (c9.ext e)) ?_)|(refine oC 48 ?_; refine LA_call2 (f := 48) rfl rfl rfl rfl  (.pred (cnP (fun k => A k ∧ kv1.ownBlock ≠ some k) q (kindP q))) (by intro u1 u2 w e hu1 hu2; (try obtain rfl : u1 = _ := hu1); (try obtain rfl : u2 = _ := hu2); exact f2 _ (x9.trans e) _ _ hu1 hu2) ?_))|(refine wNl hK ?_;clear hK K))|(refine oCX ?_;first|refine CX_regionS 16 (by kernel_rfl) (by kernel_rfl) (by kernel_rfl) (fun K hK => ?_))|refine wG ?_|(refine wCR ?_;intro K hK)|fail)
    all_goals skip
    exact PX_rndV e0 (fun w5 e5 => ⟨by omega, by omega, hm.ext e5⟩) (by omega) (by repeat' (first | exact Sub.nil | refine Sub.val rfl (by first | with_reducible rfl | (congr 1; omega)) ?_ | refine Sub.same rfl ?_))
  · have hmut : Mut A w b kv lv (rng p lo H) w1 := by
      by_cases e : i = H
      · exact e ▸ ⟨kv1, lv1, hS1, hF1, hl1, hl2⟩
      · have : i = lo := by omega
        rw [show rng p lo H = rng p lo i by rw [rng_none p (show H ≤ lo by omega), rng_none p (show i ≤ lo by omega)]]
        exact ⟨kv1, lv1, hS1, hF1, hl1, hl2⟩
    repeat' (first|(refine oLA ?_;first|refine LA_pass rfl ?_|(refine oEq ?_; refine LA_binV (c := .bool true) rfl rfl rfl (fun _ => rfl) ?_)|refine wOp ?_|(refine wCm ?_ ?_<;>intro hc)|(refine wNl hK ?_;clear hK K))|refine wG ?_|(refine wCR ?_;intro K hK)|fail)
    all_goals skip
    exact PX_end0 rfl (fun w5 e5 => ⟨rfl, hmut.ext e5⟩) (.inl rfl)
end Go.Proofs.YtfcioiobhpcngaaGreatDoor
end
section
set_option linter.unusedSimpArgs false
set_option linter.unusedVariables false
set_option maxRecDepth 3000
namespace Go.Proofs.YtfcioiobhpcngaaGreatDoor
open Go.LA Go.ArrP Go.RowKit
variable {A B : Nat → Prop}
noncomputable def spU (xs : List Sp) (y : Nat) : Bool := xs.any (fun x => decide (x.1.toNat ≤ y) && decide (y < min x.2.toNat TOP))
theorem spU_app (xs ys : List Sp) (y : Nat) : spU (xs ++ ys) y = (spU xs y || spU ys y) := List.any_append
theorem getD_memP {xs : List Sp} {i : Nat} (h : i < xs.length) : xs.getD i (0, 0) ∈ xs := by
  rw [List.getD_eq_getElem?_getD, List.getElem?_eq_getElem h]; exact List.getElem_mem h
theorem take_succP {xs : List Sp} {i : Nat} (h : i < xs.length) : xs.take (i + 1) = xs.take i ++ [xs.getD i (0, 0)] := by
  rw [List.getD_eq_getElem?_getD, List.getElem?_eq_getElem h, List.take_add_one, List.getElem?_eq_getElem h]; rfl
theorem spU_succ {xs : List Sp} {i : Nat} (h : i < xs.length) : rng (spU (xs.take i)) (xs.getD i (0, 0)).1.toNat (min (xs.getD i (0, 0)).2.toNat TOP) = spU (xs.take (i + 1)) := by
  funext y
  rw [take_succP h, spU_app]
  unfold rng
  congr 1
  unfold spU
  rw [List.any_cons, List.any_nil, Bool.or_false]
def U64 (xs : List Sp) : Prop := ∀ x ∈ xs, 0 ≤ x.1 ∧ x.1 < 18446744073709551616 ∧ 0 ≤ x.2 ∧ x.2 < 18446744073709551616
theorem spans_s {w : World} {v : Value} {xs : List Sp} (h : SlP .u64 w v xs) (hx : U64 xs) (hT : Tab w) (hB : Fsh B w) (hA : Fsh A w) : Fc Tryz.prog 14 #[v] w (Ret w (.pred (rsP B A (spU xs)))) := by
  have hlen := h.len
  refine Fc.of (args := [_]) Tryz.func14 rfl rfl Tryz.ntmps14 (Nat.le_of_ble_eq_true rfl) ?_
  repeat' (first|(refine oLA ?_;first|refine LA_pass rfl ?_|(refine oLen ?_; refine LA_lenP rfl _ rfl rfl (HasP.val h) ?_)|refine wOp ?_|(refine wCm ?_ ?_<;>intro hc)|(refine oCv ?_;first|(refine oC 11 ?_; refine LA_call0 (f := 11) rfl rfl  (.pred (rsP (fun k => w.heap.size ≤ k) A (fun _ => false))) (by intro w e; exact new_c _ (fun k hk => Nat.le_trans e.size hk)) ?_))|(refine wNl hK ?_;clear hK K))|refine wG ?_|(refine wCR ?_;intro K hK)|fail)
  refine CX_pick 3 rfl (fun v3 w3 e3 h3 => ?_)
  obtain ⟨b, kv3, lv3, rfl, hS3, hB3⟩ := h3
  refine CX_loopV (ι := Nat) (fun i => [(3, .val (.pointer (some ⟨b, 0, none⟩))), (7, .val v), (8, .val (.int .i64 xs.length)), (9, .val (.int .i64 i))]) (fun i w' => i ≤ xs.length ∧ Ext w w' ∧ ∃ kv lv, RS A w' b kv lv (spU (xs.take i)) ∧ ∀ k, onw b kv lv k → w.heap.size ≤ k) (fun i => xs.length - i)
    (fun w2 e2 => ⟨0, ⟨Nat.zero_le _, e3.trans e2, kv3, lv3, hS3.ext e2, hB3⟩, (by repeat' (first | exact Sub.nil | refine Sub.val rfl (by first | with_reducible rfl | (congr 1; omega)) ?_ | refine Sub.same rfl ?_))⟩) ?_
  rintro i w1 ⟨hi, he, kv, lv, hS, hB1⟩
  have h1 := h.ext he
  by_cases hil : i < xs.length
  · obtain ⟨u1, u2, u3, u4⟩ := hx _ (getD_memP hil)
    have hsu := spU_succ hil
    obtain ⟨lo, hlo⟩ : ∃ lo : Nat, (xs.getD i (0, 0)).1 = (lo : Int) := ⟨(xs.getD i (0, 0)).1.toNat, by omega⟩
    obtain ⟨hi', hhi⟩ : ∃ hi : Nat, (xs.getD i (0, 0)).2 = (hi : Int) := ⟨(xs.getD i (0, 0)).2.toNat, by omega⟩
    rw [hlo, hhi, Int.toNat_natCast, Int.toNat_natCast] at hsu
    rw [hlo] at u1 u2; rw [hhi] at u3 u4
    repeat' (first|(refine oLA ?_;first|refine LA_pass rfl ?_|(refine oI ?_; refine LA_indexP rfl _ rfl (fun _ => rfl) rfl (HasP.val h1) rfl hil ?_; rw [hlo, hhi])|(refine oLt 32 ?_; refine LA_loadC (cs := [.int .u64 lo, .int .u64 hi']) rfl (fun _ => rfl) (fun _ => rfl) rfl ?_)|(refine oD 5 ?_; refine LA_stop (hK _ _ (LX_var rfl rfl (by decide) (fun _ => rfl) (fun _ => rfl) (fun _ => rfl) rfl (by intro u hu; simp [Value.cells] at hu; rcases hu with rfl | rfl <;> rfl) (fun bx wx ex hbx hbc => ?_))); clear hK K; refine LX_la (by kernel_rfl) (fun K hK => ?_))|(refine oF 0 ?_; refine LA_fieldAddr (a' := ⟨bx, 0, none⟩) rfl rfl (fun _ => rfl) ?_)|(refine oF 1 ?_; refine LA_fieldAddr (a' := ⟨bx, 1, none⟩) rfl rfl (fun _ => rfl) ?_)|(refine oLt 22 ?_; refine LA_loadB rfl (fun _ => rfl) rfl hbc rfl ?_)|(refine oC 12 ?_; refine LA_stop (hK _ _ (LX_call3 rfl (by decide) rfl rfl rfl rfl (fun v w' => v = .tuple #[] ∧ ∃ wz, Ext w1 wz ∧ Mut A wz b kv lv (spU (xs.take (i + 1))) w') (fun w8 e8 => (addrange_s (he.trans (ex.trans e8)) hT hB1 (hS.ext (ex.trans e8)) (hA.ext (he.trans (ex.trans e8))) (by omega) (by omega)).mono fun en w' h => ⟨_, h.1, rfl, _, ex.trans e8, hsu ▸ h.2⟩) (fun v w2 hm => ?_))); clear hK K; obtain ⟨rfl, wz, ez, hm⟩ := hm)|refine wOp ?_|(refine wCm ?_ ?_<;>intro hc)|(refine wNl hK ?_;clear hK K))|refine wG ?_|(refine wCR ?_;intro K hK)|fail)
    all_goals skip
    obtain ⟨kv', lv', hS', hF', l1, l2⟩ := hm
    have x2 := he.trans ez
    exact PX_rndV (i + 1) (fun w5 e5 => ⟨hil, (Fr.ext x2 hF' hB1).trans e5, kv', lv', hS'.ext e5, onw_loc hB1 x2.size l1 l2⟩) (by omega) (by repeat' (first | exact Sub.nil | refine Sub.val rfl (by first | with_reducible rfl | (congr 1; omega)) ?_ | refine Sub.same rfl ?_))
  · obtain rfl : i = xs.length := by omega
    rw [List.take_length] at hS
    repeat' (first|(refine oLA ?_;first|refine LA_pass rfl ?_|refine wOp ?_|(refine wCm ?_ ?_<;>intro hc)|(refine wNl hK ?_;clear hK K))|refine wG ?_|(refine wCR ?_;intro K hK)|fail)
    exact PX_retP rfl rfl he (fun u w5 e5 hu => by obtain rfl : u = _ := hu; exact ⟨b, kv, lv, rfl, hS.ext e5, fun k hk => hB k (hB1 k hk)⟩)
end Go.Proofs.YtfcioiobhpcngaaGreatDoor
end
section
set_option linter.unusedSimpArgs false
set_option linter.unusedVariables false
set_option maxRecDepth 3000
namespace Go.Proofs.YtfcioiobhpcngaaGreatDoor
open Go.LA Go.ArrP Go.RowKit
theorem sp_ext {a b : List Sp} (hl : a.length = b.length) (h : ∀ k, k < a.length → (a.getD k (0, 0)).1 = (b.getD k (0, 0)).1 ∧ (a.getD k (0, 0)).2 = (b.getD k (0, 0)).2) : a = b :=
  List.ext_getElem hl fun i h1 h2 => by
    obtain ⟨e1, e2⟩ := h i h1
    have g1 : a.getD i (0, 0) = a[i] := by simp [List.getD, h1]
    have g2 : b.getD i (0, 0) = b[i] := by simp [List.getD, h2]
    rw [g1, g2] at e1 e2
    exact Prod.ext e1 e2
theorem eqP_run (f m f' m' : Int) (w : World) : (Op.equalIn 10000 32 (spV .u64 (f, m)) (spV .u64 (f', m'))).run Tryz.prog w = .ok (decide (f = f') && decide (m = m')) w := by
  unfold spV
  rw [run_equalIn_agg w 9999 32 _ _ (by kernel_rfl) (by kernel_rfl)]
  have hp : ∀ (f m : Int) (w : World), (part 22 #[.int .u64 f, .int .u64 m] 0).run Tryz.prog w = .ok (.int .u64 f) w := fun f m w => by kernel_rfl
  have hq : ∀ (f m : Int) (w : World), (part 22 #[.int .u64 f, .int .u64 m] 1).run Tryz.prog w = .ok (.int .u64 m) w := fun f m w => by kernel_rfl
  have he : ∀ (a b : Int) (w : World), (Op.equalIn 9999 22 (.int .u64 a) (.int .u64 b)).run Tryz.prog w = .ok (a == b) w := fun a b w => run_equalIn_int w 9998 _ _ _ a b (by kernel_rfl : Tryz.prog.underlying 22 = some (.int .u64))
  simp only [Program.fieldsOf, Tryz.underlying32]
  simp only [Op.eqFields, Sem.run_bind, Sem.run_ite, hp, hq, he, Result.andThen_ok, Sem.run_pure]
  by_cases h1 : f = f' <;> by_cases h2 : m = m' <;> simp [h1, h2]
theorem neP_op (f m f' m' : Int) (x y : Operand) (w : World) : (do eqGuard .neq 32 x y (spV .u64 (f, m)) (spV .u64 (f', m')); binOp .neq 32 (spV .u64 (f, m)) (spV .u64 (f', m')) : Sem Value).run Tryz.prog w = .ok (.bool (!(decide (f = f') && decide (m = m')))) w := by
  have h := eqP_run f m f' m' w
  unfold spV at h ⊢
  rw [Sem.run_bind, run_eqGuard_agg w _ _ _ _ _ _ (by kernel_rfl)]
  simp only [Result.andThen_ok, run_neq_struct, h]
theorem equal_s (w : World) (v u : Value) (a b : List Sp) (h : SlP .u64 w v a) (h' : SlP .u64 w u b) : Fc Tryz.prog 53 #[v, u] w (Ret w (.val (.bool (decide (a = b))))) := by
  have hl := h.len
  have hl' := h'.len
  refine Fc.of (args := [_, _]) Tryz.func53 rfl rfl Tryz.ntmps53 (Nat.le_of_ble_eq_true rfl) ?_
  by_cases hlen : a.length = b.length
  · skip
    repeat' (first|(refine oLA ?_;first|refine LA_pass rfl ?_|(refine oI ?_; refine LA_indexP rfl _ rfl (fun _ => rfl) rfl (by first | exact HasP.val (by assumption) | exact HasP.own | exact HasP.ownV (by assumption)) rfl (by omega) ?_)|(refine oLt 32 ?_; refine LA_loadC rfl (fun _ => rfl) (fun _ => rfl) rfl ?_)|(refine oLen ?_; refine LA_lenP rfl _ rfl rfl (by first | exact HasP.val (by assumption) | exact HasP.own | exact HasP.ownV (by assumption)) ?_)|refine wOp ?_|(refine wCm ?_ ?_<;>intro hc)|(refine wNl hK ?_;clear hK K))|refine wG ?_|(refine wCR ?_;intro K hK)|fail)
    refine CX_loop (ι := Nat) (fun k => [(0, .val v), (1, .val u), (12, .val (.int .i64 a.length)), (13, .val (.int .i64 k))]) (fun k => k ≤ a.length ∧ ∀ i, i < k → (a.getD i (0, 0)).1 = (b.getD i (0, 0)).1 ∧ (a.getD i (0, 0)).2 = (b.getD i (0, 0)).2) (fun k => a.length - k) 0 ⟨Nat.zero_le _, fun i h1 => by omega⟩ (by repeat' (first | exact Sub.nil | refine Sub.val rfl (by first | with_reducible rfl | (congr 1; omega)) ?_ | refine Sub.same rfl ?_)) ?_
    rintro k ⟨hk, hin⟩
    by_cases hkl : k < a.length
    · by_cases he : (a.getD k (0, 0)).1 = (b.getD k (0, 0)).1 ∧ (a.getD k (0, 0)).2 = (b.getD k (0, 0)).2
      · have hb : (!(decide ((a.getD k (0, 0)).1 = (b.getD k (0, 0)).1) && decide ((a.getD k (0, 0)).2 = (b.getD k (0, 0)).2))) = false := by rw [decide_eq_true he.1, decide_eq_true he.2]; rfl
        repeat' (first|(refine oLA ?_;first|refine LA_pass rfl ?_|(refine LA_binV (c := .bool false) rfl rfl rfl (fun w => (neP_op (a.getD k (0, 0)).1 (a.getD k (0, 0)).2 (b.getD k (0, 0)).1 (b.getD k (0, 0)).2 _ _ w).trans (by rw [hb])) ?_)|(refine oI ?_; refine LA_indexP rfl _ rfl (fun _ => rfl) rfl (by first | exact HasP.val (by assumption) | exact HasP.own | exact HasP.ownV (by assumption)) rfl (by omega) ?_)|(refine oLt 32 ?_; refine LA_loadC rfl (fun _ => rfl) (fun _ => rfl) rfl ?_)|(refine oLen ?_; refine LA_lenP rfl _ rfl rfl (by first | exact HasP.val (by assumption) | exact HasP.own | exact HasP.ownV (by assumption)) ?_)|refine wOp ?_|(refine wCm ?_ ?_<;>intro hc)|(refine wNl hK ?_;clear hK K))|refine wG ?_|(refine wCR ?_;intro K hK)|fail)
        all_goals skip
        refine PX_rnd (k + 1) ⟨hkl, fun i h1 => ?_⟩ (by omega) (by repeat' (first | exact Sub.nil | refine Sub.val rfl (by first | with_reducible rfl | (congr 1; omega)) ?_ | refine Sub.same rfl ?_))
        by_cases e : i = k
        · subst e; exact he
        · exact hin i (by omega)
      · have hb : (!(decide ((a.getD k (0, 0)).1 = (b.getD k (0, 0)).1) && decide ((a.getD k (0, 0)).2 = (b.getD k (0, 0)).2))) = true := by
          by_cases h1 : (a.getD k (0, 0)).1 = (b.getD k (0, 0)).1
          · rw [decide_eq_true h1, decide_eq_false (fun h2 => he ⟨h1, h2⟩)]; rfl
          · rw [decide_eq_false h1]; rfl
        have hne : a ≠ b := fun e => he (by rw [e]; exact ⟨rfl, rfl⟩)
        repeat' (first|(refine oLA ?_;first|refine LA_pass rfl ?_|(refine LA_binV (c := .bool true) rfl rfl rfl (fun w => (neP_op (a.getD k (0, 0)).1 (a.getD k (0, 0)).2 (b.getD k (0, 0)).1 (b.getD k (0, 0)).2 _ _ w).trans (by rw [hb])) ?_)|(refine oI ?_; refine LA_indexP rfl _ rfl (fun _ => rfl) rfl (by first | exact HasP.val (by assumption) | exact HasP.own | exact HasP.ownV (by assumption)) rfl (by omega) ?_)|(refine oLt 32 ?_; refine LA_loadC rfl (fun _ => rfl) (fun _ => rfl) rfl ?_)|(refine oLen ?_; refine LA_lenP rfl _ rfl rfl (by first | exact HasP.val (by assumption) | exact HasP.own | exact HasP.ownV (by assumption)) ?_)|refine wOp ?_|(refine wCm ?_ ?_<;>intro hc)|(refine wNl hK ?_;clear hK K))|refine wG ?_|(refine wCR ?_;intro K hK)|fail)
        exact PX_retE rfl rfl (Ext.refl _) (by rw [decide_eq_false hne])
    · obtain rfl : k = a.length := by omega
      have : a = b := sp_ext hlen hin
      repeat' (first|(refine oLA ?_;first|refine LA_pass rfl ?_|(refine oI ?_; refine LA_indexP rfl _ rfl (fun _ => rfl) rfl (by first | exact HasP.val (by assumption) | exact HasP.own | exact HasP.ownV (by assumption)) rfl (by omega) ?_)|(refine oLt 32 ?_; refine LA_loadC rfl (fun _ => rfl) (fun _ => rfl) rfl ?_)|(refine oLen ?_; refine LA_lenP rfl _ rfl rfl (by first | exact HasP.val (by assumption) | exact HasP.own | exact HasP.ownV (by assumption)) ?_)|refine wOp ?_|(refine wCm ?_ ?_<;>intro hc)|(refine wNl hK ?_;clear hK K))|refine wG ?_|(refine wCR ?_;intro K hK)|fail)
      exact PX_retE rfl rfl (Ext.refl _) (by rw [decide_eq_true this])
  · have hne : a ≠ b := fun e => hlen (by rw [e])
    repeat' (first|(refine oLA ?_;first|refine LA_pass rfl ?_|(refine oI ?_; refine LA_indexP rfl _ rfl (fun _ => rfl) rfl (by first | exact HasP.val (by assumption) | exact HasP.own | exact HasP.ownV (by assumption)) rfl (by omega) ?_)|(refine oLt 32 ?_; refine LA_loadC rfl (fun _ => rfl) (fun _ => rfl) rfl ?_)|(refine oLen ?_; refine LA_lenP rfl _ rfl rfl (by first | exact HasP.val (by assumption) | exact HasP.own | exact HasP.ownV (by assumption)) ?_)|refine wOp ?_|(refine wCm ?_ ?_<;>intro hc)|(refine wNl hK ?_;clear hK K))|refine wG ?_|(refine wCR ?_;intro K hK)|fail)
    exact PX_retE rfl rfl (Ext.refl _) (by rw [decide_eq_false hne])
theorem aaA (w : World) (v u : Value) (a b : List Sp) (h : SlP .u64 w v a) (h' : SlP .u64 w u b) : Fc Tryz.prog 18 #[v, u] w (Ret w (.val (.bool (decide (a = b))))) := by
  have hl := h.len
  have hl' := h'.len
  refine Fc.of (args := [_, _]) Tryz.func18 rfl rfl Tryz.ntmps18 (Nat.le_of_ble_eq_true rfl) ?_
  by_cases hlen : a.length = b.length
  · skip
    repeat' (first|(refine oLA ?_;first|refine LA_pass rfl ?_|(refine oI ?_; refine LA_indexP rfl _ rfl (fun _ => rfl) rfl (by first | exact HasP.val (by assumption) | exact HasP.own | exact HasP.ownV (by assumption)) rfl (by omega) ?_)|(refine oLt 32 ?_; refine LA_loadC rfl (fun _ => rfl) (fun _ => rfl) rfl ?_)|(refine oLen ?_; refine LA_lenP rfl _ rfl rfl (by first | exact HasP.val (by assumption) | exact HasP.own | exact HasP.ownV (by assumption)) ?_)|refine wOp ?_|(refine wCm ?_ ?_<;>intro hc)|(refine wNl hK ?_;clear hK K))|refine wG ?_|(refine wCR ?_;intro K hK)|fail)
    refine CX_loop (ι := Nat) (fun k => [(0, .val v), (1, .val u), (5, .val (.int .i64 k))]) (fun k => k ≤ a.length ∧ ∀ i, i < k → (a.getD i (0, 0)).1 = (b.getD i (0, 0)).1 ∧ (a.getD i (0, 0)).2 = (b.getD i (0, 0)).2) (fun k => a.length - k) 0 ⟨Nat.zero_le _, fun i h1 => by omega⟩ (by repeat' (first | exact Sub.nil | refine Sub.val rfl (by first | with_reducible rfl | (congr 1; omega)) ?_ | refine Sub.same rfl ?_)) ?_
    rintro k ⟨hk, hin⟩
    by_cases hkl : k < a.length
    · by_cases he : (a.getD k (0, 0)).1 = (b.getD k (0, 0)).1 ∧ (a.getD k (0, 0)).2 = (b.getD k (0, 0)).2
      · have hb : (!(decide ((a.getD k (0, 0)).1 = (b.getD k (0, 0)).1) && decide ((a.getD k (0, 0)).2 = (b.getD k (0, 0)).2))) = false := by rw [decide_eq_true he.1, decide_eq_true he.2]; rfl
        repeat' (first|(refine oLA ?_;first|refine LA_pass rfl ?_|(refine LA_binV (c := .bool false) rfl rfl rfl (fun w => (neP_op (a.getD k (0, 0)).1 (a.getD k (0, 0)).2 (b.getD k (0, 0)).1 (b.getD k (0, 0)).2 _ _ w).trans (by rw [hb])) ?_)|(refine oI ?_; refine LA_indexP rfl _ rfl (fun _ => rfl) rfl (by first | exact HasP.val (by assumption) | exact HasP.own | exact HasP.ownV (by assumption)) rfl (by omega) ?_)|(refine oLt 32 ?_; refine LA_loadC rfl (fun _ => rfl) (fun _ => rfl) rfl ?_)|(refine oLen ?_; refine LA_lenP rfl _ rfl rfl (by first | exact HasP.val (by assumption) | exact HasP.own | exact HasP.ownV (by assumption)) ?_)|refine wOp ?_|(refine wCm ?_ ?_<;>intro hc)|(refine wNl hK ?_;clear hK K))|refine wG ?_|(refine wCR ?_;intro K hK)|fail)
        all_goals skip
        refine PX_rnd (k + 1) ⟨hkl, fun i h1 => ?_⟩ (by omega) (by repeat' (first | exact Sub.nil | refine Sub.val rfl (by first | with_reducible rfl | (congr 1; omega)) ?_ | refine Sub.same rfl ?_))
        by_cases e : i = k
        · subst e; exact he
        · exact hin i (by omega)
      · have hb : (!(decide ((a.getD k (0, 0)).1 = (b.getD k (0, 0)).1) && decide ((a.getD k (0, 0)).2 = (b.getD k (0, 0)).2))) = true := by
          by_cases h1 : (a.getD k (0, 0)).1 = (b.getD k (0, 0)).1
          · rw [decide_eq_true h1, decide_eq_false (fun h2 => he ⟨h1, h2⟩)]; rfl
          · rw [decide_eq_false h1]; rfl
        have hne : a ≠ b := fun e => he (by rw [e]; exact ⟨rfl, rfl⟩)
        repeat' (first|(refine oLA ?_;first|refine LA_pass rfl ?_|(refine LA_binV (c := .bool true) rfl rfl rfl (fun w => (neP_op (a.getD k (0, 0)).1 (a.getD k (0, 0)).2 (b.getD k (0, 0)).1 (b.getD k (0, 0)).2 _ _ w).trans (by rw [hb])) ?_)|(refine oI ?_; refine LA_indexP rfl _ rfl (fun _ => rfl) rfl (by first | exact HasP.val (by assumption) | exact HasP.own | exact HasP.ownV (by assumption)) rfl (by omega) ?_)|(refine oLt 32 ?_; refine LA_loadC rfl (fun _ => rfl) (fun _ => rfl) rfl ?_)|(refine oLen ?_; refine LA_lenP rfl _ rfl rfl (by first | exact HasP.val (by assumption) | exact HasP.own | exact HasP.ownV (by assumption)) ?_)|refine wOp ?_|(refine wCm ?_ ?_<;>intro hc)|(refine wNl hK ?_;clear hK K))|refine wG ?_|(refine wCR ?_;intro K hK)|fail)
        exact PX_retE rfl rfl (Ext.refl _) (by rw [decide_eq_false hne])
    · obtain rfl : k = a.length := by omega
      have : a = b := sp_ext hlen hin
      repeat' (first|(refine oLA ?_;first|refine LA_pass rfl ?_|(refine oI ?_; refine LA_indexP rfl _ rfl (fun _ => rfl) rfl (by first | exact HasP.val (by assumption) | exact HasP.own | exact HasP.ownV (by assumption)) rfl (by omega) ?_)|(refine oLt 32 ?_; refine LA_loadC rfl (fun _ => rfl) (fun _ => rfl) rfl ?_)|(refine oLen ?_; refine LA_lenP rfl _ rfl rfl (by first | exact HasP.val (by assumption) | exact HasP.own | exact HasP.ownV (by assumption)) ?_)|refine wOp ?_|(refine wCm ?_ ?_<;>intro hc)|(refine wNl hK ?_;clear hK K))|refine wG ?_|(refine wCR ?_;intro K hK)|fail)
      exact PX_retE rfl rfl (Ext.refl _) (by rw [decide_eq_true this])
  · have hne : a ≠ b := fun e => hlen (by rw [e])
    repeat' (first|(refine oLA ?_;first|refine LA_pass rfl ?_|(refine oI ?_; refine LA_indexP rfl _ rfl (fun _ => rfl) rfl (by first | exact HasP.val (by assumption) | exact HasP.own | exact HasP.ownV (by assumption)) rfl (by omega) ?_)|(refine oLt 32 ?_; refine LA_loadC rfl (fun _ => rfl) (fun _ => rfl) rfl ?_)|(refine oLen ?_; refine LA_lenP rfl _ rfl rfl (by first | exact HasP.val (by assumption) | exact HasP.own | exact HasP.ownV (by assumption)) ?_)|refine wOp ?_|(refine wCm ?_ ?_<;>intro hc)|(refine wNl hK ?_;clear hK K))|refine wG ?_|(refine wCR ?_;intro K hK)|fail)
    exact PX_retE rfl rfl (Ext.refl _) (by rw [decide_eq_false hne])
end Go.Proofs.YtfcioiobhpcngaaGreatDoor
end
section
set_option linter.unusedSimpArgs false
set_option linter.unusedVariables false
set_option maxRecDepth 3000
namespace Go.Proofs.YtfcioiobhpcngaaGreatDoor
open Go.LA Go.ArrP Go.RowKit
variable {A B : Nat → Prop}
theorem span_el : El Tryz.prog 27 32 (.agg #[.int .u64 0, .int .u64 0]) 2 16 := ⟨rfl, rfl, rfl, by decide⟩
abbrev tSp : Nat := 32
set_option maxHeartbeats 1000000 in
theorem runs_s {w : World} {v : Value} {p : Nat → Bool} (h : NSet B A w v p) (hT : Tab w) : Fc Tryz.prog 19 #[v] w (Ret w (.pred (ownP w.heap.size tSp .u64 (spL p TOP)))) := by
  obtain ⟨lv, Q, hP, hL⟩ := list_s h
  have hnk := nk_le p
  have htop := TOP_eq
  refine Fc.of (args := [_]) Tryz.func19 rfl rfl Tryz.ntmps19 (Nat.le_of_ble_eq_true rfl) ?_
  repeat' (first|(refine oLA ?_;first|refine LA_pass rfl ?_|(refine oLen ?_; refine LA_len rfl _ rfl rfl (HasC.ownV hP.own) ?_)|refine wOp ?_|(refine wCm ?_ ?_<;>intro hc)|(refine oCv ?_;first|(refine oC 50 ?_; refine LA_call1 (f := 50) rfl rfl rfl  (.val lv) (by intro u1 w e hu1; (try obtain rfl : u1 = _ := hu1); exact hL _ e) ?_))|(refine wNl hK ?_;clear hK K))|refine wG ?_|(refine wCR ?_;intro K hK)|fail)
  refine CX_loopV (ι := Nat × Value) (fun i => [(0, .val v), (3, .val i.2), (13, .val lv), (14, .val (.int .i64 (nk p))), (15, .val (.int .i64 i.1))]) (fun i w' => i.1 ≤ nk p ∧ Ext w w' ∧ OwnP w.heap.size tSp .u64 w' i.2 (spL p (kp p i.1 * 65536))) (fun i => nk p - i.1)
    (fun w2 e2 => ⟨(0, .slice none 0 0), ⟨Nat.zero_le _, e2, by dsimp only; rw [sp_flat (p := p) (Nat.zero_le _) (fun x _ hx => first_no hx), sp_none]; exact OwnP.nil⟩, (by repeat' (first | exact Sub.nil | refine Sub.val rfl (by first | with_reducible rfl | (congr 1; omega)) ?_ | refine Sub.same rfl ?_))⟩) ?_
  rintro ⟨i, so⟩ w1 ⟨hi, he, ho⟩
  dsimp only at hi ho ⊢
  have hP1 := hP.ext he
  by_cases hil : i < nk p
  · obtain ⟨hat, hcn, h1⟩ := hP1.at hil
    obtain ⟨b, kv, rfl, hb, hkv⟩ := hP1.set (by omega)
    obtain ⟨k1, k2, k3, k4⟩ := kp_at hil
    have hkl := keysL_len p
    have hown := hP1.own
    have hru : ∀ w', Ext w1 w' → _ := fun w' e => cruns_c (hcn.ext e) ((hT.ext he).ext e)
    obtain ⟨gE, hE1, hE2, hE3⟩ := sp_key_end hil
    have hrun := fun j hj => sp_run (p := p) (i := i) (j := j) hj
    have hsl := fun T => Nat.le_trans (sp_len p T) (cnt_le p T)
    have hsb := fun T => sp_bd p T
    obtain ⟨rs, hrs⟩ : ∃ rs, rs = runsL (blk p (kp p i)) := ⟨_, rfl⟩
    have hrl := runsL_len (blk p (kp p i))
    rw [← hrs] at hru hrun hE1 hrl
    obtain ⟨K0, hK0⟩ : ∃ K0, K0 = kp p i := ⟨_, rfl⟩
    rw [← hK0] at k1 k4 hE3 hrun ho
    have e4 : IntKind.u64.wrap ((K0 : Int) * 65536) = ((K0 * 65536 : Nat) : Int) := by rw [wrap_fits .u64 _ (by dsimp only [fits]; omega)]; omega
    repeat' (first|(refine oLA ?_;first|refine LA_pass rfl ?_|(refine oNc ?_; refine LA_nilCheck rfl rfl ?_)|(refine oF 0 ?_; refine LA_fieldAddr (a' := ⟨b, 0, none⟩) rfl rfl (fun _ => rfl) ?_)|(refine oF 1 ?_; refine LA_fieldAddr (a' := ⟨b, 1, none⟩) rfl rfl (fun _ => rfl) ?_)|(refine oLt 52 ?_; refine LA_loadB (c := kv) rfl (fun _ => rfl) rfl hb rfl ?_)|(refine oLt 53 ?_; refine LA_loadB (c := lv) rfl (fun _ => rfl) rfl hb rfl ?_)|(refine oI ?_; refine LA_indexC (s := 4) rfl _ rfl (fun _ => rfl) rfl (HasC.ownV hown) rfl i rfl (by omega) ?_; rw [hat])|(refine oLt 65 ?_; refine LA_loadC (cs := qcs _) rfl (fun _ => rfl) (fun _ => rfl) rfl ?_)|(refine oD 5 ?_; refine LA_stop (hK _ _ (LX_varA rfl rfl rfl (by decide) (by decide) (fun _ => rfl) (fun _ => rfl) rfl (fun _ => rfl) (fun _ => rfl) rfl h1 (fun bx wx ex hbx hbc => ?_))); clear hK K; replace hb := ex.block hb; replace hkv := hkv.ext ex; refine LX_la (by kernel_rfl) (fun K hK => ?_))|(refine oD 25 ?_; refine LA_indexN rfl _ rfl (fun _ => rfl) rfl (HasI.ownV hkv) rfl (by omega) ?_; rw [k4])|(refine oD 28 ?_; refine LA_shl rfl rfl rfl (by decide) (by decide) ?_; rw [show (2 : Int) ^ Int.toNat 16 = 65536 by decide, e4])|(refine oLt 65 ?_; refine LA_loadK (n := 4) rfl hbc rfl rfl (fun _ => rfl) (fun _ => rfl) ?_)|(refine oLen ?_; refine LA_lenR rfl _ rfl rfl HasR.own ?_)|refine wOp ?_|(refine wCm ?_ ?_<;>intro hc)|(refine oCv ?_;first|(refine oC 36 ?_; refine LA_call1 (f := 36) rfl rfl rfl  (.pred (ownR w.heap.size 96 rs)) (by intro u1 w e hu1; (try obtain rfl : u1 = _ := hu1); exact (hru _ (ex.trans e)).mono (ret_baseR (Nat.le_trans he.size (Nat.le_trans ex.size e.size)) rfl)) ?_))|(refine wNl hK ?_;clear hK K))|refine wG ?_|(refine wCR ?_;intro K hK)|fail)
    all_goals skip
    refine CX_pick 30 rfl (fun vr w2 e2 hvr => ?_)
    have hvr : OwnR w.heap.size 96 w2 vr rs := hvr
    obtain ⟨KB, hKB⟩ : ∃ KB, KB = K0 * 65536 := ⟨_, rfl⟩
    rw [← hKB] at hE3 hrun ho
    rw [show ((K0 * 65536 : Nat) : Int) = (KB : Int) by rw [hKB]]
    have hKB2 : KB + 65536 ≤ 4294967296 := by omega
    clear hrs hK0 e4 hKB hat hcn h1 hb hkv hru hP1 hP hL h hown
    have x12 := ex.trans e2
    refine CX_loopV (ι := Nat × Value) (fun j => [(0, .val (.pointer (some ⟨b, 0, none⟩))), (3, .val j.2), (6, .val (.int .u64 KB)), (13, .val lv), (14, .val (.int .i64 (nk p))), (15, .val (.int .i64 i)), (30, .val vr), (31, .val (.int .i64 rs.length)), (32, .val (.int .i64 j.1))]) (fun j w' => j.1 ≤ rs.length ∧ Ext w w' ∧ OwnR w.heap.size 96 w' vr rs ∧ OwnP w.heap.size tSp .u64 w' j.2 (spL p (KB + (endR rs j.1).toNat))) (fun j => rs.length - j.1)
      (fun w3 e3 => ⟨(0, so), ⟨Nat.zero_le _, he.trans (x12.trans e3), hvr.ext e3, ho.ext (x12.trans e3)⟩, (by repeat' (first | exact Sub.nil | refine Sub.val rfl (by first | with_reducible rfl | (congr 1; omega)) ?_ | refine Sub.same rfl ?_))⟩) ?_
    rintro ⟨j, so⟩ w3 ⟨hj, x03, hr3, ho⟩
    dsimp only at hj ho ⊢
    by_cases hjl : j < rs.length
    · obtain ⟨f, m, g, q1, q2, q3, q4, q5, q6, q7, q8⟩ := hrun j hjl
      rw [q3, Int.toNat_natCast, ← q7] at ho
      have hst := sp_step (p := p) (a := KB + f) (b := KB + (f + m + 1)) (by omega) (fun x h1 h2 => q8 x h1 h2)
      have hend : spL p (KB + (endR rs (j + 1)).toNat) = spL p (KB + (f + m + 1)) := by rw [q4, Int.toNat_natCast]
      have hSl := hsl (KB + f)
      obtain ⟨S, hS⟩ : ∃ S, S = spL p (KB + f) := ⟨_, rfl⟩
      rw [← hS] at ho hst hSl
      clear hrun hsl hsb hS q3 q4 q7 q8 hE3
      rcases hst with ⟨s1, s2, s3⟩ | ⟨s1, s3⟩
      · obtain ⟨gb, cap, cur, rfl, r1, r2, r3, r4, r5, r6⟩ := ho.row s1
        have hgl : S.getD (S.length - 1) (0, 0) = ((S.getD (S.length - 1) (0, 0)).1, ((KB + f : Nat) : Int)) := by rw [← s2]
        repeat' (first|(refine oLA ?_;first|refine LA_pass rfl ?_|(refine oD 34 ?_; refine LA_indexR rfl _ rfl (fun _ => rfl) rfl (HasR.ownV hr3) rfl hjl ?_; rw [q1, q2])|(refine oLt 96 ?_; refine LA_loadC (cs := [.int .u16 f, .int .u16 m]) rfl (fun _ => rfl) (fun _ => rfl) rfl ?_)|(refine oD 8 ?_; refine LA_stop (hK _ _ (LX_var rfl rfl (by decide) (fun _ => rfl) (fun _ => rfl) (fun _ => rfl) rfl (by intro u hu; simp [Value.cells] at hu; rcases hu with rfl | rfl <;> rfl) (fun bx wx ex hbx hbc => ?_))); clear hK K; replace r2 := ex.block r2; replace ho := ho.ext ex; refine LX_la (by kernel_rfl) (fun K hK => ?_))|(refine oD 37 ?_; refine LA_fieldAddr (a' := ⟨bx, 0, none⟩) rfl rfl (fun _ => rfl) ?_)|(refine oD 42 ?_; refine LA_fieldAddr (a' := ⟨bx, 0, none⟩) rfl rfl (fun _ => rfl) ?_)|(refine oD 46 ?_; refine LA_fieldAddr (a' := ⟨bx, 1, none⟩) rfl rfl (fun _ => rfl) ?_)|(refine oLt 72 ?_; refine LA_loadB rfl (fun _ => rfl) rfl hbc rfl ?_)|(refine oLen ?_; refine LA_lenP rfl _ rfl rfl (HasP.ownV ho) ?_)|(refine oD 58 ?_; refine LA_subF rfl rfl rfl (by dsimp only [fits]; omega) ?_; rw [show ((S.length : Int) - 1) = ((S.length - 1 : Nat) : Int) by omega])|(refine oD 60 ?_; refine LA_fieldC (o := 1) rfl rfl (fun _ _ => rfl) ?_)|(refine oD 61 ?_; refine LA_loadH rfl (fun _ => rfl) rfl rfl ?_)|(refine oD 67 ?_; refine LA_subF rfl rfl rfl (by dsimp only [fits]; omega) ?_; rw [show ((S.length : Int) - 1) = ((S.length - 1 : Nat) : Int) by omega])|(refine oD 59 ?_; refine LA_indexP rfl _ rfl (fun _ => rfl) rfl (HasP.ownV ho) rfl (by omega) ?_; rw [s2])|(refine oD 69 ?_; refine LA_indexS (s := 2) rfl rfl (fun _ => rfl) rfl rfl (by omega) (by omega) ?_; rw [Int.toNat_natCast, Nat.zero_add])|(refine oD 70 ?_; refine LA_fieldAddr (a' := ⟨gb, (S.length - 1) * 2 + 1, none⟩) rfl rfl (fun _ => rfl) ?_)|(refine oSt ?_; refine LA_stop (hK _ _ (LX_store1 rfl rfl rfl r2 (fun _ => rfl) (by omega) rfl rfl (fun w7 e7 => ?_))); clear hK K)|refine wOp ?_|(refine wCm ?_ ?_<;>intro hc)|(refine wNl hK ?_;clear hK K))|refine wG ?_|(refine wCR ?_;intro K hK)|fail)
        all_goals skip
        have hr7 := Own.setRow (hr3.ext (ex.trans e7)) (cur.setIfInBounds ((S.length - 1) * 2 + 1) (.int .u64 ((KB : Int) + f + m + 1))) (Own.apart (hr3.ext (ex.trans e7)) (e7.block r2) (by decide))
        have ho7 := OwnP.set2 r1 (e7.block r2) r3 r4 r5 r6 (S.length - 1) ((KB : Int) + f + m + 1)
        have x7 := (x03.trans (ex.trans e7)).setRow r1 (cur.setIfInBounds ((S.length - 1) * 2 + 1) (.int .u64 ((KB : Int) + f + m + 1)))
        rw [show ((KB + (f + m + 1) : Nat) : Int) = (KB : Int) + f + m + 1 by omega] at s3
        exact PX_rndV (j + 1, _) (fun w5 e5 => ⟨hjl, x7.trans e5, Own.ext hr7 e5, by dsimp only; rw [hend, s3]; exact ho7.ext e5⟩) (by dsimp only; omega) (by repeat' (first | exact Sub.nil | refine Sub.val rfl (by first | with_reducible rfl | (congr 1; omega)) ?_ | refine Sub.same rfl ?_))
      · have hpair : (((KB + f : Nat) : Int), ((KB + (f + m + 1) : Nat) : Int)) = ((KB : Int) + f, (KB : Int) + f + m + 1) := Prod.ext (by omega) (by dsimp only; omega)
        by_cases h0 : S.length = 0
        · skip
          repeat' (first|(refine oLA ?_;first|refine LA_pass rfl ?_|(refine oD 34 ?_; refine LA_indexR rfl _ rfl (fun _ => rfl) rfl (HasR.ownV hr3) rfl hjl ?_; rw [q1, q2])|(refine oLt 96 ?_; refine LA_loadC (cs := [.int .u16 f, .int .u16 m]) rfl (fun _ => rfl) (fun _ => rfl) rfl ?_)|(refine oD 8 ?_; refine LA_stop (hK _ _ (LX_var rfl rfl (by decide) (fun _ => rfl) (fun _ => rfl) (fun _ => rfl) rfl (by intro u hu; simp [Value.cells] at hu; rcases hu with rfl | rfl <;> rfl) (fun bx wx ex hbx hbc => ?_))); clear hK K; replace ho := ho.ext ex; refine LX_la (by kernel_rfl) (fun K hK => ?_))|(refine oD 37 ?_; refine LA_fieldAddr (a' := ⟨bx, 0, none⟩) rfl rfl (fun _ => rfl) ?_)|(refine oD 42 ?_; refine LA_fieldAddr (a' := ⟨bx, 0, none⟩) rfl rfl (fun _ => rfl) ?_)|(refine oD 46 ?_; refine LA_fieldAddr (a' := ⟨bx, 1, none⟩) rfl rfl (fun _ => rfl) ?_)|(refine oLt 72 ?_; refine LA_loadB rfl (fun _ => rfl) rfl hbc rfl ?_)|(refine oLen ?_; refine LA_lenP rfl _ rfl rfl (HasP.ownV ho) ?_)|(refine oD 58 ?_; refine LA_subF rfl rfl rfl (by dsimp only [fits]; omega) ?_; rw [show ((S.length : Int) - 1) = ((S.length - 1 : Nat) : Int) by omega])|(refine oD 60 ?_; refine LA_fieldC (o := 1) rfl rfl (fun _ _ => rfl) ?_)|(refine oD 61 ?_; refine LA_loadH rfl (fun _ => rfl) rfl rfl ?_)|(refine oD 74 ?_; refine LA_build2 (c := spV .u64 ((KB : Int) + f, (KB : Int) + f + m + 1)) rfl rfl rfl (fun w => run_build w _ _ _ (by kernel_rfl)) ?_)|(refine oD 75 ?_; refine LA_oneS rfl span_el rfl rfl (by decide) ?_)|(refine oD 76 ?_; refine LA_stop (hK _ _ (LX_appendL (n := S.length) (cs := cellsP .u64 S) rfl (by decide) span_el rfl ho rfl HasC.own (by intro u hu; simp [spV, Value.cells] at hu; rcases hu with rfl | rfl <;> rfl) (by unfold maxLen; omega) (by omega) (fun v' wa wb' e' ho' hf hl => ?_))); clear hK K; refine LX_la (by kernel_rfl) (fun K hK => ?_))|refine wOp ?_|(refine wCm ?_ ?_<;>intro hc)|(refine wNl hK ?_;clear hK K))|refine wG ?_|(refine wCR ?_;intro K hK)|fail)
          all_goals skip
          have x4 := x03.trans (ex.trans e')
          have ho'' : OwnP w.heap.size tSp .u64 wb' v' (S ++ [((KB : Int) + f, (KB : Int) + f + m + 1)]) := by
            unfold OwnP; rw [cellsP_app, List.length_append, List.length_singleton]
            exact Own.rebase ho' (hl.ge (fun k hk => (Own.lt ho k hk).1) x4.size)
          have hr' := hf.own (hr3.ext (ex.trans e')) (fun k h1 h2 => by
            obtain ⟨cur, hcur⟩ := own_type (hr3.ext (ex.trans e')) h1
            exact Own.apart (ho.ext e') hcur (by decide) h2)
          exact PX_rndV (j + 1, v') (fun w5 e5 => ⟨hjl, (Fr.ext x4 hf (fun k hk => (Own.lt ho k hk).1)).trans e5, Own.ext hr' e5, by dsimp only; rw [hend, s3, hpair]; exact ho''.ext e5⟩) (by dsimp only; omega) (by repeat' (first | exact Sub.nil | refine Sub.val rfl (by first | with_reducible rfl | (congr 1; omega)) ?_ | refine Sub.same rfl ?_))
        · have s1' : (S.getD (S.length - 1) (0, 0)).2 ≠ ((KB + f : Nat) : Int) := s1.resolve_left h0
          repeat' (first|(refine oLA ?_;first|refine LA_pass rfl ?_|(refine oD 59 ?_; refine LA_indexP rfl _ rfl (fun _ => rfl) rfl (HasP.ownV ho) rfl (by omega) ?_)|(refine oD 34 ?_; refine LA_indexR rfl _ rfl (fun _ => rfl) rfl (HasR.ownV hr3) rfl hjl ?_; rw [q1, q2])|(refine oLt 96 ?_; refine LA_loadC (cs := [.int .u16 f, .int .u16 m]) rfl (fun _ => rfl) (fun _ => rfl) rfl ?_)|(refine oD 8 ?_; refine LA_stop (hK _ _ (LX_var rfl rfl (by decide) (fun _ => rfl) (fun _ => rfl) (fun _ => rfl) rfl (by intro u hu; simp [Value.cells] at hu; rcases hu with rfl | rfl <;> rfl) (fun bx wx ex hbx hbc => ?_))); clear hK K; replace ho := ho.ext ex; refine LX_la (by kernel_rfl) (fun K hK => ?_))|(refine oD 37 ?_; refine LA_fieldAddr (a' := ⟨bx, 0, none⟩) rfl rfl (fun _ => rfl) ?_)|(refine oD 42 ?_; refine LA_fieldAddr (a' := ⟨bx, 0, none⟩) rfl rfl (fun _ => rfl) ?_)|(refine oD 46 ?_; refine LA_fieldAddr (a' := ⟨bx, 1, none⟩) rfl rfl (fun _ => rfl) ?_)|(refine oLt 72 ?_; refine LA_loadB rfl (fun _ => rfl) rfl hbc rfl ?_)|(refine oLen ?_; refine LA_lenP rfl _ rfl rfl (HasP.ownV ho) ?_)|(refine oD 58 ?_; refine LA_subF rfl rfl rfl (by dsimp only [fits]; omega) ?_; rw [show ((S.length : Int) - 1) = ((S.length - 1 : Nat) : Int) by omega])|(refine oD 60 ?_; refine LA_fieldC (o := 1) rfl rfl (fun _ _ => rfl) ?_)|(refine oD 61 ?_; refine LA_loadH rfl (fun _ => rfl) rfl rfl ?_)|(refine oD 74 ?_; refine LA_build2 (c := spV .u64 ((KB : Int) + f, (KB : Int) + f + m + 1)) rfl rfl rfl (fun w => run_build w _ _ _ (by kernel_rfl)) ?_)|(refine oD 75 ?_; refine LA_oneS rfl span_el rfl rfl (by decide) ?_)|(refine oD 76 ?_; refine LA_stop (hK _ _ (LX_appendL (n := S.length) (cs := cellsP .u64 S) rfl (by decide) span_el rfl ho rfl HasC.own (by intro u hu; simp [spV, Value.cells] at hu; rcases hu with rfl | rfl <;> rfl) (by unfold maxLen; omega) (by omega) (fun v' wa wb' e' ho' hf hl => ?_))); clear hK K; refine LX_la (by kernel_rfl) (fun K hK => ?_))|refine wOp ?_|(refine wCm ?_ ?_<;>intro hc)|(refine wNl hK ?_;clear hK K))|refine wG ?_|(refine wCR ?_;intro K hK)|fail)
          all_goals skip
          have x4 := x03.trans (ex.trans e')
          have ho'' : OwnP w.heap.size tSp .u64 wb' v' (S ++ [((KB : Int) + f, (KB : Int) + f + m + 1)]) := by
            unfold OwnP; rw [cellsP_app, List.length_append, List.length_singleton]
            exact Own.rebase ho' (hl.ge (fun k hk => (Own.lt ho k hk).1) x4.size)
          have hr' := hf.own (hr3.ext (ex.trans e')) (fun k h1 h2 => by
            obtain ⟨cur, hcur⟩ := own_type (hr3.ext (ex.trans e')) h1
            exact Own.apart (ho.ext e') hcur (by decide) h2)
          exact PX_rndV (j + 1, v') (fun w5 e5 => ⟨hjl, (Fr.ext x4 hf (fun k hk => (Own.lt ho k hk).1)).trans e5, Own.ext hr' e5, by dsimp only; rw [hend, s3, hpair]; exact ho''.ext e5⟩) (by dsimp only; omega) (by repeat' (first | exact Sub.nil | refine Sub.val rfl (by first | with_reducible rfl | (congr 1; omega)) ?_ | refine Sub.same rfl ?_))
    · obtain rfl : j = rs.length := by omega
      rw [hE1, Int.toNat_natCast, ← hE3] at ho
      repeat' (first|(refine oLA ?_;first|refine LA_pass rfl ?_|refine wOp ?_|(refine wCm ?_ ?_<;>intro hc)|(refine wNl hK ?_;clear hK K))|refine wG ?_|(refine wCR ?_;intro K hK)|fail)
      exact PX_rndV (i + 1, so) (fun w5 e5 => ⟨hil, x03.trans e5, ho.ext e5⟩) (by dsimp only; omega) (by repeat' (first | exact Sub.nil | refine Sub.val rfl (by first | with_reducible rfl | (congr 1; omega)) ?_ | refine Sub.same rfl ?_))
  · obtain rfl : i = nk p := by omega
    rw [key_top] at ho
    repeat' (first|(refine oLA ?_;first|refine LA_pass rfl ?_|refine wOp ?_|(refine wCm ?_ ?_<;>intro hc)|(refine wNl hK ?_;clear hK K))|refine wG ?_|(refine wCR ?_;intro K hK)|fail)
    exact PX_retP rfl rfl he (fun u w5 e5 hu => by obtain rfl : u = _ := hu; exact ho.ext e5)
theorem same_s {w : World} {v u : Value} {p q : Nat → Bool} (h : NSet B A w v p) (h' : NSet B A w u q) (hT : Tab w) : Fc Tryz.prog 17 #[v, u] w (Ret w (.val (.bool (decide (spL p TOP = spL q TOP))))) := by
  have hr1 : ∀ w', Ext w w' → _ := fun w' e => runs_s (h.ext e) (hT.ext e)
  have hr2 : ∀ w', Ext w w' → _ := fun w' e => runs_s (h'.ext e) (hT.ext e)
  obtain ⟨xs, hxs⟩ : ∃ xs, xs = spL p TOP := ⟨_, rfl⟩
  obtain ⟨ys, hys⟩ : ∃ ys, ys = spL q TOP := ⟨_, rfl⟩
  rw [← hxs] at hr1; rw [← hys] at hr2
  rw [← hxs, ← hys]
  refine Fc.of (args := [_, _]) Tryz.func17 rfl rfl Tryz.ntmps17 (Nat.le_of_ble_eq_true rfl) ?_
  repeat' (first|(refine oLA ?_;first|refine LA_pass rfl ?_|(refine oD 6 ?_; refine oC 19 ?_; refine LA_call1 (f := 19) rfl rfl rfl  (.pred (ownP w.heap.size tSp .u64 xs)) (by intro u1 w e hu1; (try obtain rfl : u1 = _ := hu1); exact (hr1 _ e).mono (ret_baseP e.size rfl)) ?_)|(refine oD 8 ?_; refine oC 19 ?_; refine LA_call1 (f := 19) rfl rfl rfl  (.pred (ownP w.heap.size tSp .u64 ys)) (by intro u1 w e hu1; (try obtain rfl : u1 = _ := hu1); exact (hr2 _ e).mono (ret_baseP e.size rfl)) ?_)|refine wOp ?_|(refine wCm ?_ ?_<;>intro hc)|(refine oCv ?_;first|(refine oC 53 ?_; refine LA_call2 (f := 53) rfl rfl rfl rfl  (.val (.bool (decide (xs = ys)))) (by intro u1 u2 w e hu1 hu2; (try obtain rfl : u1 = _ := hu1); (try obtain rfl : u2 = _ := hu2); exact equal_s _ _ _ _ _ (OwnP.slP hu1) (OwnP.slP hu2)) ?_))|(refine wNl hK ?_;clear hK K))|refine wG ?_|(refine wCR ?_;intro K hK)|fail)
  all_goals skip
  exact PX_retE rfl rfl (Ext.refl _) rfl
end Go.Proofs.YtfcioiobhpcngaaGreatDoor
end
