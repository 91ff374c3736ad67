import Derived.Test.YtfcioiobhpcngaaGreatDoorM12
import Derived.Test.YtfcioiobhpcngaaGreatDoorM20
import Derived.Test.YtfcioiobhpcngaaGreatDoorM24
section
set_option linter.unusedSimpArgs false
set_option linter.unusedVariables false
set_option maxRecDepth 3000
namespace Go.Proofs.YtfcioiobhpcngaaGreatDoor
open Go.LA Go.ArrP Go.RowKit
abbrev tPp : Nat := 24
def allV (b : Nat) : Value := .func (.func 63) #[] #[.pointer (some ⟨b, 0, none⟩)]
def allP (base : Nat) (v : Value) : AV := ⟨fun u w => ∃ b, base ≤ b ∧ u = allV b ∧ w.heap[b]? = some (.cells #[v] tPp (0, 0)), fun _ _ _ x ⟨b, h1, h2, h3⟩ => ⟨b, h1, h2, x.block h3⟩⟩
theorem all_c (w : World) {v : Value} (hv : v.cells = #[v]) : Fc Tryz.prog 27 #[v] w (Ret w (.pred (allP w.heap.size v))) := by
  refine Fc.of (args := [_]) Tryz.func27 rfl rfl Tryz.ntmps27 (Nat.le_of_ble_eq_true rfl) ?_
  repeat' (first|(refine oLA ?_;first|refine LA_pass rfl ?_|refine LA_box rfl rfl ?_|(refine oD 3 ?_; refine LA_stop (hK _ _ (LX_pick 1 rfl (fun v1 w1 e1 h1 => ?_))); clear hK K; obtain ⟨b, hb0, rfl, hb⟩ := h1; refine LX_la (by kernel_rfl) (fun K hK => LA_makeFunc1 rfl rfl ?_))|refine wOp ?_|(refine wCm ?_ ?_<;>intro hc)|(refine wNl hK ?_;clear hK K))|refine wG ?_|(refine wCR ?_;intro K hK)|fail)
  all_goals skip
  exact PX_retP rfl rfl e1 (fun u w5 e5 hu => by obtain rfl : u = _ := hu; exact ⟨b, hb0, rfl, e5.block (by rw [hv] at hb; exact hb)⟩)
theorem ret_allP {w : World} {base base' : Nat} {v : Value} (hb : base' ≤ base) (en : Ending) (w' : World) (h : Ret w (.pred (allP base v)) en w') : Ret w (.pred (allP base' v)) en w' := by
  obtain ⟨u, h1, h2, b, h3, h4⟩ := h
  exact ⟨u, h1, h2, b, Nat.le_trans hb h3, h4⟩
theorem or32' (a b : Nat) (ha : a < 65536) (hb : b < 65536) : bits .or .u32 ((a : Int) * 65536) (b : Int) = (a : Int) * 65536 + b := by
  have hx : 2 ^ 16 * a ||| b = 2 ^ 16 * a + b := (Nat.two_pow_add_eq_or_of_lt (by omega) a).symm
  have h1 : (BitVec.ofInt 32 ((a : Int) * 65536)).toNat = 2 ^ 16 * a := by
    rw [show ((a : Int) * 65536) = ((2 ^ 16 * a : Nat) : Int) by omega, BitVec.ofInt_natCast, BitVec.toNat_ofNat]; exact Nat.mod_eq_of_lt (by omega)
  have h2 : (BitVec.ofInt 32 (b : Int)).toNat = b := by
    rw [BitVec.ofInt_natCast, BitVec.toNat_ofNat]; exact Nat.mod_eq_of_lt (by omega)
  show IntKind.u32.wrap ((BitVec.ofInt 32 ((a : Int) * 65536) ||| BitVec.ofInt 32 (b : Int)).toNat : Int) = _
  rw [BitVec.toNat_or, h1, h2, hx, IntKind.wrap_u32]
  omega
set_option maxHeartbeats 2000000 in
theorem all_stops {w0 w : World} {v : Value} {p : Nat → Bool} {b : Nat} {B A : Nat → Prop} (hN : NSet B A w0 v p) (hb : w.heap[b]? = some (.cells #[v] tPp (0, 0))) (hT : Tab w0) (e0 : Ext w0 w) {bad : TypeId → Bool} (hb1 : bad tK = false) (hb2 : bad tPp = false) :
    SeqStopsK Fence.wide 2 Tryz.prog 63 #[.pointer (some ⟨b, 0, none⟩)] (fun x : U32 => #[.int .u32 x.1]) (KpT w0 bad) (fun xs => vU xs = listS p TOP) (fun pre => vU pre <+: listS p TOP) (cnt p TOP) w := by
  intro l J Jx W hW hJ hJx hY h0
  have eW : Ext w0 W := e0.trans hW
  replace hb : W.heap[b]? = some (.cells #[v] tPp (0, 0)) := Ext.block hW hb
  have hJm : ∀ {s A B}, J s A → Ext A B → J s B := fun hs e => hJ _ _ _ none hs (Ext.grownBy e) (fun r h => by cases h)
  have hJxm : ∀ {s A B}, Jx s A → Ext A B → Jx s B := fun hs e => hJx _ _ _ none hs (Ext.grownBy e) (fun r h => by cases h)
  obtain ⟨lv, Q, hP, hL⟩ := list_s hN
  have hnk := nk_le p
  have htop := TOP_eq
  have hlen := listS_len p TOP
  refine (callsIn_wide (n := 2)).2 (Fc.calls (?_ : Fc Tryz.prog 63 #[.func (.yield l) #[] #[], .pointer (some ⟨b, 0, none⟩)] W _))
  refine Fc.of (args := [_, _]) Tryz.func63 rfl rfl Tryz.ntmps63 (Nat.le_of_ble_eq_true rfl) ?_
  repeat' (first|(refine oLA ?_;first|refine LA_pass rfl ?_|(refine oLt 24 ?_; refine LA_loadB (c := v) rfl (fun _ => rfl) rfl hb rfl ?_)|(refine oLen ?_; refine LA_len rfl _ rfl rfl (HasC.ownV (hP.ext eW).own) ?_)|refine wOp ?_|(refine wCm ?_ ?_<;>intro hc)|(refine oCv ?_;first|(refine oC 50 ?_; refine LA_call1 (f := 50) rfl rfl rfl  (.val lv) (by intro u1 w e hu1; (try obtain rfl : u1 = _ := hu1); exact hL _ (eW.trans e)) ?_))|(refine wNl hK ?_;clear hK K))|refine wG ?_|(refine wCR ?_;intro K hK)|fail)
  all_goals skip
  refine CX_loopV (ι := Nat × List U32) (fun j => [(0, .val (.func (.yield l) #[] #[])), (1, .val (.pointer (some ⟨b, 0, none⟩))), (8, .val lv), (9, .val (.int .i64 (nk p))), (10, .val (.int .i64 j.1))])
    (fun j w' => Ext w0 w' ∧ j.1 ≤ nk p ∧ vU j.2 = (listS p TOP).take (cnt p (kp p j.1 * 65536)) ∧ J j.2 w' ∧ w'.heap[b]? = some (.cells #[v] tPp (0, 0))) (fun j => nk p - j.1)
    (fun w2 e2 => ⟨(0, []), ⟨eW.trans e2, Nat.zero_le _, by rw [key_cnt0]; rfl, hJm h0 e2, e2.block hb⟩, (by repeat' (first | exact Sub.nil | refine Sub.val rfl (by first | with_reducible rfl | (congr 1; omega)) ?_ | refine Sub.same rfl ?_))⟩) ?_
  rintro ⟨i, pre⟩ w1 ⟨he, hi, hpre, hJ1, hbw1⟩
  dsimp only at hi hpre hJ1 ⊢
  by_cases hil : i < nk p
  · have hP1 := hP.ext he
    obtain ⟨hat, hcn, h1⟩ := hP1.at hil
    obtain ⟨bs, kv, hv, hbs, hkv⟩ := hP.set (by omega)
    obtain ⟨k1, k2, k3, k4⟩ := kp_at hil
    have hkl := keysL_len p
    have hown := hP1.own
    have hkc := key_cnt hil
    have hkey : ∀ j, j < cnt (blk p (kp p i)) 65536 → _ := fun j hj => listS_key hil hj
    have hcl := cnt_le (blk p (kp p i)) 65536
    have hbl := listS_len (blk p (kp p i)) 65536
    have harr : ∀ w' u, Cn A w' u (blk p (kp p i)) (kindP (blk p (kp p i))) → Tab w' → _ := fun w' u hu hT' => array_c hu hT'
    have hnx := cnt_mono p (m := kp p (i + 1) * 65536) TOP (by have := kp_le p (i + 1); omega)
    obtain ⟨K0, hK0⟩ : ∃ K0, K0 = kp p i := ⟨_, rfl⟩
    obtain ⟨n0, hn0⟩ : ∃ n0, n0 = cnt p (kp p i * 65536) := ⟨_, rfl⟩
    obtain ⟨n1, hn1⟩ : ∃ n1, n1 = cnt p (kp p (i + 1) * 65536) := ⟨_, rfl⟩
    obtain ⟨xs, hxs⟩ : ∃ xs, xs = listS (blk p (kp p i)) 65536 := ⟨_, rfl⟩
    obtain ⟨c1, hc1⟩ : ∃ c1, c1 = cnt (blk p (kp p i)) 65536 := ⟨_, rfl⟩
    rw [← hn0, ← hn1, ← hc1] at hkc
    rw [← hc1] at hkey hcl hbl
    rw [← hxs] at hkey harr hbl
    rw [← hn0, ← hK0] at hkey
    rw [← hK0] at k1 k4
    rw [← hn0] at hpre
    rw [← hn1] at hnx
    clear hP hP1 k2 k3 hL hK0 hn0 hc1 hxs
    repeat' (first|(refine oLA ?_;first|refine LA_pass rfl ?_|(refine oI ?_; refine LA_indexC (s := 4) rfl _ rfl (fun _ => rfl) rfl (HasC.ownV hown) rfl i rfl (by omega) ?_; rw [hat])|(refine oLt 65 ?_; refine LA_loadC (cs := qcs _) rfl (fun _ => rfl) (fun _ => rfl) rfl ?_)|(refine oD 4 ?_; refine LA_stop (hK _ _ (LX_varA rfl rfl rfl (by decide) (by decide) (fun _ => rfl) (fun _ => rfl) rfl (fun _ => rfl) (fun _ => rfl) rfl h1 (fun bx wx ex hbx hbc => ?_))); clear hK K; have heX := he.trans ex; have hcx := hcn.ext ex; refine LX_la (by kernel_rfl) (fun K hK => ?_))|(refine oLt 65 ?_; refine LA_loadK (n := 4) rfl hbc rfl rfl (fun _ => rfl) (fun _ => rfl) ?_)|(refine oD 17 ?_; refine LA_stop (hK _ _ (LX_pick 16 rfl (fun v16 w16 e16 h16 => ?_))); clear hK K; replace h16 : OwnI w1.heap.size tK .u16 w16 v16 xs := h16; refine LX_la (by kernel_rfl) (fun K hK => ?_); refine LA_len rfl _ rfl rfl (HasI.ownV h16).c ?_)|refine wOp ?_|(refine wCm ?_ ?_<;>intro hc)|(refine oCv ?_;first|(refine oC 64 ?_; refine LA_call1 (f := 64) rfl rfl rfl  (.pred (ownI w1.heap.size tK .u16 xs)) (by intro u1 w e hu1; (try obtain rfl : u1 = _ := hu1); exact (harr _ _ (hcx.ext e) (hT.ext (heX.trans e))).mono (ret_base (Nat.le_trans ex.size e.size))) ?_))|(refine wNl hK ?_;clear hK K))|refine wG ?_|(refine wCR ?_;intro K hK)|fail)
    all_goals skip
    have he16 := heX.trans e16
    have hJ16 := hJm hJ1 (ex.trans e16)
    refine CX_loopV (ι := Nat × List U32) (fun j => [(0, .val (.func (.yield l) #[] #[])), (1, .val (.pointer (some ⟨b, 0, none⟩))), (3, .val (.int .i64 i)), (8, .val lv), (9, .val (.int .i64 (nk p))), (10, .val (.int .i64 i)), (16, .val v16), (17, .val (.int .i64 xs.length)), (18, .val (.int .i64 j.1))])
      (fun j w' => Ext w0 w' ∧ j.1 ≤ xs.length ∧ vU j.2 = (listS p TOP).take (n0 + j.1) ∧ J j.2 w' ∧ OwnI w1.heap.size tK .u16 w' v16 xs ∧ w'.heap[b]? = some (.cells #[v] tPp (0, 0))) (fun j => xs.length - j.1)
      (fun w2 e2 => ⟨(0, pre), ⟨he16.trans e2, Nat.zero_le _, hpre, hJm hJ16 e2, h16.ext e2, e2.block ((ex.trans e16).block hbw1)⟩, (by repeat' (first | exact Sub.nil | refine Sub.val rfl (by first | with_reducible rfl | (congr 1; omega)) ?_ | refine Sub.same rfl ?_))⟩) ?_
    rintro ⟨j, pre2⟩ w2 ⟨he2, hj0, hpre2, hJ2, ho2, hbB⟩
    dsimp only at hj0 hpre2 hJ2 ho2 ⊢
    by_cases hj : j < xs.length
    · obtain ⟨r, r1, r2, r3, r4, -⟩ := hkey j (by omega)
      have hor := or32' K0 r k1 r1
      have hbS := he2.block hbs
      have hkv2 := hkv.ext he2
      have hpl : pre2.length < cnt p TOP := by
        have h3 := congrArg List.length hpre2
        rw [List.length_map, List.length_take, hlen] at h3; omega
      have hy : ∀ w', Ext w2 w' → _ := fun w' e => hY pre2 ⟨(K0 : Int) * 65536 + r, by omega⟩ w' (hJm hJ2 e) hpl
      have htk := take_more (l := listS p TOP) (m := n0 + j) (by omega)
      rw [r4] at htk
      have hsn : vU (pre2 ++ [⟨(K0 : Int) * 65536 + r, by omega⟩]) = (listS p TOP).take (n0 + (j + 1)) := by
        rw [vU, List.map_append, List.map_cons, List.map_nil]
        show vU pre2 ++ _ = _
        rw [hpre2, ← htk]; rfl
      clear hkey harr
      subst hv
      repeat' (first|(refine oLA ?_;first|refine LA_pass rfl ?_|(refine oD 20 ?_; refine LA_indexN rfl _ rfl (fun _ => rfl) rfl (HasI.ownV ho2) rfl hj ?_; rw [r2])|(refine oLt 24 ?_; refine LA_loadB (c := .pointer (some ⟨bs, 0, none⟩)) rfl (fun _ => rfl) rfl hbB rfl ?_)|(refine oNc ?_; refine LA_nilCheck rfl rfl ?_)|(refine oF 0 ?_; refine LA_fieldAddr (a' := ⟨bs, 0, none⟩) rfl rfl (fun _ => rfl) ?_)|(refine oF 1 ?_; refine LA_fieldAddr (a' := ⟨bs, 1, none⟩) rfl rfl (fun _ => rfl) ?_)|(refine oLt 52 ?_; refine LA_loadB (c := kv) rfl (fun _ => rfl) rfl hbS rfl ?_)|(refine oLt 53 ?_; refine LA_loadB (c := lv) rfl (fun _ => rfl) rfl hbS rfl ?_)|(refine oD 28 ?_; refine LA_indexN rfl _ rfl (fun _ => rfl) rfl (HasI.ownV hkv2) rfl (by omega) ?_; rw [k4])|(refine oD 31 ?_; refine LA_shl rfl rfl rfl (by decide) (by decide) ?_; rw [show (2 : Int) ^ Int.toNat 16 = 65536 by decide, wrap_fits .u32 _ (by dsimp only [fits]; omega)])|(refine oD 34 ?_; refine LA_bits (.inr (.inl rfl)) rfl rfl rfl ?_; rw [hor])|(refine oD 35 ?_; refine LA_stop (hK _ _ (LY_yield (by decide) rfl rfl (fun b9 w' => (b9 = true ∧ ∃ wz, Ext w2 wz ∧ J (pre2 ++ [⟨(K0 : Int) * 65536 + r, by omega⟩]) w' ∧ KpT w0 bad wz w') ∨ (b9 = false ∧ Jx (pre2 ++ [⟨(K0 : Int) * 65536 + r, by omega⟩]) w')) (fun w' e => Go.LA.YieldAt.imp (hy w' e) fun en w3 h => ?_) (fun b9 w3 h3 => ?_))); clear hK K)|refine wOp ?_|(refine wCm ?_ ?_<;>intro hc)|(refine wNl hK ?_;clear hK K))|(refine oCX ?_;first|refine CX_regionY 2 (id := 6) (LY_la (fun h => ?_) (by kernel_rfl) (by kernel_rfl) (fun K hK => ?_)))|refine wG ?_|(refine wCR ?_;intro K hK)|fail)
      all_goals skip
      · obtain ⟨_, _, ⟨_, hv'⟩, _⟩ := h
        cases hv'
      · rcases h with ⟨rfl, h1, h2⟩ | ⟨rfl, h1⟩
        · exact ⟨true, rfl, .inl ⟨rfl, w', e, h1, h2⟩⟩
        · exact ⟨false, rfl, .inr ⟨rfl, h1⟩⟩
      rcases h3 with ⟨rfl, wz, ez, hJ3, hk3⟩ | ⟨rfl, hJx3⟩
      · have he3 := hk3.1 (he2.trans ez)
        have ho3 := OwnI.kp (ho2.ext ez) hk3 hb1
        have hbB3 := hk3.2.2 b _ _ _ hb2 (ez.block hbB)
        refine LY_la (fun h => ?_) (by kernel_rfl) (by kernel_rfl) (fun K hK => ?_)
        · obtain ⟨_, _, ⟨_, hv'⟩, _⟩ := h
          cases hv'
        refine LA_notT rfl rfl (LA_nil (hK _ _ (LY_nil ?_)))
        clear hK K
        repeat' (first|(refine oLA ?_;first|refine LA_pass rfl ?_|refine wOp ?_|(refine wCm ?_ ?_<;>intro hc)|(refine wNl hK ?_;clear hK K))|refine wG ?_|(refine wCR ?_;intro K hK)|fail)
        all_goals skip
        exact PX_rndV (j + 1, pre2 ++ [⟨(K0 : Int) * 65536 + r, by omega⟩]) (fun w5 e5 => ⟨he3.trans e5, hj, hsn, hJm hJ3 e5, ho3.ext e5, e5.block hbB3⟩) (by dsimp only; omega) (by repeat' (first | exact Sub.nil | refine Sub.val rfl (by first | with_reducible rfl | (congr 1; omega)) ?_ | refine Sub.same rfl ?_))
      · refine LY_la (fun h => ?_) (by kernel_rfl) (by kernel_rfl) (fun K hK => ?_)
        · obtain ⟨_, _, ⟨_, hv'⟩, _⟩ := h
          cases hv'
        refine LA_notF rfl rfl (LA_nil (hK _ _ (LY_nil ?_)))
        clear hK K
        repeat' (first|(refine oLA ?_;first|refine LA_pass rfl ?_|refine wOp ?_|(refine wCm ?_ ?_<;>intro hc)|(refine wNl hK ?_;clear hK K))|refine wG ?_|(refine wCR ?_;intro K hK)|fail)
        all_goals skip
        exact PX_end0 rfl (fun w5 e5 => ⟨⟨_, rfl⟩, .inr ⟨_, by rw [hsn]; exact List.take_prefix _ _, hJxm hJx3 e5⟩⟩) (.inr rfl)
    · obtain rfl : j = xs.length := by omega
      rw [hbl, ← hkc] at hpre2
      repeat' (first|(refine oLA ?_;first|refine LA_pass rfl ?_|refine wOp ?_|(refine wCm ?_ ?_<;>intro hc)|(refine wNl hK ?_;clear hK K))|refine wG ?_|(refine wCR ?_;intro K hK)|fail)
      all_goals skip
      exact PX_rndV (i + 1, pre2) (fun w5 e5 => ⟨he2.trans e5, hil, by rw [← hn1]; exact hpre2, hJm hJ2 e5, e5.block hbB⟩) (by dsimp only; omega) (by repeat' (first | exact Sub.nil | refine Sub.val rfl (by first | with_reducible rfl | (congr 1; omega)) ?_ | refine Sub.same rfl ?_))
  · obtain rfl : i = nk p := by omega
    rw [key_top, ← hlen, List.take_length] at hpre
    repeat' (first|(refine oLA ?_;first|refine LA_pass rfl ?_|refine wOp ?_|(refine wCm ?_ ?_<;>intro hc)|(refine wNl hK ?_;clear hK K))|refine wG ?_|(refine wCR ?_;intro K hK)|fail)
    all_goals skip
    exact PX_end0 rfl (fun w5 e5 => ⟨⟨_, rfl⟩, .inl ⟨pre, hpre, hJm hJ1 e5⟩⟩) (.inl rfl)
end Go.Proofs.YtfcioiobhpcngaaGreatDoor
end
