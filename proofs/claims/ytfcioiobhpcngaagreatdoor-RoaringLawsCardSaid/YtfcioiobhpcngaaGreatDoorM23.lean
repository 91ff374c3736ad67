import Derived.Test.YtfcioiobhpcngaaGreatDoorM15
import Derived.Test.YtfcioiobhpcngaaGreatDoorM19
import Derived.Test.YtfcioiobhpcngaaGreatDoorM21
import Derived.Test.YtfcioiobhpcngaaGreatDoorM22
section
set_option linter.unusedSimpArgs false
set_option linter.unusedVariables false
set_option maxRecDepth 3000
namespace Go.Proofs.YtfcioiobhpcngaaGreatDoor
open Go.LA Go.ArrP Go.RowKit
variable {A B : Nat → Prop}
theorem el_c32 : El Tryz.prog 45 39 (.int .u32 0) 1 4 := ⟨rfl, rfl, rfl, by decide⟩
theorem clone_c32 (w : World) (v : Value) (n : Nat) (cs : List Value) (h : SlC w v n 1 cs) (h1 : ∀ u ∈ cs, u.oneCell' = true) (hb : n * 4 ≤ 140737488355328) : Fc Tryz.prog 60 #[v] w (Ret w (.pred (ownC w.heap.size 39 1 n cs))) := by
  obtain ⟨h0, a, cap, rfl, hc, hm, hn, hcs⟩ := id h
  have hlen := h.len
  cases a with
  | none =>
    obtain rfl := hn rfl
    obtain rfl : n = 0 := by omega
    obtain rfl : cs = [] := List.eq_nil_of_length_eq_zero (by omega)
    refine Fc.of (args := [_]) Tryz.func60 rfl rfl Tryz.ntmps60 (Nat.le_of_ble_eq_true rfl) ?_
    repeat' (first|(refine oLA ?_;first|refine LA_pass rfl ?_|refine LA_binV (c := .bool true) rfl rfl rfl (fun _ => rfl) ?_|refine wOp ?_|(refine wCm ?_ ?_<;>intro hc)|(refine wNl hK ?_;clear hK K))|refine wG ?_|(refine wCR ?_;intro K hK)|(refine oPX ?_;first|exact PX_retP rfl rfl (Ext.refl _) (fun u w2 e2 hu => by obtain rfl : u = _ := hu; exact Own.nil))|fail)
  | some a =>
    refine Fc.of (args := [_]) Tryz.func60 rfl rfl Tryz.ntmps60 (Nat.le_of_ble_eq_true rfl) ?_
    repeat' (first|(refine oLA ?_;first|refine LA_pass rfl ?_|refine LA_binV (c := .bool false) rfl rfl rfl (fun _ => rfl) ?_|refine LA_lit0 39 (s := 1) rfl (fun _ => by kernel_rfl) ?_|(refine LA_stop (hK _ _ (LX_pick 5 rfl (fun v5 w5 e5 h5 => ?_))); clear hK K; have h6 := h.ext e5; have ho : Own w.heap.size _ _ w5 v5 0 [] := h5; refine LX_la (by kernel_rfl) (fun K hK => ?_))|(refine LA_stop (hK _ _ (LX_append rfl (by decide) el_c32 rfl ho rfl (HasC.val h6) h1 (by rw [Nat.zero_add]; unfold maxLen; omega) (by rw [Nat.zero_add]; exact hb) e5.size (fun v' w2 w3 he2 ho3 hg3 => ?_))); clear hK K; dsimp only [vals]; refine LX_la (by kernel_rfl) (fun K hK => ?_))|refine wOp ?_|(refine wCm ?_ ?_<;>intro hc)|(refine wNl hK ?_;clear hK K))|refine wG ?_|(refine wCR ?_;intro K hK)|fail)
    exact PX_retP rfl rfl ((e5.trans he2).grown hg3 (fun q hq => (Own.lt ho q hq).1)) (fun u w4 e4 hu => by
      obtain rfl : u = _ := hu
      have h9 : Own w.heap.size 39 1 w3 u n cs := by simpa using ho3
      exact h9.ext e4)
theorem RS.beside {w1 wa wb : World} {b : Nat} {kv lv va va' : Value} {p : Nat → Bool} {base n : Nat} {cs : List Value} (hS : RS (fun j => A j ∧ va.ownBlock ≠ some j) w1 b kv lv p) (hn : ∀ k, va.ownBlock = some k → ¬ onw b kv lv k) (hva : Own base tK 1 w1 va n cs) (e : Ext w1 wa) (hf : Fr (fun k => va.ownBlock = some k) wa wb) (hl : LocR wa va va') :
    RS (fun j => A j ∧ va'.ownBlock ≠ some j) wb b kv lv p ∧ ∀ k, va'.ownBlock = some k → ¬ onw b kv lv k := by
  have hSa := hS.ext e
  have h1 : RS (fun j => (A j ∧ va.ownBlock ≠ some j) ∧ va'.ownBlock ≠ some j) wa b kv lv p := hSa.mono fun k hk ha _ => ⟨ha, fun h => by
    rcases hl with h' | h'
    · exact ha.2 (h' ▸ h)
    · have := h' k h; omega⟩
  have h2 : Plain (fun j => (A j ∧ va.ownBlock ≠ some j) ∧ va'.ownBlock ≠ some j) (fun k => va.ownBlock = some k) wa := fun k hk => by
    obtain ⟨cur, hc⟩ := own_type (hva.ext e) hk
    exact ⟨cur, _, _, hc, by decide, by decide, fun ha => absurd hk ha.1.2⟩
  refine ⟨(h1.fr hf h2 (fun k hk h => hn k h hk)).mono fun k _ ha _ => ⟨ha.1.1, ha.2⟩, fun k hk ho => ?_⟩
  rcases hl with h' | h'
  · exact hn k (h' ▸ hk) ho
  · have h3 := h' k hk
    have h4 := hSa.lt ho
    omega
theorem RS.off {w : World} {b : Nat} {kv lv v : Value} {p : Nat → Bool} {base e s n : Nat} {cs : List Value} (hS : RS A w b kv lv p) (ho : Own base e s w v n cs) (he : e ≠ tS ∧ e ≠ tK ∧ e ≠ tC) (k : Nat) (hk : v.ownBlock = some k) : ¬ onw b kv lv k := by
  obtain ⟨Q, h1, h2, h3⟩ := hS.hl
  rintro (rfl | h | h)
  · exact Own.apart ho hS.hb he.1 hk
  · obtain ⟨cur, hc⟩ := own_type hS.hk h
    exact Own.apart ho hc he.2.1 hk
  · obtain ⟨cur, hc⟩ := own_type h2 h
    exact Own.apart ho hc he.2.2 hk
theorem memb_L {q : Nat → Bool} (hq : ∀ i, 65536 ≤ i → q i = false) : memb (listS q 65536) = q := by
  funext i
  by_cases h : i < 65536
  · exact memb_listS q h
  · rw [hq i (by omega)]
    unfold memb
    exact decide_eq_false fun hm => by
      obtain ⟨j, h1, _, h3⟩ := (listS_mem _ _ _).1 hm
      omega
set_option maxHeartbeats 1000000 in
theorem of_s {w : World} {v : Value} {ys : List Int} (h : SlI .u32 w v ys) (hu0 : ∀ x ∈ ys, 0 ≤ x ∧ x < 4294967296) (hn : ys.length ≤ 1000000000) (hT : Tab w) (hB : Fsh B w) (hA : Fsh A w) : Fc Tryz.prog 25 #[v] w (Ret w (.pred (rsP B A (memb ys)))) := by
  have hcl : ∀ w', Ext w w' → Fc Tryz.prog 60 #[v] w' (Ret w' (.pred (ownI w'.heap.size 39 .u32 ys))) := fun w' e => clone_c32 w' v ys.length (ys.map (Value.int .u32)) (h.ext e) (fun u hu => by obtain ⟨z, _, rfl⟩ := List.mem_map.1 hu; rfl) (by omega)
  obtain ⟨xs, hxs⟩ : ∃ xs, xs = ys.mergeSort (fun x y => decide (x ≤ y)) := ⟨_, rfl⟩
  have hs := ms_sorted ys
  have hmm := memb_ms ys
  have hxl : xs.length = ys.length := by rw [hxs, List.length_mergeSort]
  have hu : ∀ x ∈ xs, 0 ≤ x ∧ x < 4294967296 := fun x hx => hu0 x (by rw [hxs, List.mem_mergeSort] at hx; exact hx)
  rw [← hxs] at hs hmm
  rw [← hmm]
  refine Fc.of (args := [_]) Tryz.func25 rfl rfl Tryz.ntmps25 (Nat.le_of_ble_eq_true rfl) ?_
  repeat' (first|(refine oLA ?_;first|refine LA_pass rfl ?_|(refine oD 9 ?_; refine LA_stop (hK _ _ (LX_pick 0 rfl (fun v8 w8 e8 h8 => ?_))); clear hK K; replace h8 : OwnI w.heap.size 39 .u32 w8 v8 ys := h8; refine LX_la (by kernel_rfl) (fun K hK => LA_moveV rfl rfl ?_))|(refine oD 10 ?_; refine LA_stop (hK _ _ (LX_call1 rfl (by decide) rfl rfl (fun v w' => v = .tuple #[] ∧ Ext w w' ∧ OwnI w.heap.size 39 .u32 w' v8 xs) (fun w1 e1 => (Srt.sort32_c (e8.trans e1) (h8.ext e1) (by omega)).mono (fun en w' h => ⟨_, h.1, rfl, h.2.1, hxs ▸ h.2.2⟩)) (fun v w20 hm => ?_))); clear hK K; obtain ⟨rfl, x20, h20⟩ := hm)|(refine oD 12 ?_; refine LA_stop (hK _ _ (LX_pick 3 rfl (fun v3 w3 e3 h3 => ?_))); clear hK K; obtain ⟨b, hbb, rfl, h3⟩ := h3; replace h20 := h20.ext e3; refine LX_la (by kernel_rfl) (fun K hK => LA_moveV rfl rfl ?_))|(refine oLen ?_; refine LA_len rfl _ rfl rfl (HasI.ownV h20).c ?_)|refine wOp ?_|(refine wCm ?_ ?_<;>intro hc)|(refine oCv ?_;first|(refine oC 60 ?_; refine LA_call1 (f := 60) rfl rfl rfl  (.pred (ownI w.heap.size 39 .u32 ys)) (by intro u1 w e hu1; (try obtain rfl : u1 = _ := hu1); exact (hcl _ e).mono (ret_base e.size)) ?_)|(refine oC 11 ?_; refine LA_call0 (f := 11) rfl rfl  (.pred (ptrB w.heap.size #[nilS, nilS] tS)) (by intro w e; exact (new_x _).mono (ret_ptrB (Nat.le_trans x20.size e.size))) ?_))|(refine wNl hK ?_;clear hK K))|refine wG ?_|(refine wCR ?_;intro K hK)|fail)
  all_goals skip
  have hon0 : ∀ k, onw b nilS nilS k → w.heap.size ≤ k := fun k hk => by
    rcases hk with rfl | hk | hk
    · exact hbb
    · cases hk
    · cases hk
  refine CX_loopV (ι := Nat × Value) (fun i => [(0, .val v8), (3, .val (.pointer (some ⟨b, 0, none⟩))), (4, .val i.2), (12, .val v8), (13, .val (.int .i64 xs.length)), (14, .val (.int .i64 i.1))]) (fun i w' => i.1 ≤ xs.length ∧ Ext w w' ∧ OwnI w.heap.size 39 .u32 w' v8 xs ∧ OwnI w.heap.size tK .u16 w' i.2 (ofA xs i.1) ∧ ∃ kv lv, RS (fun j => A j ∧ i.2.ownBlock ≠ some j) w' b kv lv (ofS xs i.1) ∧ (∀ k, onw b kv lv k → w.heap.size ≤ k) ∧ ∀ k, i.2.ownBlock = some k → ¬ onw b kv lv k) (fun i => xs.length - i.1)
    (fun w2 e2 => ⟨(0, nilS), ⟨Nat.zero_le _, x20.trans (e3.trans e2), h20.ext e2, OwnI.nil, nilS, nilS, RS.new (e2.block h3), hon0, fun k hk => by cases hk⟩, (by repeat' (first | exact Sub.nil | refine Sub.val rfl (by first | with_reducible rfl | (congr 1; omega)) ?_ | refine Sub.same rfl ?_))⟩) ?_
  rintro ⟨i, va⟩ w1 ⟨hi, hx1, hv1, hva, kv, lv, hS, hon, hnv⟩
  dsimp only at hi hva hS hnv ⊢
  have hT1 := hT.ext hx1
  have hal : (ofA xs i).length ≤ 65536 := by
    unfold ofA
    split
    · exact Nat.zero_le _
    · rw [listS_len]; exact cnt_le _ _
  by_cases hil : i < xs.length
  · obtain ⟨c, hc⟩ : ∃ c : Nat, xs.getD i 0 = (c : Int) := ⟨(xs.getD i 0).toNat, by have := of_bd hu hil; omega⟩
    have hcb : c < 4294967296 := by have := of_bd hu hil; omega
    have hnew := of_new hs hu hil
    have hK2 : ofK xs (i + 1) = c / 65536 := by unfold ofK; rw [Nat.add_sub_cancel, hc, Int.toNat_natCast]
    have ec : IntKind.u16.wrap (c : Int) = ((c % 65536 : Nat) : Int) := by rw [IntKind.wrap_u16]; omega
    rw [hc, Int.toNat_natCast] at hnew
    by_cases hi0 : i = 0
    · rw [if_neg (by omega), if_neg (by omega)] at hnew
      replace hnew := hnew (.inl hi0)
      have hA0 : ofA xs i = [] := by rw [hi0]; rfl
      have hS0 : ofS xs i = fun _ => false := by rw [hi0]; rfl
      have hm0 : memb (xs.take i) = fun _ => false := by funext x; rw [hi0, List.take_zero]; unfold memb; exact decide_eq_false (fun h => by cases h)
      rw [hm0] at hnew
      rw [hA0] at hva; rw [hS0] at hS
      repeat' (first|(refine oLA ?_;first|refine LA_pass rfl ?_|(refine oD 31 ?_; refine LA_len (n := 0) rfl _ rfl rfl (HasI.ownV hva).c ?_)|(refine oD 32 ?_; refine LA_cmpF rfl rfl rfl rfl (by decide) ?_)|(refine oD 17 ?_; refine LA_indexN rfl _ rfl (fun _ => rfl) rfl (HasI.ownV hv1) rfl hil ?_; rw [hc])|(refine oD 56 ?_; refine LA_conv rfl rfl rfl rfl ?_; rw [ec])|(refine oD 57 ?_; refine LA_oneO rfl el_c16 rfl rfl ?_)|(refine oD 58 ?_; refine LA_stop (hK _ _ (LX_appendL (n := 0) (cs := []) rfl (by decide) el_c16 rfl hva rfl HasC.own (by intro u hu; rw [List.mem_singleton] at hu; subst hu; rfl) (by unfold maxLen; omega) (by omega) (fun v' wa wb' e' ho' hf hl => ?_))); clear hK K; refine LX_la (by kernel_rfl) (fun K hK => ?_))|refine wOp ?_|(refine wCm ?_ ?_<;>intro hc)|(refine wNl hK ?_;clear hK K))|refine wG ?_|(refine wCR ?_;intro K hK)|fail)
      all_goals skip
      have x4 := hx1.trans e'
      have ho2 : OwnI w.heap.size tK .u16 wb' v' (ofA xs (i + 1)) := by
        rw [hnew.1]; unfold OwnI; rw [List.map_append, List.length_append, List.length_singleton]
        exact Own.rebase ho' (hl.ge (fun k hk => (Own.lt hva k hk).1) x4.size)
      obtain ⟨hS9, hn9⟩ := RS.beside hS hnv hva e' hf hl
      have hv9 := hf.own (hv1.ext e') (fun k h1 h2 => by
        obtain ⟨cur, hcur⟩ := own_type (hv1.ext e') h1
        exact Own.apart (hva.ext e') hcur (by decide) h2)
      have x9 := Fr.ext x4 hf (fun k hk => (Own.lt hva k hk).1)
      exact PX_rndV (i + 1, v') (fun w5 e5 => ⟨hil, x9.trans e5, Own.ext hv9 e5, ho2.ext e5, kv, lv, by dsimp only; rw [hnew.2]; exact hS9.ext e5, hon, hn9⟩) (by dsimp only; omega) (by repeat' (first | exact Sub.nil | refine Sub.val rfl (by first | with_reducible rfl | (congr 1; omega)) ?_ | refine Sub.same rfl ?_))
    · obtain ⟨a, ha⟩ : ∃ a : Nat, xs.getD (i - 1) 0 = (a : Int) := ⟨(xs.getD (i - 1) 0).toNat, by have := of_bd hu (i := i - 1) (by omega); omega⟩
      have hab : a < 4294967296 := by have := of_bd hu (i := i - 1) (by omega); omega
      have hK1 : ofK xs i = a / 65536 := by unfold ofK; rw [ha, Int.toNat_natCast]
      have hpos := ofA_pos hu (Nat.pos_of_ne_zero hi0) hi
      obtain ⟨K, hKd⟩ : ∃ K, K = ofK xs i := ⟨_, rfl⟩
      have hKlt := ofK_lt hu (Nat.pos_of_ne_zero hi0) hi
      have hfull : upd (ofS xs i) (ofK xs i) (memb (ofA xs i)) = memb (xs.take i) := by
        have h1 : memb (ofA xs i) = blk (memb (xs.take i)) (ofK xs i) := by
          unfold ofA; rw [if_neg hi0]; exact memb_L (fun j hj => blk_off (by omega))
        rw [h1]; exact of_full hs hu (Nat.pos_of_ne_zero hi0) hi
      have hlast : ∀ j, ofK xs i ≤ j → ne (ofS xs i) j = false := fun j hj => by unfold ofS; rw [if_neg hi0]; exact cut_ne _ hj
      have hAinc : Inc (ofA xs i) := by unfold ofA; rw [if_neg hi0]; exact listS_inc _ _
      have hAlow : Low (ofA xs i) := by unfold ofA; rw [if_neg hi0]; exact listS_low _
      have hFva : Fsh (fun j => A j ∧ va.ownBlock ≠ some j) w1 := fun j hj => ⟨hA j (Nat.le_trans hx1.size hj), fun h => by have := (Own.lt hva j h).2; omega⟩
      have eK : (a : Int) / 65536 = (K : Int) := by rw [hKd, hK1]; omega
      rw [← hKd] at hKlt hfull hlast
      by_cases hac : a = c
      · have hsame := memb_take_same (Nat.pos_of_ne_zero hi0) hil (by rw [ha, hc, hac])
        have hKK : ofK xs (i + 1) = ofK xs i := by rw [hK1, hK2, hac]
        have hA' : ofA xs (i + 1) = ofA xs i := by unfold ofA; rw [if_neg hi0, if_neg (Nat.succ_ne_zero i), hsame, hKK]
        have hS' : ofS xs (i + 1) = ofS xs i := by unfold ofS; rw [if_neg hi0, if_neg (Nat.succ_ne_zero i), hsame, hKK]
        repeat' (first|(refine oLA ?_;first|refine LA_pass rfl ?_|(refine oD 17 ?_; refine LA_indexN rfl _ rfl (fun _ => rfl) rfl (HasI.ownV hv1) rfl hil ?_; rw [hc])|(refine oD 24 ?_; refine LA_subF rfl rfl rfl (by dsimp only [fits]; omega) ?_; rw [show ((i : Int) - 1) = ((i - 1 : Nat) : Int) by omega])|(refine oD 25 ?_; refine LA_indexN rfl _ rfl (fun _ => rfl) rfl (HasI.ownV hv1) rfl (by omega) ?_; rw [ha])|(refine oD 36 ?_; refine LA_subF rfl rfl rfl (by dsimp only [fits]; omega) ?_; rw [show ((i : Int) - 1) = ((i - 1 : Nat) : Int) by omega])|(refine oD 37 ?_; refine LA_indexN rfl _ rfl (fun _ => rfl) rfl (HasI.ownV hv1) rfl (by omega) ?_; rw [ha])|(refine oD 47 ?_; refine LA_subF rfl rfl rfl (by dsimp only [fits]; omega) ?_; rw [show ((i : Int) - 1) = ((i - 1 : Nat) : Int) by omega])|(refine oD 48 ?_; refine LA_indexN rfl _ rfl (fun _ => rfl) rfl (HasI.ownV hv1) rfl (by omega) ?_; rw [ha])|(refine oB .shr ?_; refine LA_shr rfl rfl rfl (by decide) (by decide) ?_; rw [show (2 : Int) ^ Int.toNat 16 = 65536 by decide])|(refine oD 56 ?_; refine LA_conv rfl rfl rfl rfl ?_; rw [ec])|(refine oD 57 ?_; refine LA_oneO rfl el_c16 rfl rfl ?_)|refine wOp ?_|(refine wCm ?_ ?_<;>intro hc)|(refine wNl hK ?_;clear hK K))|refine wG ?_|(refine wCR ?_;intro K hK)|fail)
        all_goals skip
        exact PX_rndV (i + 1, va) (fun w5 e5 => ⟨hil, hx1.trans e5, hv1.ext e5, by dsimp only; rw [hA']; exact hva.ext e5, kv, lv, by dsimp only; rw [hS']; exact hS.ext e5, hon, hnv⟩) (by dsimp only; omega) (by repeat' (first | exact Sub.nil | refine Sub.val rfl (by first | with_reducible rfl | (congr 1; omega)) ?_ | refine Sub.same rfl ?_))
      · replace hnew := hnew (.inr (by rw [ha]; exact fun h => hac (by omega)))
        by_cases hKK : ofK xs i = ofK xs (i + 1)
        · rw [if_pos ⟨Nat.pos_of_ne_zero hi0, hKK⟩, if_pos ⟨Nat.pos_of_ne_zero hi0, hKK⟩] at hnew
          have hk12 : a / 65536 = c / 65536 := by rw [← hK1, hKK, hK2]
          repeat' (first|(refine oLA ?_;first|refine LA_pass rfl ?_|(refine oD 31 ?_; refine LA_len rfl _ rfl rfl (HasI.ownV hva).c ?_)|(refine oD 17 ?_; refine LA_indexN rfl _ rfl (fun _ => rfl) rfl (HasI.ownV hv1) rfl hil ?_; rw [hc])|(refine oD 24 ?_; refine LA_subF rfl rfl rfl (by dsimp only [fits]; omega) ?_; rw [show ((i : Int) - 1) = ((i - 1 : Nat) : Int) by omega])|(refine oD 25 ?_; refine LA_indexN rfl _ rfl (fun _ => rfl) rfl (HasI.ownV hv1) rfl (by omega) ?_; rw [ha])|(refine oD 36 ?_; refine LA_subF rfl rfl rfl (by dsimp only [fits]; omega) ?_; rw [show ((i : Int) - 1) = ((i - 1 : Nat) : Int) by omega])|(refine oD 37 ?_; refine LA_indexN rfl _ rfl (fun _ => rfl) rfl (HasI.ownV hv1) rfl (by omega) ?_; rw [ha])|(refine oD 47 ?_; refine LA_subF rfl rfl rfl (by dsimp only [fits]; omega) ?_; rw [show ((i : Int) - 1) = ((i - 1 : Nat) : Int) by omega])|(refine oD 48 ?_; refine LA_indexN rfl _ rfl (fun _ => rfl) rfl (HasI.ownV hv1) rfl (by omega) ?_; rw [ha])|(refine oB .shr ?_; refine LA_shr rfl rfl rfl (by decide) (by decide) ?_; rw [show (2 : Int) ^ Int.toNat 16 = 65536 by decide])|(refine oD 56 ?_; refine LA_conv rfl rfl rfl rfl ?_; rw [ec])|(refine oD 57 ?_; refine LA_oneO rfl el_c16 rfl rfl ?_)|(refine oD 58 ?_; refine LA_stop (hK _ _ (LX_appendL (n := (ofA xs i).length) (cs := (ofA xs i).map (Value.int .u16)) rfl (by decide) el_c16 rfl hva rfl HasC.own (by intro u hu; rw [List.mem_singleton] at hu; subst hu; rfl) (by unfold maxLen; omega) (by omega) (fun v' wa wb' e' ho' hf hl => ?_))); clear hK K; refine LX_la (by kernel_rfl) (fun K hK => ?_))|refine wOp ?_|(refine wCm ?_ ?_<;>intro hc)|(refine wNl hK ?_;clear hK K))|refine wG ?_|(refine wCR ?_;intro K hK)|fail)
          all_goals skip
          have x4 := hx1.trans e'
          have ho2 : OwnI w.heap.size tK .u16 wb' v' (ofA xs (i + 1)) := by
            rw [hnew.1]; unfold OwnI; rw [List.map_append, List.length_append, List.length_singleton]
            exact Own.rebase ho' (hl.ge (fun k hk => (Own.lt hva k hk).1) x4.size)
          obtain ⟨hS9, hn9⟩ := RS.beside hS hnv hva e' hf hl
          have hv9 := hf.own (hv1.ext e') (fun k h1 h2 => by
            obtain ⟨cur, hcur⟩ := own_type (hv1.ext e') h1
            exact Own.apart (hva.ext e') hcur (by decide) h2)
          have x9 := Fr.ext x4 hf (fun k hk => (Own.lt hva k hk).1)
          exact PX_rndV (i + 1, v') (fun w5 e5 => ⟨hil, x9.trans e5, Own.ext hv9 e5, ho2.ext e5, kv, lv, by dsimp only; rw [hnew.2]; exact hS9.ext e5, hon, hn9⟩) (by dsimp only; omega) (by repeat' (first | exact Sub.nil | refine Sub.val rfl (by first | with_reducible rfl | (congr 1; omega)) ?_ | refine Sub.same rfl ?_))
        · rw [if_neg (fun h => hKK h.2), if_neg (fun h => hKK h.2)] at hnew
          have hk12 : a / 65536 ≠ c / 65536 := by rw [← hK1, ← hK2]; exact hKK
          repeat' (first|(refine oLA ?_;first|refine LA_pass rfl ?_|(refine oD 31 ?_; refine LA_len rfl _ rfl rfl (HasI.ownV hva).c ?_)|(refine oD 17 ?_; refine LA_indexN rfl _ rfl (fun _ => rfl) rfl (HasI.ownV hv1) rfl hil ?_; rw [hc])|(refine oD 24 ?_; refine LA_subF rfl rfl rfl (by dsimp only [fits]; omega) ?_; rw [show ((i : Int) - 1) = ((i - 1 : Nat) : Int) by omega])|(refine oD 25 ?_; refine LA_indexN rfl _ rfl (fun _ => rfl) rfl (HasI.ownV hv1) rfl (by omega) ?_; rw [ha])|(refine oD 36 ?_; refine LA_subF rfl rfl rfl (by dsimp only [fits]; omega) ?_; rw [show ((i : Int) - 1) = ((i - 1 : Nat) : Int) by omega])|(refine oD 37 ?_; refine LA_indexN rfl _ rfl (fun _ => rfl) rfl (HasI.ownV hv1) rfl (by omega) ?_; rw [ha])|(refine oD 47 ?_; refine LA_subF rfl rfl rfl (by dsimp only [fits]; omega) ?_; rw [show ((i : Int) - 1) = ((i - 1 : Nat) : Int) by omega])|(refine oD 48 ?_; refine LA_indexN rfl _ rfl (fun _ => rfl) rfl (HasI.ownV hv1) rfl (by omega) ?_; rw [ha])|(refine oB .shr ?_; refine LA_shr rfl rfl rfl (by decide) (by decide) ?_; rw [show (2 : Int) ^ Int.toNat 16 = 65536 by decide])|(refine oD 56 ?_; refine LA_conv rfl rfl rfl rfl ?_; rw [ec])|(refine oD 57 ?_; refine LA_oneO rfl el_c16 rfl rfl ?_)|refine wOp ?_|(refine wCm ?_ ?_<;>intro hc)|(refine wNl hK ?_;clear hK K))|refine wG ?_|(refine wCR ?_;intro K hK)|fail)
          all_goals skip
          refine LA_stop (hK _ _ (LX_call3 rfl (by decide) rfl rfl rfl rfl (fun v w' => v = .tuple #[] ∧ ∃ wz, Ext w1 wz ∧ Mut (fun j => A j ∧ va.ownBlock ≠ some j) wz b kv lv (memb (xs.take i)) w') (fun w8 e8 => ?_) (fun v w2 hm => ?_)))
          · rw [eK]
            exact (push_s (hx1.trans e8) hT hon (hS.ext e8) (hFva.ext e8) hKlt hlast (hva.ext e8).slI hAinc hAlow hpos).mono (fun en w' h => ⟨_, h.1, rfl, _, e8, hfull ▸ h.2⟩)
          clear hK K
          obtain ⟨rfl, wz, ez, kv9, lv9, m1, m2, m3, m4⟩ := hm
          have x2 := Fr.ext (hx1.trans ez) m2 hon
          have hon9 := onw_loc hon (hx1.trans ez).size m3 m4
          have hv2 : OwnI w.heap.size 39 .u32 w2 v8 xs := m2.own (hv1.ext ez) (RS.off (hS.ext ez) (hv1.ext ez) ⟨by decide, by decide, by decide⟩)
          have hS2 : RS (fun j => A j ∧ nilS.ownBlock ≠ some j) w2 b kv9 lv9 (memb (xs.take i)) := m1.mono fun j _ ha _ => ⟨ha.1, fun h => by cases h⟩
          repeat' (first|(refine oLA ?_;first|refine LA_pass rfl ?_|(refine oD 56 ?_; refine LA_conv rfl rfl rfl rfl ?_; rw [ec])|(refine oD 57 ?_; refine LA_oneO rfl el_c16 rfl rfl ?_)|(refine oD 58 ?_; refine LA_stop (hK _ _ (LX_appendL (n := 0) (cs := []) rfl (by decide) el_c16 rfl (Own.nil (base := w.heap.size) (e := tK) (s := 1)) rfl HasC.own (by intro u hu; rw [List.mem_singleton] at hu; subst hu; rfl) (by unfold maxLen; omega) (by omega) (fun v' wa wb' e' ho' hf hl => ?_))); clear hK K; refine LX_la (by kernel_rfl) (fun K hK => ?_))|refine wOp ?_|(refine wCm ?_ ?_<;>intro hc)|(refine wNl hK ?_;clear hK K))|refine wG ?_|(refine wCR ?_;intro K hK)|fail)
          all_goals skip
          have hvn : OwnI w.heap.size tK .u16 w2 nilS [] := OwnI.nil
          have x4 := x2.trans e'
          have ho2 : OwnI w.heap.size tK .u16 wb' v' (ofA xs (i + 1)) := by
            rw [hnew.1]; unfold OwnI; rw [List.map_append, List.length_append, List.length_singleton]
            exact Own.rebase ho' (hl.ge (fun k hk => (Own.lt hvn k hk).1) x4.size)
          obtain ⟨hS9, hn9⟩ := RS.beside hS2 (fun k h => by cases h) hvn e' hf hl
          have hv9 := hf.own (hv2.ext e') (fun k h1 h2 => by
            obtain ⟨cur, hcur⟩ := own_type (hv2.ext e') h1
            exact Own.apart (hvn.ext e') hcur (by decide) h2)
          have x9 := Fr.ext x4 hf (fun k hk => (Own.lt hvn k hk).1)
          exact PX_rndV (i + 1, v') (fun w5 e5 => ⟨hil, x9.trans e5, Own.ext hv9 e5, ho2.ext e5, kv9, lv9, by dsimp only; rw [hnew.2]; exact hS9.ext e5, hon9, hn9⟩) (by dsimp only; omega) (by repeat' (first | exact Sub.nil | refine Sub.val rfl (by first | with_reducible rfl | (congr 1; omega)) ?_ | refine Sub.same rfl ?_))
  · have hie : i = xs.length := by omega
    have hmx : memb (xs.take i) = memb xs := by rw [hie, List.take_length]
    by_cases hi0 : i = 0
    · have hA0 : ofA xs i = [] := by rw [hi0]; rfl
      have hS0 : ofS xs i = memb xs := by
        rw [← hmx, hi0, List.take_zero]
        funext x; exact (decide_eq_false (fun h => by cases h) : memb [] x = false).symm
      rw [hA0] at hva; rw [hS0] at hS
      repeat' (first|(refine oLA ?_;first|refine LA_pass rfl ?_|(refine oD 61 ?_; refine LA_len (n := 0) rfl _ rfl rfl (HasI.ownV hva).c ?_)|(refine oD 62 ?_; refine LA_cmpF rfl rfl rfl rfl (by decide) ?_)|refine wOp ?_|(refine wCm ?_ ?_<;>intro hc)|(refine wNl hK ?_;clear hK K))|refine wG ?_|(refine wCR ?_;intro K hK)|fail)
      all_goals skip
      exact PX_retP rfl rfl hx1 (fun u w5 e5 hu => by obtain rfl : u = _ := hu; exact ⟨b, kv, lv, rfl, (hS.ext e5).mono fun j _ ha _ => ha.1, fun k hk => hB k (hon k hk)⟩)
    · obtain ⟨a, ha⟩ : ∃ a : Nat, xs.getD (i - 1) 0 = (a : Int) := ⟨(xs.getD (i - 1) 0).toNat, by have := of_bd hu (i := i - 1) (by omega); omega⟩
      have hab : a < 4294967296 := by have := of_bd hu (i := i - 1) (by omega); omega
      have hK1 : ofK xs i = a / 65536 := by unfold ofK; rw [ha, Int.toNat_natCast]
      have hpos := ofA_pos hu (Nat.pos_of_ne_zero hi0) hi
      obtain ⟨K, hKd⟩ : ∃ K, K = ofK xs i := ⟨_, rfl⟩
      have hKlt := ofK_lt hu (Nat.pos_of_ne_zero hi0) hi
      have hfull : upd (ofS xs i) (ofK xs i) (memb (ofA xs i)) = memb (xs.take i) := by
        have h1 : memb (ofA xs i) = blk (memb (xs.take i)) (ofK xs i) := by
          unfold ofA; rw [if_neg hi0]; exact memb_L (fun j hj => blk_off (by omega))
        rw [h1]; exact of_full hs hu (Nat.pos_of_ne_zero hi0) hi
      have hlast : ∀ j, ofK xs i ≤ j → ne (ofS xs i) j = false := fun j hj => by unfold ofS; rw [if_neg hi0]; exact cut_ne _ hj
      have hAinc : Inc (ofA xs i) := by unfold ofA; rw [if_neg hi0]; exact listS_inc _ _
      have hAlow : Low (ofA xs i) := by unfold ofA; rw [if_neg hi0]; exact listS_low _
      have hFva : Fsh (fun j => A j ∧ va.ownBlock ≠ some j) w1 := fun j hj => ⟨hA j (Nat.le_trans hx1.size hj), fun h => by have := (Own.lt hva j h).2; omega⟩
      have eK : (a : Int) / 65536 = (K : Int) := by rw [hKd, hK1]; omega
      rw [← hKd] at hKlt hfull hlast
      rw [hmx] at hfull
      rw [hie] at ha
      repeat' (first|(refine oLA ?_;first|refine LA_pass rfl ?_|(refine oD 61 ?_; refine LA_len rfl _ rfl rfl (HasI.ownV hva).c ?_)|(refine oLen ?_; refine LA_len rfl _ rfl rfl (HasI.ownV hv1).c ?_)|(refine oD 67 ?_; refine LA_subF rfl rfl rfl (by dsimp only [fits]; omega) ?_; rw [show ((xs.length : Int) - 1) = ((xs.length - 1 : Nat) : Int) by omega])|(refine oD 68 ?_; refine LA_indexN rfl _ rfl (fun _ => rfl) rfl (HasI.ownV hv1) rfl (by omega) ?_; rw [ha])|(refine oB .shr ?_; refine LA_shr rfl rfl rfl (by decide) (by decide) ?_; rw [show (2 : Int) ^ Int.toNat 16 = 65536 by decide])|refine wOp ?_|(refine wCm ?_ ?_<;>intro hc)|(refine wNl hK ?_;clear hK K))|refine wG ?_|(refine wCR ?_;intro K hK)|fail)
      all_goals skip
      refine LA_stop (hK _ _ (LX_call3 rfl (by decide) rfl rfl rfl rfl (fun v w' => v = .tuple #[] ∧ ∃ wz, Ext w1 wz ∧ Mut (fun j => A j ∧ va.ownBlock ≠ some j) wz b kv lv (memb xs) w') (fun w8 e8 => ?_) (fun v w2 hm => ?_)))
      · rw [eK]
        exact (push_s (hx1.trans e8) hT hon (hS.ext e8) (hFva.ext e8) hKlt hlast (hva.ext e8).slI hAinc hAlow hpos).mono (fun en w' h => ⟨_, h.1, rfl, _, e8, hfull ▸ h.2⟩)
      clear hK K
      obtain ⟨rfl, wz, ez, kv9, lv9, m1, m2, m3, m4⟩ := hm
      have x2 := Fr.ext (hx1.trans ez) m2 hon
      have hon9 := onw_loc hon (hx1.trans ez).size m3 m4
      repeat' (first|(refine oLA ?_;first|refine LA_pass rfl ?_|refine wOp ?_|(refine wCm ?_ ?_<;>intro hc)|(refine wNl hK ?_;clear hK K))|refine wG ?_|(refine wCR ?_;intro K hK)|fail)
      all_goals skip
      exact PX_retP rfl rfl x2 (fun u w5 e5 hu => by obtain rfl : u = _ := hu; exact ⟨b, kv9, lv9, rfl, (m1.ext e5).mono fun j _ ha _ => ha.1, fun k hk => hB k (hon9 k hk)⟩)
end Go.Proofs.YtfcioiobhpcngaaGreatDoor
end
section
set_option linter.unusedSimpArgs false
set_option linter.unusedVariables false
set_option maxRecDepth 3000
namespace Go.Proofs.YtfcioiobhpcngaaGreatDoor
open Go.LA Go.ArrP Go.RowKit
theorem rng_itv (lo hi : Nat) : rng (fun _ => false) lo hi = itv lo hi := by funext y; unfold rng itv; rw [Bool.false_or]
theorem kn_keys : keysL (itv 65535 65538) = [0, 1] := by
  refine listS_is (by unfold Inc; decide) (fun z => ?_)
  constructor
  · intro h
    simp only [List.mem_cons, List.not_mem_nil, or_false] at h
    rcases h with rfl | rfl
    · exact ⟨0, by decide, ne_iff.2 ⟨65535, by decide, by decide⟩, rfl⟩
    · exact ⟨1, by decide, ne_iff.2 ⟨0, by decide, by decide⟩, rfl⟩
  · rintro ⟨i, h1, h2, rfl⟩
    obtain ⟨j, h3, h4⟩ := ne_iff.1 h2
    have := itv_iff.1 h4
    simp only [List.mem_cons, List.not_mem_nil, or_false]
    omega
theorem kn_len : cnt (itv 65535 65538) TOP = 3 := by rw [cnt_itv, TOP_eq]; decide
theorem kn_rank : cnt (itv 65535 65538) (min 65537 TOP) = 2 := by rw [cnt_itv, TOP_eq]; decide
theorem kn_sp : spL (notP 4 (memb [5, 1])) TOP = [(0, 1), (2, 4)] := by
  have hm : ∀ x, notP 4 (memb [5, 1]) x = true ↔ x = 0 ∨ x = 2 ∨ x = 3 := fun x => by
    unfold notP memb
    rw [Bool.and_eq_true, Bool.not_eq_true', decide_eq_true_iff, decide_eq_false_iff_not, TOP_eq]
    simp only [List.mem_cons, List.not_mem_nil, or_false]
    omega
  have hf : ∀ x, ¬ (x = 0 ∨ x = 2 ∨ x = 3) → notP 4 (memb [5, 1]) x = false := fun x h => by
    cases h1 : notP 4 (memb [5, 1]) x
    · rfl
    · exact absurd ((hm x).1 h1) h
  have h1 := spL_add (p := notP 4 (memb [5, 1])) (a := 0) (lo := 0) (hi := 1) (b := 1) (l := []) (sp_none _) (.inr ⟨rfl, rfl⟩) (by decide) (by decide) (fun x _ h => by omega) (fun x _ h => (hm x).2 (by omega)) (fun x h1 h2 => by omega)
  exact spL_add (lo := 2) (hi := 4) h1 (.inl (by decide)) (by decide) (by rw [TOP_eq]; decide) (fun x h1 h2 => hf x (by omega)) (fun x h1 h2 => (hm x).2 (by omega)) (fun x h1 h2 => hf x (by omega))
theorem a0A (w : World) (hT : Tab w) : Fc Tryz.prog 10 #[] w (Ret w (.val (.bool true))) := by
  have htop := TOP_eq
  refine Fc.of (args := []) Tryz.func10 rfl rfl Tryz.ntmps10 (Nat.le_of_ble_eq_true rfl) ?_
  repeat' (first|(refine oLA ?_;first|refine LA_pass rfl ?_|(refine oD 5 ?_; refine LA_stop (hK _ _ (LX_pick 1 rfl (fun v1 w1 e1 h1 => ?_))); clear hK K; obtain ⟨b, kv0, lv0, rfl, hS0, hB0⟩ := h1; refine LX_la (by kernel_rfl) (fun K hK => LA_moveV rfl rfl ?_))|(refine oD 6 ?_; refine LA_stop (hK _ _ (LX_call3 rfl (by decide) rfl rfl rfl rfl (fun v w' => v = .tuple #[] ∧ ∃ wz, Ext w1 wz ∧ Mut TT wz b kv0 lv0 (itv 65535 65538) w') (fun w8 e8 => ?_) (fun v w2 hm => ?_))); clear hK K)|refine wOp ?_|(refine wCm ?_ ?_<;>intro hc)|(refine oCv ?_;first|(refine oC 11 ?_; refine LA_call0 (f := 11) rfl rfl  (.pred (rsP (fun k => w.heap.size ≤ k) TT (fun _ => false))) (by intro w e; exact new_c _ (fun k hk => Nat.le_trans e.size hk)) ?_))|(refine wNl hK ?_;clear hK K))|refine wG ?_|(refine wCR ?_;intro K hK)|fail)
  · have := addrange_s (e1.trans e8) hT hB0 (hS0.ext e8) tt (lo := 65535) (hi := 65538) (by decide) (by decide)
    rw [rng_itv, show min 65538 TOP = 65538 by omega] at this
    exact this.mono fun en w' h => ⟨_, h.1, rfl, _, e8, h.2⟩
  obtain ⟨rfl, wz, ez, kv, lv, hS, hF, hl1, hl2⟩ := hm
  have x2 := Fr.ext (e1.trans ez) hF hB0
  have hN : NSet TT TT w2 (.pointer (some ⟨b, 0, none⟩)) (itv 65535 65538) := .inr ⟨b, kv, lv, rfl, hS, fun _ _ => trivial⟩
  have hT2 := hT.ext x2
  have hkeys : ∀ w', Ext w2 w' → _ := fun w' e => keys_s (hN.ext e)
  have hlen : ∀ w', Ext w2 w' → _ := fun w' e => len_s (hN.ext e)
  have hrank : ∀ w', Ext w2 w' → _ := fun w' e => rank_s (x := 65537) (hN.ext e) (by decide)
  have hruns : ∀ w', Ext w2 w' → ∀ u, RSet TT TT w' u (notP 4 (memb [5, 1])) → _ := fun w' e u hu => runs_s (B := TT) (A := TT) (.inr hu) (hT2.ext e)
  rw [kn_keys] at hkeys
  rw [kn_len] at hlen
  rw [kn_rank] at hrank
  rw [kn_sp] at hruns
  clear hS hF htop
  repeat' (first|(refine oLA ?_;first|refine LA_pass rfl ?_|(refine oD 9 ?_; refine LA_two rfl el_c32 rfl rfl rfl rfl ?_)|(refine oD 23 ?_; refine LA_indexN (j := 1) rfl _ rfl (fun _ => rfl) rfl HasI.own rfl (by decide) ?_)|(refine oD 18 ?_; refine LA_len (n := 2) rfl _ rfl rfl HasI.own.c ?_)|(refine oD 24 ?_; refine LA_load (c := .int .u16 1) rfl (fun _ => rfl) rfl ?_)|(refine oD 36 ?_; refine LA_twoP rfl span_el rfl rfl ?_)|(refine oD 34 ?_; refine LA_build2 (c := spV .u64 (0, 1)) rfl rfl rfl (fun w => run_build w _ _ _ (by kernel_rfl)) ?_)|(refine oD 35 ?_; refine LA_build2 (c := spV .u64 (2, 4)) rfl rfl rfl (fun w => run_build w _ _ _ (by kernel_rfl)) ?_)|refine wOp ?_|(refine wCm ?_ ?_<;>intro hc)|(refine oCv ?_;first|(refine oC 40 ?_; refine LA_call1 (f := 40) rfl rfl rfl  (.pred (ownI w2.heap.size tK .u16 [0, 1])) (by intro u1 w e hu1; (try obtain rfl : u1 = _ := hu1); exact (hkeys _ e).mono (ret_base e.size)) ?_)|(refine oC 25 ?_; refine LA_call1 (f := 25) rfl rfl rfl  (.pred (rsP TT TT (memb [5, 1]))) (by intro u1 w e hu1; (try obtain rfl : u1 = _ := hu1); exact of_s (ys := [5, 1]) (Own.slC hu1) (by intro x hx; simp only [List.mem_cons, List.not_mem_nil, or_false] at hx; omega) (by decide) (hT2.ext e) tt tt) ?_)|(refine oC 30 ?_; refine LA_call2 (f := 30) rfl rfl rfl rfl  (.pred (rsP TT TT (notP 4 (memb [5, 1])))) (by intro u1 u2 w e hu1 hu2; (try obtain rfl : u1 = _ := hu1); (try obtain rfl : u2 = _ := hu2); exact not_s (n := 4) (B1 := TT) (.inr hu1) (by decide) (hT2.ext e) tt tt) ?_)|(refine oC 19 ?_; refine LA_call1 (f := 19) rfl rfl rfl  (.pred (ownP w2.heap.size tSp .u64 [(0, 1), (2, 4)])) (by intro u1 w e hu1; (try obtain rfl : u1 = _ := hu1); exact (hruns _ e _ hu1).mono (ret_baseP e.size rfl)) ?_)|(refine oC 15 ?_; refine LA_call1 (f := 15) rfl rfl rfl  (.val (.int .i64 3)) (by intro u1 w e hu1; (try obtain rfl : u1 = _ := hu1); exact hlen _ e) ?_)|(refine oC 16 ?_; refine LA_call2 (f := 16) rfl rfl rfl rfl  (.val (.int .i64 2)) (by intro u1 u2 w e hu1 hu2; (try obtain rfl : u1 = _ := hu1); (try obtain rfl : u2 = _ := hu2); exact hrank _ e) ?_)|(refine oC 18 ?_; refine LA_call2 (f := 18) rfl rfl rfl rfl  (.val (.bool true)) (by intro u1 u2 w e hu1 hu2; (try obtain rfl : u1 = _ := hu1); (try obtain rfl : u2 = _ := hu2); exact ret_eq (by rw [decide_eq_true rfl]) (aaA _ _ _ [(0, 1), (2, 4)] [(0, 1), (2, 4)] (OwnP.slP hu1) (Own.slC hu2))) ?_))|(refine wNl hK ?_;clear hK K))|refine wG ?_|(refine wCR ?_;intro K hK)|fail)
  all_goals skip
  all_goals exact PX_retE rfl rfl x2 rfl
end Go.Proofs.YtfcioiobhpcngaaGreatDoor
end
section
set_option linter.unusedSimpArgs false
set_option linter.unusedVariables false
set_option maxRecDepth 3000
namespace Go.Proofs.YtfcioiobhpcngaaGreatDoor
open Go.LA Go.ArrP Go.RowKit
def kk (x : Sp) : Int := if x.1 < x.2 ∧ x.1 < 4294967296 then min x.2 4294967296 - x.1 else 0
def gsum (xs : List Sp) : Nat → Int
  | 0 => 0
  | i + 1 => if (xs.getD i (0, 0)).1 < (xs.getD i (0, 0)).2 ∧ (xs.getD i (0, 0)).1 < 4294967296 then IntKind.u64.wrap (gsum xs i + kk (xs.getD i (0, 0))) else gsum xs i
theorem gsum_succ (xs : List Sp) (i : Nat) : gsum xs (i + 1) = if (xs.getD i (0, 0)).1 < (xs.getD i (0, 0)).2 ∧ (xs.getD i (0, 0)).1 < 4294967296 then IntKind.u64.wrap (gsum xs i + kk (xs.getD i (0, 0))) else gsum xs i := rfl
noncomputable def grt (xs : List Sp) : Bool := cdec (∃ j, j < xs.length ∧ 200000 < kk (xs.getD j (0, 0))) || (decide (60 < xs.length) || decide (300000 < gsum xs xs.length))
theorem a3A {w : World} {v : Value} {xs : List Sp} (h : SlP .u64 w v xs) (hx : U64 xs) : Fc Tryz.prog 21 #[v] w (Ret w (.val (.bool (grt xs)))) := by
  have hlen := h.len
  refine Fc.of (args := [_]) Tryz.func21 rfl rfl Tryz.ntmps21 (Nat.le_of_ble_eq_true rfl) ?_
  repeat' (first|(refine oLA ?_;first|refine LA_pass rfl ?_|(refine oLen ?_; refine LA_lenP rfl _ rfl rfl (HasP.val h) ?_)|refine wOp ?_|(refine wCm ?_ ?_<;>intro hc)|(refine wNl hK ?_;clear hK K))|refine wG ?_|(refine wCR ?_;intro K hK)|fail)
  refine CX_loop (ι := Nat) (fun i => [(0, .val v), (3, .val (.int .u64 (gsum xs i))), (7, .val (.int .i64 xs.length)), (8, .val (.int .i64 i))]) (fun i => i ≤ xs.length ∧ ∀ j, j < i → kk (xs.getD j (0, 0)) ≤ 200000) (fun i => xs.length - i) 0 ⟨Nat.zero_le _, fun j hj => absurd hj (Nat.not_lt_zero j)⟩ (by repeat' (first | exact Sub.nil | refine Sub.val rfl (by first | with_reducible rfl | (congr 1; omega)) ?_ | refine Sub.same rfl ?_)) ?_
  rintro i ⟨hi, hk0⟩
  by_cases hil : i < xs.length
  · obtain ⟨u1, u2, u3, u4⟩ := hx _ (getD_memP hil)
    have hg := gsum_succ xs i
    have hb : 200000 < kk (xs.getD i (0, 0)) → grt xs = true := fun h => by unfold grt; rw [cdec_iff.2 ⟨i, hil, h⟩]; rfl
    have hk1 : kk (xs.getD i (0, 0)) ≤ 200000 → ∀ j, j < i + 1 → kk (xs.getD j (0, 0)) ≤ 200000 := fun h j hj => by
      by_cases e : j < i
      · exact hk0 j e
      · obtain rfl : j = i := by omega
        exact h
    have hkk : kk (xs.getD i (0, 0)) = if (xs.getD i (0, 0)).1 < (xs.getD i (0, 0)).2 ∧ (xs.getD i (0, 0)).1 < 4294967296 then min (xs.getD i (0, 0)).2 4294967296 - (xs.getD i (0, 0)).1 else 0 := rfl
    obtain ⟨k, hk⟩ : ∃ k, k = kk (xs.getD i (0, 0)) := ⟨_, rfl⟩
    rw [← hk] at hg hb hk1 hkk
    obtain ⟨lo, hlo⟩ : ∃ lo, (xs.getD i (0, 0)).1 = lo := ⟨_, rfl⟩
    obtain ⟨hi', hhi⟩ : ∃ hi, (xs.getD i (0, 0)).2 = hi := ⟨_, rfl⟩
    rw [hlo, hhi] at hg hkk
    rw [hlo] at u1 u2; rw [hhi] at u3 u4
    obtain ⟨s0, hs0⟩ : ∃ s, s = gsum xs i := ⟨_, rfl⟩
    obtain ⟨s1, hs1⟩ : ∃ s, s = gsum xs (i + 1) := ⟨_, rfl⟩
    rw [← hs0, ← hs1] at hg
    rw [← hs0]
    clear hs0 hk hk0
    by_cases c1 : lo < hi'
    · by_cases c2 : lo < 4294967296
      · rw [if_pos ⟨c1, c2⟩] at hg hkk
        by_cases c3 : 200000 < k
        · rw [hb c3]
          clear hg hb hk1 hs1 hx
          repeat' (first|(refine oLA ?_;first|refine LA_pass rfl ?_|(refine oI ?_; refine LA_indexP rfl _ rfl (fun _ => rfl) rfl (HasP.val h) rfl hil ?_; rw [hlo, hhi])|(refine oF 0 ?_; refine LA_fieldC (f := 0) (o := 0) rfl rfl (fun _ _ => rfl) ?_)|(refine oF 1 ?_; refine LA_fieldC (f := 1) (o := 1) rfl rfl (fun _ _ => rfl) ?_)|(refine oL ?_; refine LA_loadH rfl (fun _ => rfl) rfl rfl ?_)|(refine LA_min2 rfl rfl rfl ?_)|(refine oD 41 ?_; refine LA_subF rfl rfl rfl (by dsimp only [fits]; omega) ?_; rw [← hkk])|refine wOp ?_|(refine wCm ?_ ?_<;>intro hc)|(refine wNl hK ?_;clear hK K))|refine wG ?_|(refine wCR ?_;intro K hK)|fail)
          all_goals skip
          exact PX_retE rfl rfl (Ext.refl _) rfl
        · replace hk1 := hk1 (by omega)
          clear hb hx
          repeat' (first|(refine oLA ?_;first|refine LA_pass rfl ?_|(refine oI ?_; refine LA_indexP rfl _ rfl (fun _ => rfl) rfl (HasP.val h) rfl hil ?_; rw [hlo, hhi])|(refine oF 0 ?_; refine LA_fieldC (f := 0) (o := 0) rfl rfl (fun _ _ => rfl) ?_)|(refine oF 1 ?_; refine LA_fieldC (f := 1) (o := 1) rfl rfl (fun _ _ => rfl) ?_)|(refine oL ?_; refine LA_loadH rfl (fun _ => rfl) rfl rfl ?_)|(refine LA_min2 rfl rfl rfl ?_)|(refine oD 41 ?_; refine LA_subF rfl rfl rfl (by dsimp only [fits]; omega) ?_; rw [← hkk])|(refine oD 46 ?_; refine LA_addW rfl rfl rfl ?_; rw [← hg])|refine wOp ?_|(refine wCm ?_ ?_<;>intro hc)|(refine wNl hK ?_;clear hK K))|refine wG ?_|(refine wCR ?_;intro K hK)|fail)
          all_goals skip
          exact PX_rnd (i + 1) ⟨hil, hk1⟩ (by omega) (by rw [← hs1]; (repeat' (first | exact Sub.nil | (refine Sub.val rfl ?_ ?_; first | with_reducible rfl | (congr 1; omega)) | refine Sub.same rfl ?_)); done)
      · rw [if_neg (fun h => c2 h.2)] at hg hkk
        replace hk1 := hk1 (by omega)
        clear hb hx
        subst hg
        repeat' (first|(refine oLA ?_;first|refine LA_pass rfl ?_|(refine oI ?_; refine LA_indexP rfl _ rfl (fun _ => rfl) rfl (HasP.val h) rfl hil ?_; rw [hlo, hhi])|(refine oF 0 ?_; refine LA_fieldC (f := 0) (o := 0) rfl rfl (fun _ _ => rfl) ?_)|(refine oF 1 ?_; refine LA_fieldC (f := 1) (o := 1) rfl rfl (fun _ _ => rfl) ?_)|(refine oL ?_; refine LA_loadH rfl (fun _ => rfl) rfl rfl ?_)|(refine LA_min2 rfl rfl rfl ?_)|(refine oD 41 ?_; refine LA_subF rfl rfl rfl (by dsimp only [fits]; omega) ?_; rw [← hkk])|refine wOp ?_|(refine wCm ?_ ?_<;>intro hc)|(refine wNl hK ?_;clear hK K))|refine wG ?_|(refine wCR ?_;intro K hK)|fail)
        all_goals skip
        exact PX_rnd (i + 1) ⟨hil, hk1⟩ (by omega) (by rw [← hs1]; (repeat' (first | exact Sub.nil | (refine Sub.val rfl ?_ ?_; first | with_reducible rfl | (congr 1; omega)) | refine Sub.same rfl ?_)); done)
    · rw [if_neg (fun h => c1 h.1)] at hg hkk
      replace hk1 := hk1 (by omega)
      clear hb hx
      subst hg
      repeat' (first|(refine oLA ?_;first|refine LA_pass rfl ?_|(refine oI ?_; refine LA_indexP rfl _ rfl (fun _ => rfl) rfl (HasP.val h) rfl hil ?_; rw [hlo, hhi])|(refine oF 0 ?_; refine LA_fieldC (f := 0) (o := 0) rfl rfl (fun _ _ => rfl) ?_)|(refine oF 1 ?_; refine LA_fieldC (f := 1) (o := 1) rfl rfl (fun _ _ => rfl) ?_)|(refine oL ?_; refine LA_loadH rfl (fun _ => rfl) rfl rfl ?_)|(refine LA_min2 rfl rfl rfl ?_)|(refine oD 41 ?_; refine LA_subF rfl rfl rfl (by dsimp only [fits]; omega) ?_; rw [← hkk])|refine wOp ?_|(refine wCm ?_ ?_<;>intro hc)|(refine wNl hK ?_;clear hK K))|refine wG ?_|(refine wCR ?_;intro K hK)|fail)
      all_goals skip
      exact PX_rnd (i + 1) ⟨hil, hk1⟩ (by omega) (by rw [← hs1]; (repeat' (first | exact Sub.nil | (refine Sub.val rfl ?_ ?_; first | with_reducible rfl | (congr 1; omega)) | refine Sub.same rfl ?_)); done)
  · obtain rfl : i = xs.length := by omega
    have hno : cdec (∃ j, j < xs.length ∧ 200000 < kk (xs.getD j (0, 0))) = false := by
      rw [Bool.eq_false_iff]; intro hc
      obtain ⟨j, h1, h2⟩ := cdec_iff.1 hc
      have := hk0 j h1
      omega
    have hgr : grt xs = (decide (60 < xs.length) || decide (300000 < gsum xs xs.length)) := by unfold grt; rw [hno, Bool.false_or]
    obtain ⟨s, hs⟩ : ∃ s, s = gsum xs xs.length := ⟨_, rfl⟩
    rw [← hs] at hgr ⊢
    clear hno hs hk0
    by_cases c1 : 60 < xs.length
    · rw [decide_eq_true c1, Bool.true_or] at hgr
      rw [hgr]
      repeat' (first|(refine oLA ?_;first|refine LA_pass rfl ?_|(refine oLen ?_; refine LA_lenP rfl _ rfl rfl (HasP.val h) ?_)|refine wOp ?_|(refine wCm ?_ ?_<;>intro hc)|(refine wNl hK ?_;clear hK K))|refine wG ?_|(refine wCR ?_;intro K hK)|fail)
      exact PX_retE rfl rfl (Ext.refl _) rfl
    · rw [decide_eq_false c1, Bool.false_or] at hgr
      rw [hgr]
      by_cases c2 : 300000 < s
      · rw [decide_eq_true c2]
        repeat' (first|(refine oLA ?_;first|refine LA_pass rfl ?_|(refine oLen ?_; refine LA_lenP rfl _ rfl rfl (HasP.val h) ?_)|refine wOp ?_|(refine wCm ?_ ?_<;>intro hc)|(refine wNl hK ?_;clear hK K))|refine wG ?_|(refine wCR ?_;intro K hK)|fail)
        exact PX_retE rfl rfl (Ext.refl _) rfl
      · rw [decide_eq_false c2]
        repeat' (first|(refine oLA ?_;first|refine LA_pass rfl ?_|(refine oLen ?_; refine LA_lenP rfl _ rfl rfl (HasP.val h) ?_)|refine wOp ?_|(refine wCm ?_ ?_<;>intro hc)|(refine wNl hK ?_;clear hK K))|refine wG ?_|(refine wCR ?_;intro K hK)|fail)
        exact PX_retE rfl rfl (Ext.refl _) rfl
end Go.Proofs.YtfcioiobhpcngaaGreatDoor
end
section
set_option linter.unusedSimpArgs false
set_option linter.unusedVariables false
set_option maxRecDepth 3000
namespace Go.Proofs.YtfcioiobhpcngaaGreatDoor
open Go.LA Go.ArrP Go.RowKit
theorem add_at (p : Nat → Bool) (x : Nat) : addM p x x = true := by unfold addM; rw [decide_eq_true rfl, Bool.or_true]
end Go.Proofs.YtfcioiobhpcngaaGreatDoor
end
