import Derived.Test.YtfcioiobhpcngaaGreatDoorM12
import Derived.Test.YtfcioiobhpcngaaGreatDoorM13
import Derived.Test.YtfcioiobhpcngaaGreatDoorM14
import Derived.Test.YtfcioiobhpcngaaGreatDoorM15
section
set_option linter.unusedSimpArgs false
set_option linter.unusedVariables false
set_option maxRecDepth 3000
namespace Go.Proofs.YtfcioiobhpcngaaGreatDoor
open Go.LA Go.ArrP Go.RowKit
variable {A : Nat → Prop}
theorem arrrank_c {w : World} {va vw vr : Value} {kd : Int} {p : Nat → Bool} {x : Nat} (h : SlI .u16 w va (listS p 65536)) (hx : x ≤ 65536) : Fc Tryz.prog 98 #[.agg #[.int .u8 kd, va, vw, vr], .int .i64 x] w (Ret w (.val (.int .i64 (cnt p x)))) := by
  have hb := bsS_listS p x hx
  have hl := listS_len p 65536
  have hn : (listS p 65536).length ≤ 4611686018427387903 := by rw [listS_len]; have := cnt_le p 65536; omega
  obtain ⟨n, hnn⟩ : ∃ n, n = (listS p 65536).length := ⟨_, rfl⟩
  by_cases h0 : x = 0
  · subst h0
    refine Fc.of (args := [_, _]) Tryz.func98 rfl rfl Tryz.ntmps98 (Nat.le_of_ble_eq_true rfl) ?_
    repeat' (first|(refine oLA ?_;first|refine LA_pass rfl ?_|refine wRcv ?_|refine wOp ?_|(refine wCm ?_ ?_<;>intro hc)|(refine wNl hK ?_;clear hK K))|refine wG ?_|(refine wCR ?_;intro K hK)|fail)
    all_goals skip
    all_goals exact PX_retE rfl rfl (Ext.refl _) rfl
  by_cases h1 : x = 65536
  · subst h1
    refine Fc.of (args := [_, _]) Tryz.func98 rfl rfl Tryz.ntmps98 (Nat.le_of_ble_eq_true rfl) ?_
    repeat' (first|(refine oLA ?_;first|refine LA_pass rfl ?_|refine wRcv ?_|(refine oLen ?_; refine LA_len rfl _ rfl rfl (by exact (HasI.val h).c) ?_)|refine wOp ?_|(refine wCm ?_ ?_<;>intro hc)|(refine wNl hK ?_;clear hK K))|refine wG ?_|(refine wCR ?_;intro K hK)|fail)
    all_goals skip
    all_goals exact PX_retE rfl rfl (Ext.refl _) (by rw [hl])
  · have q0 : True := trivial
    refine Fc.of (args := [_, _]) Tryz.func98 rfl rfl Tryz.ntmps98 (Nat.le_of_ble_eq_true rfl) ?_
    repeat' (first|(refine oLA ?_;first|refine LA_pass rfl ?_|refine wRcv ?_|refine wOp ?_|(refine wCm ?_ ?_<;>intro hc)|(refine oCv ?_;first|(refine oC 143 ?_; refine LA_call2 (f := 143) rfl rfl rfl rfl  (.tup2 (.val (.int .i64 (bsS (listS p 65536) x))) (.val (.bool (foundS (listS p 65536) x)))) (by intro u1 u2 w e hu1 hu2; (try obtain rfl : u1 = _ := hu1); (try obtain rfl : u2 = _ := hu2); exact find_c _ _ (listS p 65536) x (h.ext e) hn) ?_))|(refine wNl hK ?_;clear hK K))|refine wG ?_|(refine wCR ?_;intro K hK)|fail)
    all_goals skip
    all_goals exact PX_retE rfl rfl (Ext.refl _) (by rw [hb])
theorem wrdrank_c {w : World} {va vw vr : Value} {kd : Int} {p : Nat → Bool} {x : Nat} (h : SlI .u64 w vw (wordsOf p)) (hx : x ≤ 65536) : Fc Tryz.prog 99 #[.agg #[.int .u8 kd, va, vw, vr], .int .i64 x] w (Ret w (.val (.int .i64 (cnt p x)))) := by
  refine Fc.of (args := [_, _]) Tryz.func99 rfl rfl Tryz.ntmps99 (Nat.le_of_ble_eq_true rfl) ?_
  repeat' (first|(refine oLA ?_;first|refine LA_pass rfl ?_|refine wRcv ?_|refine wOp ?_|(refine wCm ?_ ?_<;>intro hc)|(refine oCv ?_;first|(refine oC 144 ?_; refine LA_call2 (f := 144) rfl rfl rfl rfl  (.val (.int .i64 (cnt p x))) (by intro u1 u2 w e hu1 hu2; (try obtain rfl : u1 = _ := hu1); (try obtain rfl : u2 = _ := hu2); exact ret_eq (by rw [show (min (max (x : Int) 0) 65536).toNat = x by omega]) (wrankP _ _ p (h.ext e) x (by omega))) ?_))|(refine wNl hK ?_;clear hK K))|refine wG ?_|(refine wCR ?_;intro K hK)|fail)
  all_goals skip
  all_goals exact PX_retE rfl rfl (Ext.refl _) rfl
theorem runrank_c {w : World} {va vw vr : Value} {kd : Int} {p : Nat → Bool} {x : Nat} (h : SlR w vr (runsL p)) (hx : x ≤ 65536) : Fc Tryz.prog 100 #[.agg #[.int .u8 kd, va, vw, vr], .int .i64 x] w (Ret w (.val (.int .i64 (cnt p x)))) := by
  have hr : rankR (runsL p) x = cnt p x := by rw [show rankR (runsL p) x = _ from rank_opn p x 65536, show (min (max (x : Int) 0) (65536 : Nat)).toNat = x by omega]
  have hn : (runsL p).length ≤ 70000 := by have := runsL_len p; omega
  refine Fc.of (args := [_, _]) Tryz.func100 rfl rfl Tryz.ntmps100 (Nat.le_of_ble_eq_true rfl) ?_
  repeat' (first|(refine oLA ?_;first|refine LA_pass rfl ?_|refine wRcv ?_|refine wOp ?_|(refine wCm ?_ ?_<;>intro hc)|(refine oCv ?_;first|(refine oC 145 ?_; refine LA_call2 (f := 145) rfl rfl rfl rfl  (.val (.int .i64 (cnt p x))) (by intro u1 u2 w e hu1 hu2; (try obtain rfl : u1 = _ := hu1); (try obtain rfl : u2 = _ := hu2); exact ret_eq (by rw [hr]) (rrankR_c _ _ (runsL p) x (h.ext e) (runs_u16 p) hn (by omega))) ?_))|(refine wNl hK ?_;clear hK K))|refine wG ?_|(refine wCR ?_;intro K hK)|fail)
  all_goals skip
  all_goals exact PX_retE rfl rfl (Ext.refl _) rfl
theorem rank_c {w : World} {v : Value} {p : Nat → Bool} {kk : Int} {x : Nat} (h : Cn A w v p kk) (hx : x ≤ 65536) : Fc Tryz.prog 52 #[v, .int .i64 x] w (Ret w (.val (.int .i64 (cnt p x)))) := by
  have hk : ∀ w', Ext w w' → _ := fun w' e => kind_c (h.ext e)
  obtain ⟨hp, ⟨rfl, kd, va, hkd, rfl, ho⟩ | ⟨rfl, vw, rfl, ho⟩ | ⟨rfl, vr, rfl, ho⟩⟩ := h
  · skip
    refine Fc.of (args := [_, _]) Tryz.func52 rfl rfl Tryz.ntmps52 (Nat.le_of_ble_eq_true rfl) ?_
    repeat' (first|(refine oLA ?_;first|refine LA_pass rfl ?_|refine wRcv ?_|refine LA_build3 (c := .agg #[.nilFunc, .func (.func 98) #[] #[], .func (.func 99) #[] #[], .func (.func 100) #[] #[]]) rfl rfl rfl rfl (fun _ => by kernel_rfl) ?_|(refine LA_indexA 1 (c := .func (.func 98) #[] #[]) rfl rfl (fun _ => rfl) rfl rfl rfl (by decide) (fun _ => by kernel_rfl) ?_)|refine wOp ?_|(refine wCm ?_ ?_<;>intro hc)|(refine oCv ?_;first|(refine oC 82 ?_; refine LA_call1 (f := 82) rfl rfl rfl _ (by intro u1 w' e hu1; obtain rfl : u1 = _ := hu1; exact hk w' e) ?_)|(refine LA_call2 (f := 98) rfl rfl rfl rfl (.val (.int .i64 (cnt p x))) (by intro u1 u2 w' e hu1 hu2; obtain rfl : u1 = _ := hu1; obtain rfl : u2 = _ := hu2;exact arrrank_c (ho.ext e).slI hx) ?_))|(refine wNl hK ?_;clear hK K))|refine wG ?_|(refine wCR ?_;intro K hK)|fail)
    all_goals skip
    all_goals exact PX_retE rfl rfl (Ext.refl _) rfl
  · skip
    refine Fc.of (args := [_, _]) Tryz.func52 rfl rfl Tryz.ntmps52 (Nat.le_of_ble_eq_true rfl) ?_
    repeat' (first|(refine oLA ?_;first|refine LA_pass rfl ?_|refine wRcv ?_|refine LA_build3 (c := .agg #[.nilFunc, .func (.func 98) #[] #[], .func (.func 99) #[] #[], .func (.func 100) #[] #[]]) rfl rfl rfl rfl (fun _ => by kernel_rfl) ?_|(refine LA_indexA 2 (c := .func (.func 99) #[] #[]) rfl rfl (fun _ => rfl) rfl rfl rfl (by decide) (fun _ => by kernel_rfl) ?_)|refine wOp ?_|(refine wCm ?_ ?_<;>intro hc)|(refine oCv ?_;first|(refine oC 82 ?_; refine LA_call1 (f := 82) rfl rfl rfl _ (by intro u1 w' e hu1; obtain rfl : u1 = _ := hu1; exact hk w' e) ?_)|(refine LA_call2 (f := 99) rfl rfl rfl rfl (.val (.int .i64 (cnt p x))) (by intro u1 u2 w' e hu1 hu2; obtain rfl : u1 = _ := hu1; obtain rfl : u2 = _ := hu2;exact wrdrank_c (ho.ext e).slI hx) ?_))|(refine wNl hK ?_;clear hK K))|refine wG ?_|(refine wCR ?_;intro K hK)|fail)
    all_goals skip
    all_goals exact PX_retE rfl rfl (Ext.refl _) rfl
  · skip
    refine Fc.of (args := [_, _]) Tryz.func52 rfl rfl Tryz.ntmps52 (Nat.le_of_ble_eq_true rfl) ?_
    repeat' (first|(refine oLA ?_;first|refine LA_pass rfl ?_|refine wRcv ?_|refine LA_build3 (c := .agg #[.nilFunc, .func (.func 98) #[] #[], .func (.func 99) #[] #[], .func (.func 100) #[] #[]]) rfl rfl rfl rfl (fun _ => by kernel_rfl) ?_|(refine LA_indexA 3 (c := .func (.func 100) #[] #[]) rfl rfl (fun _ => rfl) rfl rfl rfl (by decide) (fun _ => by kernel_rfl) ?_)|refine wOp ?_|(refine wCm ?_ ?_<;>intro hc)|(refine oCv ?_;first|(refine oC 82 ?_; refine LA_call1 (f := 82) rfl rfl rfl _ (by intro u1 w' e hu1; obtain rfl : u1 = _ := hu1; exact hk w' e) ?_)|(refine LA_call2 (f := 100) rfl rfl rfl rfl (.val (.int .i64 (cnt p x))) (by intro u1 u2 w' e hu1 hu2; obtain rfl : u1 = _ := hu1; obtain rfl : u2 = _ := hu2;exact runrank_c (ho.ext e).slR hx) ?_))|(refine wNl hK ?_;clear hK K))|refine wG ?_|(refine wCR ?_;intro K hK)|fail)
    all_goals skip
    all_goals exact PX_retE rfl rfl (Ext.refl _) rfl
end Go.Proofs.YtfcioiobhpcngaaGreatDoor
end
section
set_option linter.unusedSimpArgs false
set_option linter.unusedVariables false
set_option maxRecDepth 3000
namespace Go.Proofs.YtfcioiobhpcngaaGreatDoor
open Go.LA Go.ArrP Go.RowKit
theorem ov_c16 {w : World} {ba bb na ca nb cb ga gb : Nat} {xs ys : List Value} (ha : Own ba 72 1 w (.slice (some ⟨ga, 0, none⟩) na ca) na xs) (hb : Own bb 72 1 w (.slice (some ⟨gb, 0, none⟩) nb cb) nb ys) (hcb : 0 < cb) (hne : ga ≠ gb) (o l' c' : Nat) :
    (callFunc 129 #[.slice (some ⟨ga, 0, none⟩) na ca, .slice (some ⟨gb, o, none⟩) l' c']).run Tryz.prog w = .ok (.value (.bool false)) w := by
  rw [run_callFunc_extern Tryz.func129 (by kernel_rfl) (by kernel_rfl) (by kernel_rfl) (e := Extern.SlicesOverlaps.overlaps #[52, 52] #[4]) (by kernel_rfl), run_overlaps_own rfl (fun _ => rfl) (by decide) ha hb hcb hne]
  rfl
theorem ins2_c16 (w : World) (base bu : Nat) (v u : Value) (n i : Nat) (cs xs : List Value) (ho : Own base 72 1 w v n cs) (hu : Own bu 72 1 w u 1 xs) (hi : i ≤ n) 
    (hap : ∀ k, u.ownBlock = some k → v.ownBlock ≠ some k) (h1c : ∀ c ∈ cs, c.oneCell' = true) (h1 : ∀ c ∈ xs, c.oneCell' = true) (hn : n ≤ 70368744177663) (hb : (n + 1) * 2 ≤ 140737488355328) :
    Fc Tryz.prog 88 #[v, .int .i64 i, u] w (fun en w' => ∃ v', en = .returned v' ∧ Own 0 72 1 w' v' (n + 1) (cs.take (i * 1) ++ xs ++ cs.drop (i * 1)) ∧ Fr (fun k => v.ownBlock = some k) w w' ∧ LocR w v v') := by
  have hs := ho.slC
  have hsu := hu.slC
  have hcl := ho.1
  have hxl := hu.1
  by_cases hin : i = n
  · refine Fc.of (args := [_, _, _]) Tryz.func88 rfl rfl Tryz.ntmps88 (Nat.le_of_ble_eq_true rfl) ?_
    subst hin
    repeat' (first|(refine oLA ?_;first|refine LA_pass rfl ?_|(refine LA_stop (hK _ _ (LX_appendL rfl (by decide) el_c16 rfl ho rfl (HasC.val hsu) h1 (by unfold maxLen; omega) hb (fun v' w2 w3 he2 ho3 hg3 hl3 => ?_))); clear hK K; dsimp only [vals]; refine LX_la (by kernel_rfl) (fun K hK => ?_))|refine wOp ?_|(refine wCm ?_ ?_<;>intro hc)|(refine wNl hK ?_;clear hK K))|refine wG ?_|(refine wCR ?_;intro K hK)|fail)
    refine PX_ret1 rfl (fun v5 w5 e5 h5 => ?_)
    obtain rfl : v5 = _ := h5
    refine ⟨_, rfl, ?_, ?_, hl3.le he2.size⟩
    · rw [List.take_of_length_le (by omega), List.drop_of_length_le (by omega), List.append_nil]
      exact ho3.ext e5
    · exact Fr.grown (grown_then (grown_ext he2 hg3.grownBy) e5)
  · have hlt : i < n := by omega
    rcases ho.2 with ⟨_, h0⟩ | ⟨gb, cap, cur, rfl, hgb, hg, hnc, hm, hsz, htake⟩
    · omega
    rcases hu.2 with ⟨_, h0⟩ | ⟨gu, capu, curu, rfl, hgub, hgu, hncu, hmu, hszu, htakeu⟩
    · omega
    have hne : gu ≠ gb := fun e => hap gu rfl (by rw [e]; rfl)
    have hst : ∀ c ∈ cs.drop (i * 1), c.oneCell' = true := fun c hc => h1c c (List.mem_of_mem_drop hc)
    by_cases hroom : n + 1 ≤ cap
    · obtain ⟨zs, hzl, hmore⟩ := ho.more 1 hroom
      have hsl := hmore.slC
      have hsub : subS (.slice (some ⟨gb, 0, none⟩) (n + 1) cap) (i + 1) (n + 1) 1 = .slice (some ⟨gb, (i + 1) * 1, none⟩) (n + 1 - (i + 1)) (cap - (i + 1)) := sub_lit (by omega)
      refine Fc.of (args := [_, _, _]) Tryz.func88 rfl rfl Tryz.ntmps88 (Nat.le_of_ble_eq_true rfl) ?_
      repeat' (first|(refine oLA ?_;first|refine LA_pass rfl ?_|refine LA_cap rfl rfl rfl ?_|(refine LA_sliceC rfl _ rfl rfl rfl (by omega) (by omega) (by omega) (fun _ => rfl) ?_; rw [show ((n : Int) + ((1 : Nat) : Int)).toNat = n + 1 by omega])|(refine LA_sliceL rfl _ rfl rfl (HasC.val hsl) rfl (by omega) (by omega) (by exact fun _ => rfl) ?_; rw [show ((i : Int) + ((1 : Nat) : Int)).toNat = i + 1 by omega])|refine LA_ext2 (f := 129) (c := .bool false) rfl rfl rfl rfl (fun w2 e2 => by rw [hsub]; exact ov_c16 (hu.ext e2) (ho.ext e2) (by omega) hne _ _ _) ?_|(refine LA_stop (hK _ _ rfl (LX_copy (i + 1) rfl (by intro q h; cases h; decide) el_c16 rfl rfl hmore (hsl.sub (Nat.le_of_lt (by omega)) (Nat.le_refl _)) (by omega) (by rw [room_src hlt hcl hzl]; exact hst) (fun w2 w3 e2 ho3 hg3 => ?_))); clear hK K; dsimp only [vals]; have hu3 := ((hu.ext e2).kept hg3 (.inr (fun q => hne (by injection q)))); refine LX_la (by kernel_rfl) (fun K hK => ?_))|(refine LA_stop (hK _ _ (LX_copy i rfl (by intro q h; cases h; decide) el_c16 rfl rfl ho3 hu3.slC (by omega) (fun c hc => h1 c (List.mem_of_mem_take hc)) (fun w4 w5 e4 ho5 hg5 => ?_))); clear hK K; dsimp only [vals]; refine LX_la (by kernel_rfl) (fun K hK => ?_))|refine wOp ?_|(refine wCm ?_ ?_<;>intro hc)|(refine wNl hK ?_;clear hK K))|(refine oCX ?_;first|refine CX_regionT 8 (by kernel_rfl) (by kernel_rfl) (by decide) (fun K hK => ?_))|refine wG ?_|(refine wCR ?_;intro K hK)|fail)
      refine PX_ret1 rfl (fun v6 w6 e6 h6 => ?_)
      obtain rfl : v6 = _ := h6
      refine ⟨_, rfl, ?_, ?_, LocR.refl⟩
      · have h7 := ho5.ext e6
        rw [splice_room hlt hcl (by omega) hzl] at h7
        exact h7.base (Nat.zero_le _)
      · exact Fr.grown (grown_then (grown_trans (grown_ext e2 hg3) (grown_ext e4 hg5)) e6)
    · refine Fc.of (args := [_, _, _]) Tryz.func88 rfl rfl Tryz.ntmps88 (Nat.le_of_ble_eq_true rfl) ?_
      repeat' (first|(refine oLA ?_;first|refine LA_pass rfl ?_|refine LA_cap rfl rfl rfl ?_|(refine LA_sliceC rfl _ rfl rfl rfl (by omega) (by omega) (by omega) (fun _ => rfl) ?_; rw [Int.toNat_natCast])|(refine LA_stop (hK _ _ (LX_appendMake (kn := n + 1 - i) rfl (by decide) el_c16 rfl rfl rfl (own_take ho i hi).slC (by omega) (by omega) (by omega) (by decide) (by rw [show i + (n + 1 - i) = n + 1 by omega]; exact hb) (by omega) (fun v' w2 w3 zs e2 hzl hz1 ho3 e3 => ?_))); clear hK K; rw [show i + (n + 1 - i) = n + 1 by omega] at ho3; have x3 := e2.trans e3; have hs3 := hs.ext x3; dsimp only [vals]; refine LX_la (by kernel_rfl) (fun K hK => ?_))|(refine LA_sliceL rfl _ rfl rfl (HasC.ownV ho3) rfl (by omega) (by omega) (by exact fun _ => rfl) ?_; rw [Int.toNat_natCast])|(refine LA_stop (hK _ _ (LX_copy i rfl (by intro q h; cases h; decide) el_c16 rfl rfl ho3 (hu.ext x3).slC (by omega) (fun c hc => h1 c (List.mem_of_mem_take hc)) (fun w4 w5 e4 ho5 hg5 => ?_))); clear hK K; have x5 := (x3.trans e4).grown hg5 (fun q hq => Nat.le_trans e2.size (Own.lt ho3 q hq).1); have hs5 := hs.ext x5; dsimp only [vals]; refine LX_la (by kernel_rfl) (fun K hK => ?_))|(refine LA_sliceL rfl _ rfl rfl (HasC.ownV ho5) rfl (by omega) (by omega) (by exact fun _ => rfl) ?_; rw [show ((i : Int) + ((1 : Nat) : Int)).toNat = i + 1 by omega])|(refine LA_sliceL rfl _ rfl rfl (HasC.val hs5) rfl (by omega) (by omega) (by exact fun _ => rfl) ?_; rw [Int.toNat_natCast])|(refine LA_stop (hK _ _ rfl (LX_copy (i + 1) rfl (by intro q h; cases h; decide) el_c16 rfl rfl ho5 (hs5.sub (Nat.le_of_lt hlt) (Nat.le_refl _)) (by omega) (by rw [List.take_of_length_le (by omega : cs.length ≤ n * 1)]; exact fun c hc => hst c (List.mem_of_mem_take hc)) (fun w6 w7 e6 ho7 hg7 => ?_))); clear hK K; dsimp only [vals]; refine LX_la (by kernel_rfl) (fun K hK => ?_))|refine wOp ?_|(refine wCm ?_ ?_<;>intro hc)|(refine wNl hK ?_;clear hK K))|(refine oCX ?_;first|refine CX_regionT 8 (by kernel_rfl) (by kernel_rfl) (by decide) (fun K hK => ?_))|refine wG ?_|(refine wCR ?_;intro K hK)|fail)
      refine PX_ret1 rfl (fun v8 w8 e8 h8 => ?_)
      obtain rfl : v8 = _ := h8
      refine ⟨_, rfl, ?_, ?_, .inr fun k hk => Nat.le_trans e2.size (Own.lt ho7 k hk).1⟩
      · have h9 := ho7.ext e8
        have ed : (cs.take (n * 1)).drop (i * 1) = cs.drop (i * 1) := by rw [List.take_of_length_le (by omega)]
        rw [ed, splice_new hlt (by rw [List.length_take]; exact Nat.min_eq_left (by rw [hcl]; exact Nat.mul_le_mul_right _ hi)) (by omega) hzl (by rw [List.length_drop, hcl, Nat.sub_mul])] at h9
        exact Own.base h9 (Nat.zero_le _)
      · exact Fr.grown (ext_grown _ (((x5.trans e6).grown hg7 (fun q hq => Nat.le_trans e2.size (Own.lt ho3 q hq).1)).trans e8))
end Go.Proofs.YtfcioiobhpcngaaGreatDoor
end
section
set_option linter.unusedSimpArgs false
set_option linter.unusedVariables false
set_option maxRecDepth 3000
namespace Go.Proofs.YtfcioiobhpcngaaGreatDoor
open Go.LA Go.ArrP Go.RowKit
theorem el_cct : El Tryz.prog 53 65 (.agg #[.int .u8 0, .slice none 0 0, .slice none 0 0, .slice none 0 0]) 4 80 := ⟨rfl, rfl, rfl, by decide⟩
theorem clone_cct (w : World) (v : Value) (n : Nat) (cs : List Value) (h : SlC w v n 4 cs) (h1 : ∀ u ∈ cs, u.oneCell' = true) (hb : n * 80 ≤ 140737488355328) : Fc Tryz.prog 56 #[v] w (Ret w (.pred (ownC w.heap.size 65 4 n cs))) := by
  obtain ⟨h0, a, cap, rfl, hc, hm, hn, hcs⟩ := id h
  have hlen := h.len
  cases a with
  | none =>
    obtain rfl := hn rfl
    obtain rfl : n = 0 := by omega
    obtain rfl : cs = [] := List.eq_nil_of_length_eq_zero (by omega)
    refine Fc.of (args := [_]) Tryz.func56 rfl rfl Tryz.ntmps56 (Nat.le_of_ble_eq_true rfl) ?_
    repeat' (first|(refine oLA ?_;first|refine LA_pass rfl ?_|refine LA_binV (c := .bool true) rfl rfl rfl (fun _ => rfl) ?_|refine wOp ?_|(refine wCm ?_ ?_<;>intro hc)|(refine wNl hK ?_;clear hK K))|refine wG ?_|(refine wCR ?_;intro K hK)|(refine oPX ?_;first|exact PX_retP rfl rfl (Ext.refl _) (fun u w2 e2 hu => by obtain rfl : u = _ := hu; exact Own.nil))|fail)
  | some a =>
    refine Fc.of (args := [_]) Tryz.func56 rfl rfl Tryz.ntmps56 (Nat.le_of_ble_eq_true rfl) ?_
    repeat' (first|(refine oLA ?_;first|refine LA_pass rfl ?_|refine LA_binV (c := .bool false) rfl rfl rfl (fun _ => rfl) ?_|refine LA_lit0 65 (s := 4) rfl (fun _ => by kernel_rfl) ?_|(refine LA_stop (hK _ _ (LX_pick 5 rfl (fun v5 w5 e5 h5 => ?_))); clear hK K; have h6 := h.ext e5; have ho : Own w.heap.size _ _ w5 v5 0 [] := h5; refine LX_la (by kernel_rfl) (fun K hK => ?_))|(refine LA_stop (hK _ _ (LX_append rfl (by decide) el_cct rfl ho rfl (HasC.val h6) h1 (by rw [Nat.zero_add]; unfold maxLen; omega) (by rw [Nat.zero_add]; exact hb) e5.size (fun v' w2 w3 he2 ho3 hg3 => ?_))); clear hK K; dsimp only [vals]; refine LX_la (by kernel_rfl) (fun K hK => ?_))|refine wOp ?_|(refine wCm ?_ ?_<;>intro hc)|(refine wNl hK ?_;clear hK K))|refine wG ?_|(refine wCR ?_;intro K hK)|fail)
    exact PX_retP rfl rfl ((e5.trans he2).grown hg3 (fun q hq => (Own.lt ho q hq).1)) (fun u w4 e4 hu => by
      obtain rfl : u = _ := hu
      have h9 : Own w.heap.size 65 4 w3 u n cs := by simpa using ho3
      exact h9.ext e4)
theorem ov_cct {w : World} {ba bb na ca nb cb ga gb : Nat} {xs ys : List Value} (ha : Own ba 65 4 w (.slice (some ⟨ga, 0, none⟩) na ca) na xs) (hb : Own bb 65 4 w (.slice (some ⟨gb, 0, none⟩) nb cb) nb ys) (hcb : 0 < cb) (hne : ga ≠ gb) (o l' c' : Nat) :
    (callFunc 131 #[.slice (some ⟨ga, 0, none⟩) na ca, .slice (some ⟨gb, o, none⟩) l' c']).run Tryz.prog w = .ok (.value (.bool false)) w := by
  rw [run_callFunc_extern Tryz.func131 (by kernel_rfl) (by kernel_rfl) (by kernel_rfl) (e := Extern.SlicesOverlaps.overlaps #[53, 53] #[4]) (by kernel_rfl), run_overlaps_own rfl (fun _ => rfl) (by decide) ha hb hcb hne]
  rfl
theorem ins2_cct (w : World) (base bu : Nat) (v u : Value) (n i : Nat) (cs xs : List Value) (ho : Own base 65 4 w v n cs) (hu : Own bu 65 4 w u 1 xs) (hi : i ≤ n) 
    (hap : ∀ k, u.ownBlock = some k → v.ownBlock ≠ some k) (h1c : ∀ c ∈ cs, c.oneCell' = true) (h1 : ∀ c ∈ xs, c.oneCell' = true) (hn : n ≤ 70368744177663) (hb : (n + 1) * 80 ≤ 140737488355328) :
    Fc Tryz.prog 89 #[v, .int .i64 i, u] w (fun en w' => ∃ v', en = .returned v' ∧ Own 0 65 4 w' v' (n + 1) (cs.take (i * 4) ++ xs ++ cs.drop (i * 4)) ∧ Fr (fun k => v.ownBlock = some k) w w' ∧ LocR w v v') := by
  have hs := ho.slC
  have hsu := hu.slC
  have hcl := ho.1
  have hxl := hu.1
  by_cases hin : i = n
  · refine Fc.of (args := [_, _, _]) Tryz.func89 rfl rfl Tryz.ntmps89 (Nat.le_of_ble_eq_true rfl) ?_
    subst hin
    repeat' (first|(refine oLA ?_;first|refine LA_pass rfl ?_|(refine LA_stop (hK _ _ (LX_appendL rfl (by decide) el_cct rfl ho rfl (HasC.val hsu) h1 (by unfold maxLen; omega) hb (fun v' w2 w3 he2 ho3 hg3 hl3 => ?_))); clear hK K; dsimp only [vals]; refine LX_la (by kernel_rfl) (fun K hK => ?_))|refine wOp ?_|(refine wCm ?_ ?_<;>intro hc)|(refine wNl hK ?_;clear hK K))|refine wG ?_|(refine wCR ?_;intro K hK)|fail)
    refine PX_ret1 rfl (fun v5 w5 e5 h5 => ?_)
    obtain rfl : v5 = _ := h5
    refine ⟨_, rfl, ?_, ?_, hl3.le he2.size⟩
    · rw [List.take_of_length_le (by omega), List.drop_of_length_le (by omega), List.append_nil]
      exact ho3.ext e5
    · exact Fr.grown (grown_then (grown_ext he2 hg3.grownBy) e5)
  · have hlt : i < n := by omega
    rcases ho.2 with ⟨_, h0⟩ | ⟨gb, cap, cur, rfl, hgb, hg, hnc, hm, hsz, htake⟩
    · omega
    rcases hu.2 with ⟨_, h0⟩ | ⟨gu, capu, curu, rfl, hgub, hgu, hncu, hmu, hszu, htakeu⟩
    · omega
    have hne : gu ≠ gb := fun e => hap gu rfl (by rw [e]; rfl)
    have hst : ∀ c ∈ cs.drop (i * 4), c.oneCell' = true := fun c hc => h1c c (List.mem_of_mem_drop hc)
    by_cases hroom : n + 1 ≤ cap
    · obtain ⟨zs, hzl, hmore⟩ := ho.more 1 hroom
      have hsl := hmore.slC
      have hsub : subS (.slice (some ⟨gb, 0, none⟩) (n + 1) cap) (i + 1) (n + 1) 4 = .slice (some ⟨gb, (i + 1) * 4, none⟩) (n + 1 - (i + 1)) (cap - (i + 1)) := sub_lit (by omega)
      refine Fc.of (args := [_, _, _]) Tryz.func89 rfl rfl Tryz.ntmps89 (Nat.le_of_ble_eq_true rfl) ?_
      repeat' (first|(refine oLA ?_;first|refine LA_pass rfl ?_|refine LA_cap rfl rfl rfl ?_|(refine LA_sliceC rfl _ rfl rfl rfl (by omega) (by omega) (by omega) (fun _ => rfl) ?_; rw [show ((n : Int) + ((1 : Nat) : Int)).toNat = n + 1 by omega])|(refine LA_sliceL rfl _ rfl rfl (HasC.val hsl) rfl (by omega) (by omega) (by exact fun _ => rfl) ?_; rw [show ((i : Int) + ((1 : Nat) : Int)).toNat = i + 1 by omega])|refine LA_ext2 (f := 131) (c := .bool false) rfl rfl rfl rfl (fun w2 e2 => by rw [hsub]; exact ov_cct (hu.ext e2) (ho.ext e2) (by omega) hne _ _ _) ?_|(refine LA_stop (hK _ _ rfl (LX_copy (i + 1) rfl (by intro q h; cases h; decide) el_cct rfl rfl hmore (hsl.sub (Nat.le_of_lt (by omega)) (Nat.le_refl _)) (by omega) (by rw [room_src hlt hcl hzl]; exact hst) (fun w2 w3 e2 ho3 hg3 => ?_))); clear hK K; dsimp only [vals]; have hu3 := ((hu.ext e2).kept hg3 (.inr (fun q => hne (by injection q)))); refine LX_la (by kernel_rfl) (fun K hK => ?_))|(refine LA_stop (hK _ _ (LX_copy i rfl (by intro q h; cases h; decide) el_cct rfl rfl ho3 hu3.slC (by omega) (fun c hc => h1 c (List.mem_of_mem_take hc)) (fun w4 w5 e4 ho5 hg5 => ?_))); clear hK K; dsimp only [vals]; refine LX_la (by kernel_rfl) (fun K hK => ?_))|refine wOp ?_|(refine wCm ?_ ?_<;>intro hc)|(refine wNl hK ?_;clear hK K))|(refine oCX ?_;first|refine CX_regionT 8 (by kernel_rfl) (by kernel_rfl) (by decide) (fun K hK => ?_))|refine wG ?_|(refine wCR ?_;intro K hK)|fail)
      refine PX_ret1 rfl (fun v6 w6 e6 h6 => ?_)
      obtain rfl : v6 = _ := h6
      refine ⟨_, rfl, ?_, ?_, LocR.refl⟩
      · have h7 := ho5.ext e6
        rw [splice_room hlt hcl (by omega) hzl] at h7
        exact h7.base (Nat.zero_le _)
      · exact Fr.grown (grown_then (grown_trans (grown_ext e2 hg3) (grown_ext e4 hg5)) e6)
    · refine Fc.of (args := [_, _, _]) Tryz.func89 rfl rfl Tryz.ntmps89 (Nat.le_of_ble_eq_true rfl) ?_
      repeat' (first|(refine oLA ?_;first|refine LA_pass rfl ?_|refine LA_cap rfl rfl rfl ?_|(refine LA_sliceC rfl _ rfl rfl rfl (by omega) (by omega) (by omega) (fun _ => rfl) ?_; rw [Int.toNat_natCast])|(refine LA_stop (hK _ _ (LX_appendMake (kn := n + 1 - i) rfl (by decide) el_cct rfl rfl rfl (own_take ho i hi).slC (by omega) (by omega) (by omega) (by decide) (by rw [show i + (n + 1 - i) = n + 1 by omega]; exact hb) (by omega) (fun v' w2 w3 zs e2 hzl hz1 ho3 e3 => ?_))); clear hK K; rw [show i + (n + 1 - i) = n + 1 by omega] at ho3; have x3 := e2.trans e3; have hs3 := hs.ext x3; dsimp only [vals]; refine LX_la (by kernel_rfl) (fun K hK => ?_))|(refine LA_sliceL rfl _ rfl rfl (HasC.ownV ho3) rfl (by omega) (by omega) (by exact fun _ => rfl) ?_; rw [Int.toNat_natCast])|(refine LA_stop (hK _ _ (LX_copy i rfl (by intro q h; cases h; decide) el_cct rfl rfl ho3 (hu.ext x3).slC (by omega) (fun c hc => h1 c (List.mem_of_mem_take hc)) (fun w4 w5 e4 ho5 hg5 => ?_))); clear hK K; have x5 := (x3.trans e4).grown hg5 (fun q hq => Nat.le_trans e2.size (Own.lt ho3 q hq).1); have hs5 := hs.ext x5; dsimp only [vals]; refine LX_la (by kernel_rfl) (fun K hK => ?_))|(refine LA_sliceL rfl _ rfl rfl (HasC.ownV ho5) rfl (by omega) (by omega) (by exact fun _ => rfl) ?_; rw [show ((i : Int) + ((1 : Nat) : Int)).toNat = i + 1 by omega])|(refine LA_sliceL rfl _ rfl rfl (HasC.val hs5) rfl (by omega) (by omega) (by exact fun _ => rfl) ?_; rw [Int.toNat_natCast])|(refine LA_stop (hK _ _ rfl (LX_copy (i + 1) rfl (by intro q h; cases h; decide) el_cct rfl rfl ho5 (hs5.sub (Nat.le_of_lt hlt) (Nat.le_refl _)) (by omega) (by rw [List.take_of_length_le (by omega : cs.length ≤ n * 4)]; exact fun c hc => hst c (List.mem_of_mem_take hc)) (fun w6 w7 e6 ho7 hg7 => ?_))); clear hK K; dsimp only [vals]; refine LX_la (by kernel_rfl) (fun K hK => ?_))|refine wOp ?_|(refine wCm ?_ ?_<;>intro hc)|(refine wNl hK ?_;clear hK K))|(refine oCX ?_;first|refine CX_regionT 8 (by kernel_rfl) (by kernel_rfl) (by decide) (fun K hK => ?_))|refine wG ?_|(refine wCR ?_;intro K hK)|fail)
      refine PX_ret1 rfl (fun v8 w8 e8 h8 => ?_)
      obtain rfl : v8 = _ := h8
      refine ⟨_, rfl, ?_, ?_, .inr fun k hk => Nat.le_trans e2.size (Own.lt ho7 k hk).1⟩
      · have h9 := ho7.ext e8
        have ed : (cs.take (n * 4)).drop (i * 4) = cs.drop (i * 4) := by rw [List.take_of_length_le (by omega)]
        rw [ed, splice_new hlt (by rw [List.length_take]; exact Nat.min_eq_left (by rw [hcl]; exact Nat.mul_le_mul_right _ hi)) (by omega) hzl (by rw [List.length_drop, hcl, Nat.sub_mul])] at h9
        exact Own.base h9 (Nat.zero_le _)
      · exact Fr.grown (ext_grown _ (((x5.trans e6).grown hg7 (fun q hq => Nat.le_trans e2.size (Own.lt ho3 q hq).1)).trans e8))
abbrev tS : Nat := 55
abbrev tK : Nat := 72
abbrev Qd := Int × Value × Value × Value
def qv (q : Qd) : Value := .agg #[.int .u8 q.1, q.2.1, q.2.2.1, q.2.2.2]
def qcs (q : Qd) : List Value := [.int .u8 q.1, q.2.1, q.2.2.1, q.2.2.2]
def q0 : Qd := (0, nilS, nilS, nilS)
def cellsQ : List Qd → List Value
  | [] => []
  | q :: r => .int .u8 q.1 :: q.2.1 :: q.2.2.1 :: q.2.2.2 :: cellsQ r
theorem cellsQ_app : ∀ a b, cellsQ (a ++ b) = cellsQ a ++ cellsQ b
  | [], b => rfl
  | x :: a, b => by simp only [List.cons_append, cellsQ, cellsQ_app a b]
theorem cellsQ_at : ∀ (a : List Qd) (j : Nat), j < a.length → ((cellsQ a).drop (j * 4)).take 4 = qcs (a.getD j q0)
  | [], j, h => by simp at h
  | x :: a, 0, _ => rfl
  | x :: a, j + 1, h => by
    have ih := cellsQ_at a j (by simpa using h)
    rw [show (j + 1) * 4 = j * 4 + 4 by omega]
    exact ih
theorem cellsQ_take : ∀ (a : List Qd) (j : Nat), cellsQ (a.take j) = (cellsQ a).take (j * 4)
  | [], j => by simp [cellsQ]
  | x :: a, 0 => by simp [cellsQ]
  | x :: a, j + 1 => by
    rw [show (j + 1) * 4 = j * 4 + 1 + 1 + 1 + 1 by omega]
    simp only [List.take_succ_cons, cellsQ, cellsQ_take a j]
theorem cellsQ_drop : ∀ (a : List Qd) (j : Nat), cellsQ (a.drop j) = (cellsQ a).drop (j * 4)
  | [], j => by simp [cellsQ]
  | x :: a, 0 => by simp [cellsQ]
  | x :: a, j + 1 => by
    rw [show (j + 1) * 4 = j * 4 + 1 + 1 + 1 + 1 by omega]
    simp only [List.drop_succ_cons, cellsQ, cellsQ_drop a j]
theorem cellsQ_set (a : List Qd) (j : Nat) (q : Qd) (h : j < a.length) : cellsQ (a.set j q) = (cellsQ a).take (j * 4) ++ qcs q ++ (cellsQ a).drop (j * 4 + 4) := by
  rw [List.set_eq_take_append_cons_drop, if_pos h, cellsQ_app, cellsQ_take, show q :: a.drop (j + 1) = [q] ++ a.drop (j + 1) from rfl, cellsQ_app, cellsQ_drop, show (j + 1) * 4 = j * 4 + 4 by omega, List.append_assoc]
  rfl
theorem cellsQ_mem : ∀ (a : List Qd), ∀ u ∈ cellsQ a, ∃ j, j < a.length ∧ u ∈ qcs (a.getD j q0)
  | [], u, h => by cases h
  | x :: a, u, h => by
    have h' : u ∈ qcs x ++ cellsQ a := h
    rcases List.mem_append.1 h' with h1 | h1
    · exact ⟨0, by simp, h1⟩
    · obtain ⟨j, h2, h3⟩ := cellsQ_mem a u h1
      exact ⟨j + 1, by simpa using h2, h3⟩
theorem Cn.qd {A : Nat → Prop} {w : World} {v : Value} {p : Nat → Bool} {kk : Int} (h : Cn A w v p kk) : ∃ q : Qd, v = qv q ∧ (∀ u ∈ qcs q, u.oneCell' = true) := by
  obtain ⟨kd, va, vw, vr, rfl, -, -, -, -, -, -, h1⟩ := h.parts
  exact ⟨(kd, va, vw, vr), rfl, h1⟩
theorem Cn.mono {A A' : Nat → Prop} {w : World} {v : Value} {p : Nat → Bool} {kk : Int} (h : Cn A w v p kk) (hA : ∀ k, k < w.heap.size → A k → A' k) : Cn A' w v p kk := by
  obtain ⟨hp, ⟨h1, kd, va, h2, h3, h4⟩ | h | h⟩ := h
  · exact ⟨hp, .inl ⟨h1, kd, va, h2, h3, h4.1, fun b hb => hA b (Own.lt h4.1 b hb).2 (h4.2 b hb)⟩⟩
  · exact ⟨hp, .inr (.inl h)⟩
  · exact ⟨hp, .inr (.inr h)⟩
def Plain (A R : Nat → Prop) (w : World) : Prop := ∀ k, R k → ∃ cur e j, w.heap[k]? = some (.cells cur e j) ∧ 22 ≠ e ∧ 96 ≠ e ∧ (A k → 72 ≠ e)
theorem Cn.fr {A R : Nat → Prop} {w w' : World} {v : Value} {p : Nat → Bool} {kk : Int} (h : Cn A w v p kk) (hf : Fr R w w') (hR : Plain A R w) : Cn A w' v p kk := by
  obtain ⟨hp, ⟨h1, kd, va, h2, h3, h4⟩ | ⟨h1, vw, h3, h4⟩ | ⟨h1, vr, h3, h4⟩⟩ := h
  · refine ⟨hp, .inl ⟨h1, kd, va, h2, h3, hf.own h4.1 (fun k hk hr => ?_), h4.2⟩⟩
    obtain ⟨cur, e, j, hb, ne1, ne2, ne3⟩ := hR k hr
    exact Own.apart h4.1 hb (ne3 (h4.2 k hk)) hk
  · refine ⟨hp, .inr (.inl ⟨h1, vw, h3, hf.own h4 (fun k hk hr => ?_)⟩)⟩
    obtain ⟨cur, e, j, hb, ne1, ne2, ne3⟩ := hR k hr
    exact Own.apart h4 hb ne1 hk
  · refine ⟨hp, .inr (.inr ⟨h1, vr, h3, hf.own h4 (fun k hk hr => ?_)⟩)⟩
    obtain ⟨cur, e, j, hb, ne1, ne2, ne3⟩ := hR k hr
    exact Own.apart h4 hb ne2 hk
structure RS (A : Nat → Prop) (w : World) (b : Nat) (kv lv : Value) (p : Nat → Bool) : Prop where
  hb : w.heap[b]? = some (.cells #[kv, lv] tS (0, 0))
  hk : OwnI 0 tK .u16 w kv (keysL p)
  top : ∀ x, TOP ≤ x → p x = false
  hl : ∃ Q : List Qd, Q.length = nk p ∧ Own 0 tC 4 w lv (nk p) (cellsQ Q) ∧ ∀ i, i < nk p → Cn (fun k => A k ∧ kv.ownBlock ≠ some k) w (qv (Q.getD i q0)) (blk p (kp p i)) (kindP (blk p (kp p i)))
def onw (b : Nat) (kv lv : Value) (k : Nat) : Prop := k = b ∨ kv.ownBlock = some k ∨ lv.ownBlock = some k
theorem RS.ext {A : Nat → Prop} {w w' : World} {b : Nat} {kv lv : Value} {p : Nat → Bool} (h : RS A w b kv lv p) (e : Ext w w') : RS A w' b kv lv p := by
  obtain ⟨Q, h1, h2, h3⟩ := h.hl
  exact ⟨e.block h.hb, h.hk.ext e, h.top, Q, h1, h2.ext e, fun i hi => (h3 i hi).ext e⟩
theorem own_type {base e s n : Nat} {w : World} {v : Value} {cs : List Value} (h : Own base e s w v n cs) {k : Nat} (hk : v.ownBlock = some k) : ∃ cur, w.heap[k]? = some (.cells cur e (0, 0)) := by
  rcases h.2 with ⟨h1, h0⟩ | ⟨gb, cap, cur, rfl, hgb, hg, -⟩
  · rw [h1] at hk; cases hk
  · cases hk; exact ⟨cur, hg⟩
theorem RS.lt {A : Nat → Prop} {w : World} {b : Nat} {kv lv : Value} {p : Nat → Bool} (h : RS A w b kv lv p) {k : Nat} (hk : onw b kv lv k) : k < w.heap.size := by
  obtain ⟨Q, h1, h2, h3⟩ := h.hl
  rcases hk with rfl | hk | hk
  · exact blk_lt h.hb
  · exact (Own.lt h.hk k hk).2
  · exact (Own.lt h2 k hk).2
theorem RS.plainA {A A' : Nat → Prop} {w : World} {b : Nat} {kv lv : Value} {p : Nat → Bool} (h : RS A w b kv lv p) (hA : ∀ k, kv.ownBlock = some k → ¬ A' k) : Plain A' (onw b kv lv) w := by
  obtain ⟨Q, h1, h2, h3⟩ := h.hl
  rintro k (rfl | hk | hk)
  · exact ⟨_, _, _, h.hb, by decide, by decide, fun _ => by decide⟩
  · obtain ⟨cur, hc⟩ := own_type h.hk hk
    exact ⟨_, _, _, hc, by decide, by decide, fun ha => absurd ha (hA k hk)⟩
  · obtain ⟨cur, hc⟩ := own_type h2 hk
    exact ⟨_, _, _, hc, by decide, by decide, fun _ => by decide⟩
theorem Plain.mono {A A' R : Nat → Prop} {w : World} (h : Plain A R w) (hA : ∀ k, A' k → A k) : Plain A' R w := fun k hk => by
  obtain ⟨cur, e, j, h1, h2, h3, h4⟩ := h k hk
  exact ⟨cur, e, j, h1, h2, h3, fun ha => h4 (hA k ha)⟩
theorem RS.mono {A A' : Nat → Prop} {w : World} {b : Nat} {kv lv : Value} {p : Nat → Bool} (h : RS A w b kv lv p) (hA : ∀ k, k < w.heap.size → A k → kv.ownBlock ≠ some k → A' k) : RS A' w b kv lv p := by
  obtain ⟨Q, h1, h2, h3⟩ := h.hl
  exact ⟨h.hb, h.hk, h.top, Q, h1, h2, fun i hi => (h3 i hi).mono fun k hk ha => ⟨hA k hk ha.1 ha.2, ha.2⟩⟩
theorem RS.fr {A R : Nat → Prop} {w w' : World} {b : Nat} {kv lv : Value} {p : Nat → Bool} (h : RS A w b kv lv p) (hf : Fr R w w') (hR : Plain A R w) (hB : ∀ k, onw b kv lv k → ¬ R k) : RS A w' b kv lv p := by
  obtain ⟨Q, h1, h2, h3⟩ := h.hl
  exact ⟨hf.at h.hb (hB b (.inl rfl)), hf.own h.hk (fun k hk => hB k (.inr (.inl hk))), h.top, Q, h1, hf.own h2 (fun k hk => hB k (.inr (.inr hk))), fun i hi => (h3 i hi).fr hf (hR.mono fun k hk => hk.1)⟩
def RSet (B A : Nat → Prop) (w : World) (v : Value) (p : Nat → Bool) : Prop := ∃ b kv lv, v = .pointer (some ⟨b, 0, none⟩) ∧ RS A w b kv lv p ∧ ∀ k, onw b kv lv k → B k
theorem RSet.ext {B A : Nat → Prop} {w w' : World} {v : Value} {p : Nat → Bool} (h : RSet B A w v p) (e : Ext w w') : RSet B A w' v p := by
  obtain ⟨b, kv, lv, h1, h2, h3⟩ := h
  exact ⟨b, kv, lv, h1, h2.ext e, h3⟩
def rsP (B A : Nat → Prop) (p : Nat → Bool) : AV := ⟨fun v w => RSet B A w v p, fun _ _ _ e h => h.ext e⟩
theorem RSet.mono {B A B' A' : Nat → Prop} {w : World} {v : Value} {p : Nat → Bool} (h : RSet B A w v p) (hB : ∀ k, k < w.heap.size → B k → B' k) (hA : ∀ k, k < w.heap.size → A k → A' k) : RSet B' A' w v p := by
  obtain ⟨b, kv, lv, h1, h2, h3⟩ := h
  exact ⟨b, kv, lv, h1, h2.mono fun k hk ha _ => hA k hk ha, fun k hk => hB k (h2.lt hk) (h3 k hk)⟩
theorem RSet.tt {B A : Nat → Prop} {w : World} {v : Value} {p : Nat → Bool} (h : RSet B A w v p) : RSet TT TT w v p := h.mono (fun _ _ _ => trivial) (fun _ _ _ => trivial)
theorem RSet.fr {B A R : Nat → Prop} {w w' : World} {v : Value} {p : Nat → Bool} (h : RSet B A w v p) (hf : Fr R w w') (hR : Plain A R w) (hB : ∀ k, B k → ¬ R k) : RSet B A w' v p := by
  obtain ⟨b, kv, lv, h1, h2, h3⟩ := h
  exact ⟨b, kv, lv, h1, h2.fr hf hR (fun k hk => hB k (h3 k hk)), h3⟩
def NSet (B A : Nat → Prop) (w : World) (v : Value) (p : Nat → Bool) : Prop := (v = .pointer none ∧ p = fun _ => false) ∨ RSet B A w v p
theorem NSet.ext {B A : Nat → Prop} {w w' : World} {v : Value} {p : Nat → Bool} (h : NSet B A w v p) (e : Ext w w') : NSet B A w' v p := h.imp id (fun h => h.ext e)
theorem RSet.n {B A : Nat → Prop} {w : World} {v : Value} {p : Nat → Bool} (h : RSet B A w v p) : NSet B A w v p := .inr h
theorem ne_none (k : Nat) : ne (fun _ => false) k = false := by
  cases h : ne (fun _ => false) k
  · rfl
  · obtain ⟨i, _, h2⟩ := ne_iff.1 h; cases h2
theorem nk_none : nk (fun _ => false) = 0 := cnt_zero _ (fun i _ => ne_none i)
theorem keys_none : keysL (fun _ => false) = [] := List.eq_nil_of_length_eq_zero (by rw [keysL_len, nk_none])
theorem RS.turned {A : Nat → Prop} {w w' : World} {b : Nat} {kv lv kv' lv' : Value} {p p' : Nat → Bool} {Q' : List Qd} (hS : RS A w b kv lv p) (hf : Fr (onw b kv lv) w w') (hb : w'.heap[b]? = some (.cells #[kv', lv'] tS (0, 0))) (hk : OwnI 0 tK .u16 w' kv' (keysL p'))
    (hn : Q'.length = nk p') (hl : Own 0 tC 4 w' lv' (nk p') (cellsQ Q')) (htop : ∀ x, TOP ≤ x → p' x = false) (hloc : LocR w kv kv')
    (hC : ∀ i, i < nk p' → Cn (fun k => A k ∧ kv.ownBlock ≠ some k) w (qv (Q'.getD i q0)) (blk p' (kp p' i)) (kindP (blk p' (kp p' i)))) : RS A w' b kv' lv' p' := by
  refine ⟨hb, hk, htop, Q', hn, hl, fun i hi => ?_⟩
  refine Cn.fr ((hC i hi).mono (A' := fun k => A k ∧ kv'.ownBlock ≠ some k ∧ kv.ownBlock ≠ some k) fun k hlt ha => ⟨ha.1, fun h => ?_, ha.2⟩) hf (hS.plainA fun k h1 h2 => h2.2.2 h1) |>.mono fun k _ h => ⟨h.1, h.2.1⟩
  rcases hloc with h' | h'
  · exact ha.2 (h' ▸ h)
  · have := h' k h; omega
theorem RS.new {A : Nat → Prop} {w : World} {b : Nat} (hb : w.heap[b]? = some (.cells #[nilS, nilS] tS (0, 0))) : RS A w b nilS nilS (fun _ => false) :=
  ⟨hb, by rw [keys_none]; exact OwnI.nil, fun _ _ => rfl, [], by rw [nk_none]; rfl, by rw [nk_none]; exact Own.nil, fun i hi => by rw [nk_none] at hi; omega⟩
end Go.Proofs.YtfcioiobhpcngaaGreatDoor
end
section
set_option linter.unusedSimpArgs false
set_option linter.unusedVariables false
set_option maxRecDepth 3000
namespace Go.Proofs.YtfcioiobhpcngaaGreatDoor
open Go.LA Go.ArrP Go.RowKit
section
variable {P : Program} {l : List Oper} {N : Nn} {wb : World} {K : List Oper → Env → Prop} {rest : List Oper} {E : Env}
variable {d : Tmp} {ty t t' : TypeId} {pos : String} {after : Array Edge} {g : Option (Nat × Bool)} {x y z : Operand} {k k' : IntKind}
theorem oNc (h : LA P l wb K (⟨some d, .nilCheck x, ty, pos, after, g⟩ :: rest) E) : LA P l wb K (⟨some d, .nilCheck x, ty, pos, after, g⟩ :: rest) E := h
theorem oEq {op : BinOp} (h : LA P l wb K (⟨some d, .binOp op 24 x y t', ty, pos, after, g⟩ :: rest) E) : LA P l wb K (⟨some d, .binOp op 24 x y t', ty, pos, after, g⟩ :: rest) E := h
end
variable {A B : Nat → Prop}
theorem new_c (w : World) (hB : Fsh B w) : Fc Tryz.prog 11 #[] w (Ret w (.pred (rsP B A (fun _ => false)))) := by
  refine Fc.of (args := []) Tryz.func11 rfl rfl Tryz.ntmps11 (Nat.le_of_ble_eq_true rfl) ?_
  repeat' (first|(refine oLA ?_;first|refine LA_pass rfl ?_|refine LA_build0 (c := .agg #[nilS, nilS]) rfl (fun _ => by kernel_rfl) ?_|refine LA_box rfl rfl ?_|refine wOp ?_|(refine wCm ?_ ?_<;>intro hc)|(refine wNl hK ?_;clear hK K))|refine wG ?_|(refine wCR ?_;intro K hK)|fail)
  all_goals skip
  refine PX_retP rfl rfl (Ext.refl _) (fun v w' e hv => ?_)
  obtain ⟨b, hb, rfl, hh⟩ := hv
  exact ⟨b, nilS, nilS, rfl, RS.new hh, fun k hk => by
    rcases hk with rfl | hk | hk
    · exact hB _ hb
    · cases hk
    · cases hk⟩
theorem find_s {w : World} {v : Value} {p : Nat → Bool} (h : NSet B A w v p) {k : Nat} (hk : k < 65536) : Fc Tryz.prog 87 #[v, .int .u16 k] w (Ret w (.tup2 (.val (.int .i64 (cnt (ne p) k))) (.val (.bool (ne p k))))) := by
  rcases h with ⟨rfl, rfl⟩ | ⟨b, kv, lv, rfl, hS, -⟩
  · rw [ne_none, cnt_zero k (fun i _ => ne_none i)]
    refine Fc.of (args := [_, _]) Tryz.func87 rfl rfl Tryz.ntmps87 (Nat.le_of_ble_eq_true rfl) ?_
    repeat' (first|(refine oLA ?_;first|refine LA_pass rfl ?_|(refine oEq ?_; refine LA_binV (c := .bool true) rfl rfl rfl (fun _ => rfl) ?_)|refine wOp ?_|(refine wCm ?_ ?_<;>intro hc)|(refine wNl hK ?_;clear hK K))|refine wG ?_|(refine wCR ?_;intro K hK)|fail)
    all_goals skip
    all_goals exact PX_retE2 rfl rfl rfl (Ext.refl _) rfl rfl
  · have hn : (keysL p).length ≤ 4611686018427387903 := by rw [keysL_len]; have := nk_le p; omega
    have hb : bsS (keysL p) (k : Int) = cnt (ne p) k := bsS_listS (ne p) k (by omega)
    have hf : foundS (keysL p) (k : Int) = ne p k := by
      rw [found_iff _ (keysL_inc p)]; exact memb_listS (ne p) hk
    refine Fc.of (args := [_, _]) Tryz.func87 rfl rfl Tryz.ntmps87 (Nat.le_of_ble_eq_true rfl) ?_
    repeat' (first|(refine oLA ?_;first|refine LA_pass rfl ?_|(refine oEq ?_; refine LA_binV (c := .bool false) rfl rfl rfl (fun _ => rfl) ?_)|(refine oNc ?_; refine LA_nilCheck rfl rfl ?_)|(refine oF 0 ?_; refine LA_fieldAddr (a' := ⟨b, 0, none⟩) rfl rfl (fun _ => rfl) ?_)|(refine oF 1 ?_; refine LA_fieldAddr (a' := ⟨b, 1, none⟩) rfl rfl (fun _ => rfl) ?_)|(refine oLt 52 ?_; refine LA_loadB (c := kv) rfl (fun _ => rfl) rfl hS.hb rfl ?_)|(refine oLt 53 ?_; refine LA_loadB (c := lv) rfl (fun _ => rfl) rfl hS.hb rfl ?_)|refine wOp ?_|(refine wCm ?_ ?_<;>intro hc)|(refine oCv ?_;first|(refine oC 128 ?_; refine LA_call2 (f := 128) rfl rfl rfl rfl  (.tup2 (.val (.int .i64 (bsS (keysL p) k))) (.val (.bool (foundS (keysL p) k)))) (by intro u1 u2 w e hu1 hu2; (try obtain rfl : u1 = _ := hu1); (try obtain rfl : u2 = _ := hu2); exact bs_c _ _ _ _ (hS.hk.ext e).slI hn) ?_))|(refine wNl hK ?_;clear hK K))|refine wG ?_|(refine wCR ?_;intro K hK)|fail)
    all_goals skip
    all_goals exact PX_retE2 rfl rfl rfl (Ext.refl _) (by rw [hb]) (by rw [hf])
theorem kind_none : kindP (fun _ => false) = 1 := by
  unfold kindP
  rw [cnt_zero (p := fun _ => false) 65536 (fun i _ => rfl), cnt_zero (p := startsS fun _ => false) 65536 (fun i _ => rfl)]; decide
theorem get_s {w : World} {v : Value} {p : Nat → Bool} (h : NSet B A w v p) {k : Nat} (hk : k < 65536) : Fc Tryz.prog 47 #[v, .int .u16 k] w (Ret w (.pred (cnP A (blk p k) (kindP (blk p k))))) := by
  have hf : ∀ w', Ext w w' → _ := fun w' e => find_s (h.ext e) hk
  cases hn : ne p k
  · rw [hn] at hf
    have h1 : kindP (blk p k) = 1 := by rw [blk_none hn]; exact kind_none
    rw [h1, blk_none hn]
    refine Fc.of (args := [_, _]) Tryz.func47 rfl rfl Tryz.ntmps47 (Nat.le_of_ble_eq_true rfl) ?_
    repeat' (first|(refine oLA ?_;first|refine LA_pass rfl ?_|(refine oAl ?_; refine LA_alloc rfl (fun _ => rfl) ?_)|refine LA_build0 (c := .agg #[.int .u8 0, nilS, nilS, nilS]) rfl (fun _ => by kernel_rfl) ?_|(refine LA_stop (hK _ _ (LX_put (φ := cnP A (fun _ => false) 1) (w0 := w) rfl rfl rfl lays_cn (fun v' w' e hv => by obtain rfl : v' = _ := hv; exact Cn.zero) rfl (fun _ => rfl) (Ext.refl _) (fun w' e' => ?_))); clear hK K)|refine wOp ?_|(refine wCm ?_ ?_<;>intro hc)|(refine oCv ?_;first|(refine oC 87 ?_; refine LA_call2 (f := 87) rfl rfl rfl rfl  (.tup2 (.val (.int .i64 (cnt (ne p) k))) (.val (.bool false))) (by intro u1 u2 w e hu1 hu2; (try obtain rfl : u1 = _ := hu1); (try obtain rfl : u2 = _ := hu2); exact hf _ e) ?_))|(refine wNl hK ?_;clear hK K))|refine wG ?_|(refine wCR ?_;intro K hK)|fail)
    all_goals skip
    all_goals exact PX_retC rfl rfl rfl rfl rfl (by assumption)
  · obtain ⟨i1, i2⟩ := kp_of hk hn
    obtain ⟨i, hi⟩ : ∃ i, i = cnt (ne p) k := ⟨_, rfl⟩
    rw [← hi] at i1 i2
    rw [hn] at hf
    rcases h with ⟨rfl, rfl⟩ | ⟨b, kv, lv, rfl, hS, -⟩
    · rw [ne_none] at hn; cases hn
    obtain ⟨Q, q1, q2, q3⟩ := hS.hl
    have hcn := q3 i i1
    rw [i2] at hcn
    replace hcn := hcn.mono (A' := A) (fun k _ h => h.1)
    have hat := cellsQ_at Q i (by omega)
    rw [← hi] at hf
    clear hi q3
    refine Fc.of (args := [_, _]) Tryz.func47 rfl rfl Tryz.ntmps47 (Nat.le_of_ble_eq_true rfl) ?_
    repeat' (first|(refine oLA ?_;first|refine LA_pass rfl ?_|(refine oAl ?_; refine LA_alloc rfl (fun _ => rfl) ?_)|(refine oNc ?_; refine LA_nilCheck rfl rfl ?_)|(refine oF 0 ?_; refine LA_fieldAddr (a' := ⟨b, 0, none⟩) rfl rfl (fun _ => rfl) ?_)|(refine oF 1 ?_; refine LA_fieldAddr (a' := ⟨b, 1, none⟩) rfl rfl (fun _ => rfl) ?_)|(refine oLt 52 ?_; refine LA_loadB (c := kv) rfl (fun _ => rfl) rfl hS.hb rfl ?_)|(refine oLt 53 ?_; refine LA_loadB (c := lv) rfl (fun _ => rfl) rfl hS.hb rfl ?_)|(refine oI ?_; refine LA_indexC (s := 4) rfl _ rfl (fun _ => rfl) rfl (HasC.ownV q2) rfl i rfl i1 ?_; rw [hat])|(refine oLd ?_; refine LA_loadC (cs := qcs _) rfl (fun _ => rfl) (fun _ => rfl) rfl ?_)|(refine LA_stop (hK _ _ (LX_put (φ := cnP A (blk p k) (kindP (blk p k))) (w0 := w) rfl rfl rfl lays_cn (fun v' w' e hv => by obtain rfl : v' = _ := hv; exact hcn.ext e) rfl (fun _ => rfl) (Ext.refl _) (fun w' e' => ?_))); clear hK K)|refine wOp ?_|(refine wCm ?_ ?_<;>intro hc)|(refine oCv ?_;first|(refine oC 87 ?_; refine LA_call2 (f := 87) rfl rfl rfl rfl  (.tup2 (.val (.int .i64 i)) (.val (.bool true))) (by intro u1 u2 w e hu1 hu2; (try obtain rfl : u1 = _ := hu1); (try obtain rfl : u2 = _ := hu2); exact hf _ e) ?_))|(refine wNl hK ?_;clear hK K))|refine wG ?_|(refine wCR ?_;intro K hK)|fail)
    all_goals skip
    all_goals exact PX_retC rfl rfl rfl rfl rfl (by assumption)
end Go.Proofs.YtfcioiobhpcngaaGreatDoor
end
section
set_option linter.unusedSimpArgs false
set_option linter.unusedVariables false
set_option maxRecDepth 3000
namespace Go.Proofs.YtfcioiobhpcngaaGreatDoor
open Go.LA Go.ArrP Go.RowKit
variable {A B : Nat → Prop}
theorem getD_set {α : Type} {d : α} {l : List α} {i j : Nat} {x : α} (h : i < l.length) : (l.set i x).getD j d = if j = i then x else l.getD j d := by
  rw [List.getD_eq_getElem?_getD, List.getD_eq_getElem?_getD, List.getElem?_set]
  by_cases e : j = i
  · subst e; simp [h]
  · simp [e, Ne.symm e]
theorem getD_ins {α : Type} {d : α} {l : List α} {i j : Nat} {x : α} (h : i ≤ l.length) : (l.take i ++ [x] ++ l.drop i).getD j d = if j < i then l.getD j d else if j = i then x else l.getD (j - 1) d := by
  have hl : (l.take i).length = i := by rw [List.length_take]; omega
  by_cases h1 : j < i
  · rw [if_pos h1, List.append_assoc, getD_app1 (by omega), List.getD_eq_getElem?_getD, List.getD_eq_getElem?_getD, List.getElem?_take_of_lt h1]
  · rw [if_neg h1]
    by_cases h2 : j = i
    · rw [if_pos h2, getD_app1 (by rw [List.length_append, List.length_singleton]; omega), getD_app2 (by omega), hl, h2, Nat.sub_self]; rfl
    · rw [if_neg h2, getD_app2 (by rw [List.length_append, List.length_singleton]; omega), List.length_append, List.length_singleton, hl, List.getD_eq_getElem?_getD, List.getD_eq_getElem?_getD, List.getElem?_drop]
      congr 2; omega
theorem upd_top {p : Nat → Bool} {k : Nat} {q : Nat → Bool} (h : ∀ x, TOP ≤ x → p x = false) (hk : k < 65536) : ∀ x, TOP ≤ x → upd p k q x = false := fun x hx => by
  unfold upd; rw [if_neg (by rw [TOP_eq] at hx; omega)]; exact h x hx
theorem qv_inj {a b : Qd} (h : qv a = qv b) : a = b := by
  obtain ⟨a1, a2, a3, a4⟩ := a
  obtain ⟨b1, b2, b3, b4⟩ := b
  unfold qv at h
  simpa using h
def Mut (A : Nat → Prop) (w : World) (b : Nat) (kv lv : Value) (p' : Nat → Bool) (w' : World) : Prop := ∃ kv' lv', RS A w' b kv' lv' p' ∧ Fr (onw b kv lv) w w' ∧ LocR w kv kv' ∧ LocR w lv lv'
theorem RS.set {A : Nat → Prop} {w w' : World} {b : Nat} {kv lv : Value} {p : Nat → Bool} (hS : RS A w b kv lv p) {k : Nat} (hk : k < 65536) (hn : ne p k = true) {q : Nat → Bool} (hq : ∀ i, 65536 ≤ i → q i = false) (hq0 : 0 < cnt q 65536) {Q : List Qd} {qc : Qd} (q1 : Q.length = nk p)
    (q3 : ∀ i, i < nk p → Cn (fun k => A k ∧ kv.ownBlock ≠ some k) w (qv (Q.getD i q0)) (blk p (kp p i)) (kindP (blk p (kp p i)))) (hc : Cn (fun j => A j ∧ kv.ownBlock ≠ some j) w (qv qc) q (kindP q))
    (hf : Fr (onw b kv lv) w w') (hb : w'.heap[b]? = some (.cells #[kv, lv] tS (0, 0))) (hkk : OwnI 0 tK .u16 w' kv (keysL p)) (hl : Own 0 tC 4 w' lv (nk p) (cellsQ (Q.set (cnt (ne p) k) qc))) : Mut A w b kv lv (upd p k q) w' := by
  have hkeys := upd_keys p hq hq0 hn
  have hnk : nk (upd p k q) = nk p := by rw [← keysL_len, ← keysL_len, hkeys]
  obtain ⟨i1, i2⟩ := kp_of hk hn
  refine ⟨kv, lv, hS.turned (Q' := Q.set (cnt (ne p) k) qc) hf hb (by rw [hkeys]; exact hkk) (by rw [List.length_set, q1, hnk]) (by rw [hnk]; exact hl) (upd_top hS.top hk) LocR.refl (fun j hj => ?_), hf, LocR.refl, LocR.refl⟩
  rw [hnk] at hj
  rw [upd_kp' p hq hq0 hn, getD_set (by omega)]
  by_cases e : j = cnt (ne p) k
  · rw [if_pos e, e, i2, upd_blk p k hq]; exact hc
  · have hne : kp p j ≠ k := fun h => e (by rw [← h]; exact (kp_cnt (by omega)).symm)
    rw [if_neg e, upd_blk' p q hne]; exact q3 j hj
theorem RS.ins {A : Nat → Prop} {w w' : World} {b : Nat} {kv lv kv' lv' : Value} {p : Nat → Bool} (hS : RS A w b kv lv p) {k : Nat} (hk : k < 65536) (hn : ne p k = false) {q : Nat → Bool} (hq : ∀ i, 65536 ≤ i → q i = false) (hq0 : 0 < cnt q 65536) {Q : List Qd} {qc : Qd} (q1 : Q.length = nk p)
    (q3 : ∀ i, i < nk p → Cn (fun k => A k ∧ kv.ownBlock ≠ some k) w (qv (Q.getD i q0)) (blk p (kp p i)) (kindP (blk p (kp p i)))) (hc : Cn (fun j => A j ∧ kv.ownBlock ≠ some j) w (qv qc) q (kindP q))
    (hf : Fr (onw b kv lv) w w') (hb : w'.heap[b]? = some (.cells #[kv', lv'] tS (0, 0))) (hkk : OwnI 0 tK .u16 w' kv' ((keysL p).take (cnt (ne p) k) ++ [(k : Int)] ++ (keysL p).drop (cnt (ne p) k)))
    (hl : Own 0 tC 4 w' lv' (nk p + 1) (cellsQ (Q.take (cnt (ne p) k) ++ [qc] ++ Q.drop (cnt (ne p) k)))) (hk1 : LocR w kv kv') (hl1 : LocR w lv lv') : Mut A w b kv lv (upd p k q) w' := by
  have hkeys := upd_keysN p hk hq hq0 hn
  have hnk := upd_nk p hk hq hq0 hn
  have hle : cnt (ne p) k ≤ nk p := cnt_mono _ _ (by omega)
  refine ⟨kv', lv', hS.turned (Q' := Q.take (cnt (ne p) k) ++ [qc] ++ Q.drop (cnt (ne p) k)) hf hb (by rw [hkeys]; exact hkk) (by simp only [List.length_append, List.length_take, List.length_drop, List.length_singleton]; omega) (by rw [hnk]; exact hl) (upd_top hS.top hk) hk1 (fun j hj => ?_), hf, hk1, hl1⟩
  rw [hnk] at hj
  rw [upd_kp p hk hq hq0 hn hj, getD_ins (by omega)]
  have hne : ∀ j, j < nk p → kp p j ≠ k := fun j hj h => by
    have := (kp_at hj).2.1
    rw [h, hn] at this; cases this
  split
  · rw [upd_blk' p q (hne j (by omega))]; exact q3 j (by omega)
  · split
    · rw [upd_blk p k hq]; exact hc
    · rw [upd_blk' p q (hne _ (by omega))]; exact q3 _ (by omega)
theorem slot_ne {A : Nat → Prop} {w : World} {b : Nat} {kv lv : Value} {p : Nat → Bool} (hS : RS A w b kv lv p) : kv.ownBlock ≠ some b ∧ lv.ownBlock ≠ some b ∧ ∀ k, kv.ownBlock = some k → lv.ownBlock ≠ some k := by
  obtain ⟨Q, h1, h2, h3⟩ := hS.hl
  refine ⟨Own.apart hS.hk hS.hb (by decide), Own.apart h2 hS.hb (by decide), fun k hk => ?_⟩
  obtain ⟨cur, hc⟩ := own_type hS.hk hk
  exact Own.apart h2 hc (by decide)
theorem own_cells {base e s n : Nat} {w : World} {v : Value} {cs : List Value} (h : Own base e s w v n cs) : v.cells = [v].toArray ∧ v.oneCell' = true := by
  rcases h.2 with ⟨rfl, _⟩ | ⟨g, cap, cur, rfl, _⟩
  · exact ⟨rfl, rfl⟩
  · exact ⟨rfl, rfl⟩
set_option maxHeartbeats 2000000 in
theorem put_s {w : World} {b : Nat} {kv lv vc : Value} {p q : Nat → Bool} (hS : RS A w b kv lv p) {k : Nat} (hk : k < 65536) (hc : Cn (fun j => A j ∧ kv.ownBlock ≠ some j) w vc q (kindP q)) (hq : ∀ i, 65536 ≤ i → q i = false) (hq0 : 0 < cnt q 65536) :
    Fc Tryz.prog 46 #[.pointer (some ⟨b, 0, none⟩), .int .u16 k, vc] w (fun en w' => en = .returned (.tuple #[]) ∧ Mut A w b kv lv (upd p k q) w') := by
  have hf : ∀ w', Ext w w' → _ := fun w' e => find_s (B := TT) (.inr ⟨b, kv, lv, rfl, hS.ext e, fun _ _ => trivial⟩) hk
  obtain ⟨Q, q1, q2, q3⟩ := hS.hl
  obtain ⟨qc, rfl, hqc⟩ := hc.qd
  have nkl := nk_le p
  obtain ⟨i, hi⟩ : ∃ i, i = cnt (ne p) k := ⟨_, rfl⟩
  cases hn : ne p k
  · have hle : i ≤ nk p := by rw [hi]; exact cnt_mono _ _ (by omega)
    have hfin : ∀ w' kv' lv', _ := fun w' kv' lv' => hS.ins (w' := w') (kv' := kv') (lv' := lv') hk hn hq hq0 q1 q3 hc
    rw [← hi] at hf hfin
    rw [hn] at hf
    have hsn := slot_ne hS
    have hkl := keysL_len p
    have hcq : cellsQ (Q.take i ++ [qc] ++ Q.drop i) = (cellsQ Q).take (i * 4) ++ qcs qc ++ (cellsQ Q).drop (i * 4) := by
      rw [cellsQ_app, cellsQ_app, cellsQ_take, cellsQ_drop]; rfl
    have hmap : ((keysL p).map (Value.int .u16)).take (i * 1) ++ [.int .u16 (k : Int)] ++ ((keysL p).map (Value.int .u16)).drop (i * 1) = ((keysL p).take i ++ [(k : Int)] ++ (keysL p).drop i).map (Value.int .u16) := by
      rw [Nat.mul_one, List.map_append, List.map_append, List.map_take, List.map_drop]; rfl
    have hlen : ((keysL p).take i ++ [(k : Int)] ++ (keysL p).drop i).length = nk p + 1 := by
      simp only [List.length_append, List.length_take, List.length_drop, List.length_singleton]; omega
    have h1c : ∀ c ∈ (keysL p).map (Value.int .u16), c.oneCell' = true := fun c hc' => by
      obtain ⟨y, _, rfl⟩ := List.mem_map.1 hc'; rfl
    have h1q : ∀ c ∈ cellsQ Q, c.oneCell' = true := fun c hc' => by
      obtain ⟨j, j1, j2⟩ := cellsQ_mem Q c hc'
      obtain ⟨qd, e1, e2⟩ := (q3 j (by omega)).qd
      have : Q.getD j q0 = qd := qv_inj e1
      exact e2 c (this ▸ j2)
    have hk0 := hS.hk
    unfold OwnI at hk0
    rw [hkl] at hk0
    clear hi
    refine Fc.of (args := [_, _, _]) Tryz.func46 rfl rfl Tryz.ntmps46 (Nat.le_of_ble_eq_true rfl) ?_
    repeat' (first|(refine oLA ?_;first|refine wBk ?_|(refine oBx ?_; refine LA_box rfl rfl ?_; refine LA_nil (hK [] _ (LX_pick 5 rfl (fun v5 w5 e5 h5 => ?_))); clear hK K; obtain ⟨b5, hb5, rfl, h5⟩ := h5; have hS5 := hS.ext e5)|(refine oNc ?_; refine LA_nilCheck rfl rfl ?_)|(refine oF 0 ?_; refine LA_fieldAddr (a' := ⟨b, 0, none⟩) rfl rfl (fun _ => rfl) ?_)|(refine oF 1 ?_; refine LA_fieldAddr (a' := ⟨b, 1, none⟩) rfl rfl (fun _ => rfl) ?_)|(refine oLt 52 ?_; refine LA_loadB (c := kv) rfl (fun _ => rfl) rfl hS5.hb rfl ?_)|(refine oLt 53 ?_; refine LA_loadB (c := lv) rfl (fun _ => rfl) rfl hS5.hb rfl ?_)|(refine oD 30 ?_; refine LA_oneO rfl el_c16 rfl rfl ?_)|(refine oD 38 ?_; refine LA_oneSQ (base := w5.heap.size) (s := 4) (Nat.le_refl _) rfl el_cct rfl rfl (by decide) ?_)|(refine oLd ?_; refine LA_loadK (n := 4) rfl h5 rfl rfl (fun _ => rfl) (fun _ => rfl) ?_)|refine wOp ?_|(refine wCm ?_ ?_<;>intro hc)|(refine oCv ?_;first|(refine oC 87 ?_; refine LA_call2 (f := 87) rfl rfl rfl rfl  (.tup2 (.val (.int .i64 i)) (.val (.bool false))) (by intro u1 u2 w e hu1 hu2; (try obtain rfl : u1 = _ := hu1); (try obtain rfl : u2 = _ := hu2); exact hf _ (e5.trans e)) ?_))|(refine wNl hK ?_;clear hK K))|(refine oCX ?_;first|refine CX_phases (id := 4) [9, 17, 20, 23] (by kernel_rfl) (by kernel_rfl) (by kernel_rfl) (Phase_cons ?_))|refine wG ?_|(refine wCR ?_;intro K hK)|refine wPh ?_|fail)
    have lkv : ∀ k, kv.ownBlock = some k → k < w.heap.size := fun k h => hS.lt (.inr (.inl h))
    have llv : ∀ k, lv.ownBlock = some k → k < w.heap.size := fun k h => hS.lt (.inr (.inr h))
    have sz5 := e5.size
    refine MX_call3 (v3 := undef) (f := 88) rfl rfl rfl rfl rfl (fun w v w' => Own 0 tK 1 w' v (nk p + 1) (((keysL p).map (Value.int .u16)).take (i * 1) ++ [.int .u16 (k : Int)] ++ ((keysL p).map (Value.int .u16)).drop (i * 1)) ∧ Fr (fun k => kv.ownBlock = some k) w w' ∧ LocR w kv v) (fun u3 w1 e1 hu3 => ?_) (fun kv' w1 w2 e1 hR => ⟨(38, .pred (ownC w5.heap.size tC 4 1 (qv qc).cells.toList)) :: _, fun t u _ hu => keep_cons (fun u hu => ?_) vals_keep t u hu, Phase_cons ?_⟩)
    · exact ins2_c16 w1 0 _ kv u3 (nk p) i _ _ (hk0.ext (e5.trans e1)) hu3 hle (fun k h1 h2 => by have := (Own.lt hu3 k h1).1; have := lkv k h2; omega) h1c (fun c hc' => by rw [List.mem_singleton] at hc'; subst hc'; rfl) (by omega) (by omega)
    · exact hR.2.1.own hu (fun k h1 h2 => by have := (Own.lt hu k h1).1; have := lkv k h2; omega)
    obtain ⟨r1, r2, r3⟩ := hR
    rw [hmap] at r1
    have hb2 := r2.at (e1.block hS5.hb) (fun h => hsn.1 h)
    have h52 := r2.at (e1.block h5) (fun h => by have := lkv _ h; omega)
    have q22 : Own 0 tC 4 w2 lv (nk p) (cellsQ Q) := r2.own (q2.ext (e5.trans e1)) (fun k h1 h2 => hsn.2.2 k h2 h1)
    have sz2 := Nat.le_trans e1.size r2.size
    repeat' (first|(refine oLA ?_;first|refine wBk ?_|(refine oNc ?_; refine LA_nilCheck rfl rfl ?_)|(refine oF 0 ?_; refine LA_fieldAddr (a' := ⟨b, 0, none⟩) rfl rfl (fun _ => rfl) ?_)|(refine oF 1 ?_; refine LA_fieldAddr (a' := ⟨b, 1, none⟩) rfl rfl (fun _ => rfl) ?_)|(refine oLt 52 ?_; refine LA_loadB (c := kv) rfl (fun _ => rfl) rfl hb2 rfl ?_)|(refine oLt 53 ?_; refine LA_loadB (c := lv) rfl (fun _ => rfl) rfl hb2 rfl ?_)|(refine oD 38 ?_; refine LA_oneSQ (base := w5.heap.size) (s := 4) sz2 rfl el_cct rfl rfl (by decide) ?_)|(refine oLd ?_; refine LA_loadK (n := 4) rfl h52 rfl rfl (fun _ => rfl) (fun _ => rfl) ?_)|refine wOp ?_|(refine wCm ?_ ?_<;>intro hc)|(refine wNl hK ?_;clear hK K))|refine wG ?_|(refine wCR ?_;intro K hK)|refine wPh ?_|fail)
    refine MX_call3 (v3 := undef) (f := 89) rfl rfl rfl rfl rfl (fun w v w' => Own 0 tC 4 w' v (nk p + 1) ((cellsQ Q).take (i * 4) ++ (qv qc).cells.toList ++ (cellsQ Q).drop (i * 4)) ∧ Fr (fun k => lv.ownBlock = some k) w w' ∧ LocR w lv v) (fun u3 w3 e3 hu3 => ?_) (fun lv' w3 w4 e3 hR => ⟨_, fun t u _ hu => vals_keep t u hu, Phase_cons ?_⟩)
    · exact ins2_cct w3 0 _ lv u3 (nk p) i _ _ (q22.ext e3) hu3 hle (fun k h1 h2 => by have := (Own.lt hu3 k h1).1; have := llv k h2; omega) h1q hqc (by omega) (by omega)
    obtain ⟨s1, s2, s3⟩ := hR
    have hcq' : (cellsQ Q).take (i * 4) ++ (qv qc).cells.toList ++ (cellsQ Q).drop (i * 4) = cellsQ (Q.take i ++ [qc] ++ Q.drop i) := hcq.symm
    rw [hcq'] at s1
    have hb4 := s2.at (e3.block hb2) (fun h => hsn.2.1 h)
    have r14 := s2.own (r1.ext e3) (fun k h1 h2 => by
      obtain ⟨cur, hcur⟩ := own_type (r1.ext e3) h1
      exact Own.apart (q22.ext e3) hcur (by decide) h2)
    obtain ⟨ck1, ck2⟩ := own_cells r14
    obtain ⟨cl1, cl2⟩ := own_cells s1
    have hF4 : Fr (onw b kv lv) w w4 := (((Fr.of (e5.trans e1)).trans (r2.mono fun k h => .inr (.inl h))).trans (Fr.of e3)).trans (s2.mono fun k h => .inr (.inr h))
    repeat' (first|(refine oLA ?_;first|refine wBk ?_|(refine oNc ?_; refine LA_nilCheck rfl rfl ?_)|(refine oF 0 ?_; refine LA_fieldAddr (a' := ⟨b, 0, none⟩) rfl rfl (fun _ => rfl) ?_)|(refine oF 1 ?_; refine LA_fieldAddr (a' := ⟨b, 1, none⟩) rfl rfl (fun _ => rfl) ?_)|(refine oLt 52 ?_; refine LA_loadB (c := kv) rfl (fun _ => rfl) rfl hb4 rfl ?_)|(refine oLt 53 ?_; refine LA_loadB (c := lv) rfl (fun _ => rfl) rfl hb4 rfl ?_)|refine wOp ?_|(refine wCm ?_ ?_<;>intro hc)|(refine wNl hK ?_;clear hK K))|refine wG ?_|(refine wCR ?_;intro K hK)|refine wPh ?_|fail)
    refine MX_store (news := [kv']) rfl rfl rfl hb4 ck1 (fun _ => rfl) (Nat.le_of_ble_eq_true rfl) (fun u hu => by rw [List.mem_singleton] at hu; subst hu; exact ck2) (fun w6 e6 => ⟨_, fun t u hu => vals_keep t u hu, Phase_cons ?_⟩)
    have hb6 : (w6.setRow b #[kv', lv]).heap[b]? = _ := setRow_heap w6 b _ _ _ _ (e6.block hb4)
    obtain ⟨w7, hw7⟩ : ∃ w7, w7 = w6.setRow b #[kv', lv] := ⟨_, rfl⟩
    have hF7 : Fr (onw b kv lv) w w7 := hw7 ▸ ((hF4.trans (Fr.of e6)).setRow (.inl rfl) _)
    have r17 : OwnI 0 tK .u16 w7 kv' ((keysL p).take i ++ [(k : Int)] ++ (keysL p).drop i) := by unfold OwnI; rw [hlen]; exact hw7 ▸ Own.setRow (r14.ext e6) _ (Own.apart (r14.ext e6) (e6.block hb4) (by decide))
    have s17 : Own 0 tC 4 w7 lv' (nk p + 1) (cellsQ (Q.take i ++ [qc] ++ Q.drop i)) := hw7 ▸ Own.setRow (s1.ext e6) _ (Own.apart (s1.ext e6) (e6.block hb4) (by decide))
    rw [show (#[kv, lv].toList.take 0 ++ [kv'] ++ #[kv, lv].toList.drop (0 + [kv'].length)).toArray = #[kv', lv] from rfl]
    rw [← hw7] at hb6 ⊢
    clear hw7
    repeat' (first|(refine oLA ?_;first|refine wBk ?_|(refine oNc ?_; refine LA_nilCheck rfl rfl ?_)|(refine oF 0 ?_; refine LA_fieldAddr (a' := ⟨b, 0, none⟩) rfl rfl (fun _ => rfl) ?_)|(refine oF 1 ?_; refine LA_fieldAddr (a' := ⟨b, 1, none⟩) rfl rfl (fun _ => rfl) ?_)|(refine oLt 52 ?_; refine LA_loadB (c := kv) rfl (fun _ => rfl) rfl hb6 rfl ?_)|(refine oLt 53 ?_; refine LA_loadB (c := lv) rfl (fun _ => rfl) rfl hb6 rfl ?_)|refine wOp ?_|(refine wCm ?_ ?_<;>intro hc)|(refine wNl hK ?_;clear hK K))|refine wG ?_|(refine wCR ?_;intro K hK)|refine wPh ?_|fail)
    refine MX_store (news := [lv']) rfl rfl rfl hb6 cl1 (fun _ => rfl) (Nat.le_of_ble_eq_true rfl) (fun u hu => by rw [List.mem_singleton] at hu; subst hu; exact cl2) (fun w8 e8 => ⟨_, fun t u hu => vals_keep t u hu, Phase_nil ?_⟩)
    have hb8 : (w8.setRow b #[kv', lv']).heap[b]? = _ := setRow_heap w8 b _ _ _ _ (e8.block hb6)
    obtain ⟨w9, hw9⟩ : ∃ w9, w9 = w8.setRow b #[kv', lv'] := ⟨_, rfl⟩
    have hF9 : Fr (onw b kv lv) w w9 := hw9 ▸ ((hF7.trans (Fr.of e8)).setRow (.inl rfl) _)
    have r19 : OwnI 0 tK .u16 w9 kv' ((keysL p).take i ++ [(k : Int)] ++ (keysL p).drop i) := hw9 ▸ Own.setRow (r17.ext e8) _ (Own.apart (r17.ext e8) (e8.block hb6) (by decide))
    have s19 : Own 0 tC 4 w9 lv' (nk p + 1) (cellsQ (Q.take i ++ [qc] ++ Q.drop i)) := hw9 ▸ Own.setRow (s17.ext e8) _ (Own.apart (s17.ext e8) (e8.block hb6) (by decide))
    have sz3 := Nat.le_trans sz2 e3.size
    rw [show (#[kv', lv].toList.take 1 ++ [lv'] ++ #[kv', lv].toList.drop (1 + [lv'].length)).toArray = #[kv', lv'] from rfl]
    rw [← hw9] at hb8 ⊢
    clear hw9
    repeat' (first|(refine oLA ?_;first|refine wBk ?_|(refine oNc ?_; refine LA_nilCheck rfl rfl ?_)|(refine oF 0 ?_; refine LA_fieldAddr (a' := ⟨b, 0, none⟩) rfl rfl (fun _ => rfl) ?_)|(refine oF 1 ?_; refine LA_fieldAddr (a' := ⟨b, 1, none⟩) rfl rfl (fun _ => rfl) ?_)|(refine oLt 52 ?_; refine LA_loadB (c := kv) rfl (fun _ => rfl) rfl hb8 rfl ?_)|(refine oLt 53 ?_; refine LA_loadB (c := lv) rfl (fun _ => rfl) rfl hb8 rfl ?_)|refine wOp ?_|(refine wCm ?_ ?_<;>intro hc)|(refine wNl hK ?_;clear hK K))|refine wG ?_|(refine wCR ?_;intro K hK)|refine wPh ?_|fail)
    all_goals skip
    refine PX_end0 rfl (fun w2 e2 => ⟨rfl, ?_⟩) (.inl rfl)
    exact hfin w2 kv' lv' (hF9.trans (Fr.of e2)) (e2.block hb8) (r19.ext e2) (s19.ext e2) (r3.le (Nat.le_trans e5.size e1.size)) (s3.le (by omega))
  · obtain ⟨i1, i2⟩ := kp_of hk hn
    have hfin : ∀ w', _ := fun w' => hS.set (w' := w') hk hn hq hq0 q1 q3 hc
    rw [← hi] at i1 hf hfin
    rw [hn] at hf
    have hset := cellsQ_set Q i qc (by omega)
    rcases q2.2 with ⟨_, h0⟩ | ⟨gl, cap, cur, rfl, -, hg, hnc, hm, hsz, htake⟩
    · omega
    have hsn := slot_ne hS
    have hsetN := fun (w1 : World) (hg1 : w1.heap[gl]? = some (.cells cur tC (0, 0))) => Own.setN (e := tC) (s := 4) (news := qcs qc) q2.1 hg1 hnc hm hsz htake i1 rfl
    clear hi
    refine Fc.of (args := [_, _, _]) Tryz.func46 rfl rfl Tryz.ntmps46 (Nat.le_of_ble_eq_true rfl) ?_
    repeat' (first|(refine oLA ?_;first|refine LA_pass rfl ?_|(refine oBx ?_; refine LA_box4 rfl rfl ?_)|(refine oNc ?_; refine LA_nilCheck rfl rfl ?_)|(refine oF 0 ?_; refine LA_fieldAddr (a' := ⟨b, 0, none⟩) rfl rfl (fun _ => rfl) ?_)|(refine oF 1 ?_; refine LA_fieldAddr (a' := ⟨b, 1, none⟩) rfl rfl (fun _ => rfl) ?_)|(refine oLt 52 ?_; refine LA_loadB (c := kv) rfl (fun _ => rfl) rfl hS.hb rfl ?_)|(refine oLt 53 ?_; refine LA_loadB (c := .slice (some ⟨gl, 0, none⟩) (nk p) cap) rfl (fun _ => rfl) rfl hS.hb rfl ?_)|(refine oI ?_; refine LA_indexS (s := 4) rfl rfl (fun _ => rfl) rfl rfl (by omega) (by omega) ?_; rw [Int.toNat_natCast, Nat.zero_add])|(refine oLd ?_; refine LA_load4 rfl (fun _ => rfl) (fun _ => rfl) rfl ?_)|(refine LA_stop (hK _ _ rfl (LX_storeN (news := qcs qc) rfl rfl rfl hg rfl (fun _ => rfl) (by rw [hsz]; show i * 4 + 4 ≤ cap * 4; omega) hqc (fun w1 e1 => ?_))); clear hK K)|refine wOp ?_|(refine wCm ?_ ?_<;>intro hc)|(refine oCv ?_;first|(refine oC 87 ?_; refine LA_call2 (f := 87) rfl rfl rfl rfl  (.tup2 (.val (.int .i64 i)) (.val (.bool true))) (by intro u1 u2 w e hu1 hu2; (try obtain rfl : u1 = _ := hu1); (try obtain rfl : u2 = _ := hu2); exact hf _ e) ?_))|(refine wNl hK ?_;clear hK K))|(refine oCX ?_;first|refine CX_regionS 7 (by kernel_rfl) (by kernel_rfl) (by kernel_rfl) (fun K hK => ?_))|refine wG ?_|(refine wCR ?_;intro K hK)|fail)
    all_goals skip
    refine PX_end0 rfl (fun w2 e2 => ⟨rfl, ?_⟩) (.inr rfl)
    have hS1 := hS.ext e1
    have hne : b ≠ gl := fun e => hsn.2.1 (by rw [e]; rfl)
    refine hfin w2 (((Fr.of e1).setRow (.inr (.inr rfl)) _).trans (Fr.of e2)) (e2.block (setRow_keep _ hS1.hb hne)) (OwnI.ext (Own.setRow hS1.hk _ (Own.apart hS1.hk (e1.block hg) (by decide))) e2) ?_
    rw [hset]
    exact (hsetN w1 (e1.block hg)).ext e2
end Go.Proofs.YtfcioiobhpcngaaGreatDoor
end
section
set_option linter.unusedSimpArgs false
set_option linter.unusedVariables false
set_option maxRecDepth 3000
namespace Go.Proofs.YtfcioiobhpcngaaGreatDoor
open Go.LA Go.ArrP Go.RowKit
variable {A B : Nat → Prop}
theorem nset_top {w : World} {v : Value} {p : Nat → Bool} (h : NSet B A w v p) : ∀ x, TOP ≤ x → p x = false := by
  rcases h with ⟨rfl, rfl⟩ | ⟨b, kv, lv, rfl, hS, -⟩
  · exact fun _ _ => rfl
  · exact hS.top
structure Pts (A : Nat → Prop) (w : World) (v : Value) (p : Nat → Bool) (lv : Value) (Q : List Qd) : Prop where
  len : Q.length = nk p
  own : Own 0 tC 4 w lv (nk p) (cellsQ Q)
  cn : ∀ i, i < nk p → Cn A w (qv (Q.getD i q0)) (blk p (kp p i)) (kindP (blk p (kp p i)))
  set : 0 < nk p → ∃ b kv, v = .pointer (some ⟨b, 0, none⟩) ∧ w.heap[b]? = some (.cells #[kv, lv] tS (0, 0)) ∧ OwnI 0 tK .u16 w kv (keysL p)
theorem Pts.ext {w w' : World} {v : Value} {p : Nat → Bool} {lv : Value} {Q : List Qd} (h : Pts A w v p lv Q) (e : Ext w w') : Pts A w' v p lv Q :=
  ⟨h.len, h.own.ext e, fun i hi => (h.cn i hi).ext e, fun h0 => by
    obtain ⟨b, kv, h1, h2, h3⟩ := h.set h0
    exact ⟨b, kv, h1, e.block h2, h3.ext e⟩⟩
theorem Pts.at {w : World} {v : Value} {p : Nat → Bool} {lv : Value} {Q : List Qd} (h : Pts A w v p lv Q) {i : Nat} (hi : i < nk p) : ((cellsQ Q).drop (i * 4)).take 4 = qcs (Q.getD i q0) ∧ Cn A w (qv (Q.getD i q0)) (blk p (kp p i)) (kindP (blk p (kp p i))) ∧ ∀ u ∈ qcs (Q.getD i q0), u.oneCell' = true := by
  refine ⟨cellsQ_at Q i (by have := h.len; omega), h.cn i hi, ?_⟩
  obtain ⟨q, h1, h2⟩ := (h.cn i hi).qd
  rw [qv_inj h1]; exact h2
theorem list_s {w : World} {v : Value} {p : Nat → Bool} (h : NSet B A w v p) : ∃ lv Q, Pts A w v p lv Q ∧ ∀ w', Ext w w' → Fc Tryz.prog 50 #[v] w' (Ret w' (.val lv)) := by
  rcases h with ⟨rfl, rfl⟩ | ⟨b, kv, lv, rfl, hS, -⟩
  · refine ⟨nilS, [], ⟨by rw [nk_none]; rfl, by rw [nk_none]; exact Own.nil, fun i hi => by rw [nk_none] at hi; omega, fun hi => by rw [nk_none] at hi; omega⟩, fun w' e => ?_⟩
    refine Fc.of (args := [_]) Tryz.func50 rfl rfl Tryz.ntmps50 (Nat.le_of_ble_eq_true rfl) ?_
    repeat' (first|(refine oLA ?_;first|refine LA_pass rfl ?_|(refine oEq ?_; refine LA_binV (c := .bool true) rfl rfl rfl (fun _ => rfl) ?_)|refine wOp ?_|(refine wCm ?_ ?_<;>intro hc)|(refine wNl hK ?_;clear hK K))|refine wG ?_|(refine wCR ?_;intro K hK)|fail)
    exact PX_retE rfl rfl (Ext.refl _) rfl
  · obtain ⟨Q, q1, q2, q3⟩ := hS.hl
    refine ⟨lv, Q, ⟨q1, q2, fun i hi => (q3 i hi).mono fun k _ h => h.1, fun _ => ⟨b, kv, rfl, hS.hb, hS.hk⟩⟩, fun w' e => ?_⟩
    replace hS := hS.ext e
    refine Fc.of (args := [_]) Tryz.func50 rfl rfl Tryz.ntmps50 (Nat.le_of_ble_eq_true rfl) ?_
    repeat' (first|(refine oLA ?_;first|refine LA_pass rfl ?_|(refine oEq ?_; refine LA_binV (c := .bool false) rfl rfl rfl (fun _ => rfl) ?_)|(refine oNc ?_; refine LA_nilCheck rfl rfl ?_)|(refine oF 0 ?_; refine LA_fieldAddr (a' := ⟨b, 0, none⟩) rfl rfl (fun _ => rfl) ?_)|(refine oF 1 ?_; refine LA_fieldAddr (a' := ⟨b, 1, none⟩) rfl rfl (fun _ => rfl) ?_)|(refine oLt 52 ?_; refine LA_loadB (c := kv) rfl (fun _ => rfl) rfl hS.hb rfl ?_)|(refine oLt 53 ?_; refine LA_loadB (c := lv) rfl (fun _ => rfl) rfl hS.hb rfl ?_)|refine wOp ?_|(refine wCm ?_ ?_<;>intro hc)|(refine wNl hK ?_;clear hK K))|refine wG ?_|(refine wCR ?_;intro K hK)|fail)
    exact PX_retE rfl rfl (Ext.refl _) rfl
theorem keys_s {w : World} {v : Value} {p : Nat → Bool} (h : NSet B A w v p) : Fc Tryz.prog 40 #[v] w (Ret w (.pred (ownI w.heap.size tK .u16 (keysL p)))) := by
  rcases h with ⟨rfl, rfl⟩ | ⟨b, kv, lv, rfl, hS, -⟩
  · rw [keys_none]
    refine Fc.of (args := [_]) Tryz.func40 rfl rfl Tryz.ntmps40 (Nat.le_of_ble_eq_true rfl) ?_
    repeat' (first|(refine oLA ?_;first|refine LA_pass rfl ?_|(refine oEq ?_; refine LA_binV (c := .bool true) rfl rfl rfl (fun _ => rfl) ?_)|refine wOp ?_|(refine wCm ?_ ?_<;>intro hc)|(refine wNl hK ?_;clear hK K))|refine wG ?_|(refine wCR ?_;intro K hK)|fail)
    exact PX_retP rfl rfl (Ext.refl _) (fun v _ _ hv => by obtain rfl : v = _ := hv; exact OwnI.nil)
  · have hn : (keysL p).length ≤ 65536 := by rw [keysL_len]; exact nk_le p
    refine Fc.of (args := [_]) Tryz.func40 rfl rfl Tryz.ntmps40 (Nat.le_of_ble_eq_true rfl) ?_
    repeat' (first|(refine oLA ?_;first|refine LA_pass rfl ?_|(refine oEq ?_; refine LA_binV (c := .bool false) rfl rfl rfl (fun _ => rfl) ?_)|(refine oNc ?_; refine LA_nilCheck rfl rfl ?_)|(refine oF 0 ?_; refine LA_fieldAddr (a' := ⟨b, 0, none⟩) rfl rfl (fun _ => rfl) ?_)|(refine oF 1 ?_; refine LA_fieldAddr (a' := ⟨b, 1, none⟩) rfl rfl (fun _ => rfl) ?_)|(refine oLt 52 ?_; refine LA_loadB (c := kv) rfl (fun _ => rfl) rfl hS.hb rfl ?_)|(refine oLt 53 ?_; refine LA_loadB (c := lv) rfl (fun _ => rfl) rfl hS.hb rfl ?_)|refine wOp ?_|(refine wCm ?_ ?_<;>intro hc)|(refine oCv ?_;first|(refine oC 55 ?_; refine LA_call1 (f := 55) rfl rfl rfl  (.pred (ownI w.heap.size tK .u16 (keysL p))) (by intro u1 w e hu1; (try obtain rfl : u1 = _ := hu1); exact (clone16_c _ _ _ (hS.hk.ext e).slI hn).mono (ret_base e.size)) ?_))|(refine wNl hK ?_;clear hK K))|refine wG ?_|(refine wCR ?_;intro K hK)|fail)
    exact PX_retP rfl rfl (Ext.refl _) (fun _ _ _ hv => hv)
theorem len_s {w : World} {v : Value} {p : Nat → Bool} (h : NSet B A w v p) : Fc Tryz.prog 15 #[v] w (Ret w (.val (.int .i64 (cnt p TOP)))) := by
  obtain ⟨lv, Q, hP, hL⟩ := list_s h
  have hnk := nk_le p
  have hct := cnt_le p TOP
  have htop := TOP_eq
  refine Fc.of (args := [_]) Tryz.func15 rfl rfl Tryz.ntmps15 (Nat.le_of_ble_eq_true rfl) ?_
  repeat' (first|(refine oLA ?_;first|refine LA_pass rfl ?_|(refine oLen ?_; refine LA_len rfl _ rfl rfl (HasC.ownV hP.own) ?_)|refine wOp ?_|(refine wCm ?_ ?_<;>intro hc)|(refine oCv ?_;first|(refine oC 50 ?_; refine LA_call1 (f := 50) rfl rfl rfl  (.val lv) (by intro u1 w e hu1; (try obtain rfl : u1 = _ := hu1); exact hL _ e) ?_))|(refine wNl hK ?_;clear hK K))|refine wG ?_|(refine wCR ?_;intro K hK)|fail)
  refine CX_loop (ι := Nat) (fun i => [(0, .val v), (3, .val (.int .i64 (cnt p (kp p i * 65536)))), (7, .val lv), (8, .val (.int .i64 (nk p))), (9, .val (.int .i64 i))]) (fun i => i ≤ nk p) (fun i => nk p - i) 0 (Nat.zero_le _) (by rw [key_cnt0]; (repeat' (first | exact Sub.nil | (refine Sub.val rfl ?_ ?_; first | with_reducible rfl | (congr 1; omega)) | refine Sub.same rfl ?_)); done) ?_
  intro i hi
  have hle := cnt_mono p (m := kp p i * 65536) TOP (by have := kp_le p i; omega)
  by_cases hil : i < nk p
  · obtain ⟨hat, hcn, h1⟩ := hP.at hil
    have hkc := key_cnt hil
    have hb6 := cnt_le (blk p (kp p i)) 65536
    repeat' (first|(refine oLA ?_;first|refine LA_pass rfl ?_|(refine oI ?_; refine LA_indexC (s := 4) rfl _ rfl (fun _ => rfl) rfl (HasC.ownV hP.own) rfl i rfl (by omega) ?_; rw [hat])|(refine oLt 65 ?_; refine LA_loadC (cs := qcs _) rfl (fun _ => rfl) (fun _ => rfl) rfl ?_)|(refine oD 5 ?_; refine LA_stop (hK _ _ (LX_var rfl rfl (by decide) (fun _ => rfl) (fun _ => rfl) (fun _ => rfl) rfl h1 (fun bx wx ex hbx hbc => ?_))); clear hK K; refine LX_la (by kernel_rfl) (fun K hK => ?_))|(refine oD 14 ?_; refine LA_loadK (n := 4) rfl hbc rfl rfl (fun _ => rfl) (fun _ => rfl) ?_)|refine wOp ?_|(refine wCm ?_ ?_<;>intro hc)|(refine oCv ?_;first|(refine oC 51 ?_; refine LA_call1 (f := 51) rfl rfl rfl  (.val (.int .i64 (cnt (blk p (kp p i)) 65536))) (by intro u1 w e hu1; (try obtain rfl : u1 = _ := hu1); exact len_c (hcn.ext (ex.trans e))) ?_))|(refine wNl hK ?_;clear hK K))|refine wG ?_|(refine wCR ?_;intro K hK)|fail)
    all_goals skip
    exact PX_rndB ex (i + 1) hil (by omega) (by rw [hkc]; (repeat' (first | exact Sub.nil | (refine Sub.val rfl ?_ ?_; first | with_reducible rfl | (congr 1; omega)) | refine Sub.same rfl ?_)); done)
  · obtain rfl : i = nk p := by omega
    rw [key_top] at hle ⊢
    repeat' (first|(refine oLA ?_;first|refine LA_pass rfl ?_|refine wOp ?_|(refine wCm ?_ ?_<;>intro hc)|(refine wNl hK ?_;clear hK K))|refine wG ?_|(refine wCR ?_;intro K hK)|fail)
    exact PX_retE rfl rfl (Ext.refl _) rfl
end Go.Proofs.YtfcioiobhpcngaaGreatDoor
end
