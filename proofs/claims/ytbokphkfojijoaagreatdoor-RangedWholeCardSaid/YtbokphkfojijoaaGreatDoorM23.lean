import Derived.Laws.BitsAllLaws
import Derived.Test.YtbokphkfojijoaaGreatDoorM12
import Derived.Test.YtbokphkfojijoaaGreatDoorM22
section
set_option linter.unusedSimpArgs false
set_option linter.unusedVariables false
set_option maxRecDepth 3000
namespace Go.Proofs.YtbokphkfojijoaaGreatDoor.Pt
open Go.LA Go.ArrP Go.RowKit
theorem or8 (a i:Nat) (hi:i < 8) (ha:a < 2 ^ i):bits .or .u8 (a:Int) (IntKind.u8.wrap (1 * 2 ^ ((i:Nat):Int).toNat))=((a + 2 ^ i:Nat):Int):=by
  have h1:2 ^ i ≤ 2 ^ 7:=Nat.pow_le_pow_right (by decide) (by omega)
  have h2:((1:Int) * 2 ^ ((i:Nat):Int).toNat)=((2 ^ i:Nat):Int):=by rw [Int.toNat_natCast,Int.one_mul];norm_cast
  rw [h2,esA .u8 _ (by dsimp only [fits];omega),u8_or_nat _ _ (by omega) (by omega)]
  have h3:=(Nat.two_pow_add_eq_or_of_lt ha 1)
  rw [Nat.mul_one,Nat.or_comm] at h3
  rw [← h3,Nat.add_comm]
theorem LRow.at {base n:Nat} {p:Nat → Bool} {w:World} {u:Value} {Q:List Qd} (h:LRow base p n w u Q) {i:Nat} (hi:i < n) :
    ∃ qd:Qd,((clA Q).drop (i * 4)).take 4=qcs qd ∧ (∀ u ∈ qcs qd,u.oneCell'=true) ∧ Cn TT w (qv qd) (blk p (kp p i)) (apA (blk p (kp p i))):=by
  obtain ⟨h1,h2,h3⟩:=h
  have h4:=h3 i hi
  obtain ⟨qd,h5,h6⟩:=h4.qd
  have h7:Q.getD i q0=qd:=qaA h5
  rw [h7] at h4
  exact ⟨qd,by rw [fjA Q i (by omega),h7],h6,h4⟩
theorem LRow.base {base base' n:Nat} {p:Nat → Bool} {w:World} {u:Value} {Q:List Qd} (h:LRow base p n w u Q) (hb:base' ≤ base):LRow base' p n w u Q:=⟨Own.base h.1 hb,h.2⟩
set_option maxHeartbeats 8000000 in
theorem pmA {w:World} {v:Value} {p:Nat → Bool} (h:NSet TT TT w v p) (hn8:nk p ≤ 8) (hT:Tab w):Fc Tryz.prog 18 #[v] w (Ret w (.pred (bfA w.heap.size tB .u8 (ccA p)))):=by
  have hall:∀ w',Ext w w' → Fc Tryz.prog 60 #[v] w' (Ret w' (.tup2 (.pred (xpA w.heap.size p (nk p))) (.val (.int .i64 (cnt (c5A p) (nk p):Nat))))):=fun w' e=>(a5B (h.ext e)).mono (a1B (fun v' w'' hv=>hv.imp fun Q hq=>hq.base e.size))
  have hks:∀ w',Ext w w' → _:=fun w' e=>lgA (h.ext e)
  have hkl:=bsA p
  have hr0:=cntW p (nk p)
  have hcl:=cnt_le (c5A p) (nk p)
  have hpos:e6A (c5A p) (nk p)=true → 0 < nk p:=ioA
  obtain ⟨n,hn⟩:∃ n,n=nk p:=⟨_,rfl⟩
  obtain ⟨r,hr⟩:∃ r,r=cnt (c5A p) n:=⟨_,rfl⟩
  rw [← hn] at hall hkl hr0 hcl hpos hn8
  rw [← hr] at hall hr0 hcl
  have hhd:∀ w':World,_:=fun w'=>aoB w' n r (by omega)
  have hcook0:r=0 → ddA n (c5A p)=leS 12346 4 ++ leS n 4:=fun h0=>by unfold ddA;rw [hr0.1 h0,if_neg (by decide)]
  have hcook1:¬ r=0 → ddA n (c5A p)=leS 12347 2 ++ (leS (n - 1:Nat) 2 ++ [(fB (c5A p) n:Int)]):=fun h0=>by
    have:e6A (c5A p) n=true:=by
      cases ha:e6A (c5A p) n with
      | true=>rfl
      | false=>exact absurd (hr0.2 ha) h0
    unfold ddA;rw [this,if_pos rfl]
  have hn1:¬ r=0 → 0 < n:=fun h0=>hpos (by
    cases ha:e6A (c5A p) n with
    | true=>rfl
    | false=>exact absurd (hr0.2 ha) h0)
  refine Fc.of (args:=[_]) Tryz.func18 rfl rfl Tryz.ntmps18 (Nat.le_of_ble_eq_true rfl) ?_
  repeat' (first|(refine oLA ?_;first|refine a0A rfl ?_|(refine oD 22 ?_;refine a4A (hK _ _ (b8A 3 rfl (fun v3 w3 e3 h3=>?_)));clear hK K;obtain ⟨Q,hQ⟩:=h3;have hQ1:=hQ.1;refine aeA (by kernel_rfl) (fun K hK=>cmA rfl rfl ?_))|(refine oD 23 ?_;refine azA rfl _ rfl rfl (HasC.ownV hQ1) ?_)|(refine oD 34 ?_;refine afA rfl rfl rfl (by dsimp only [fits];omega) ?_;rw [show (n:Int) - 1=((n - 1:Nat):Int) by omega])|(refine oD 37 ?_;refine a4A (hK _ _ (b8A 6 rfl (fun vb wb eb hb=>?_)));clear hK K;replace hb:OwnI w3.heap.size tB .u8 wb vb (leS 12347 2 ++ leS (n - 1:Nat) 2):=hb;refine aeA (by kernel_rfl) (fun K hK=>cmA rfl rfl ?_))|(refine oD 39 ?_;refine duA rfl rfl rfl (by omega) (by omega) (by dsimp only [fits];omega) ?_;rw [show ((n:Int) + 7) / 8=((1:Nat):Int) by have:=hn1 (by omega);omega])|(refine oD 40 ?_;refine e8A rfl jqA rfl rfl (by decide) (by decide) ?_)|(refine oD 42 ?_;refine azA rfl _ rfl rfl (HasC.ownV (Own.ext hQ1 eb)) ?_)|refine wOp ?_|(refine wCm ?_ ?_<;>intro hc)|(refine oCv ?_;first|(refine oC 60 ?_;refine a2A (f:=60) rfl rfl rfl  (.tup2 (.pred (xpA w.heap.size p n)) (.val (.int .i64 (r:Nat)))) (by intro u1 w e hu1;(try obtain rfl:u1=_:=hu1);exact hall _ e) ?_)|(refine oD 27 ?_;refine oC 61 ?_;refine a3A (f:=61) rfl rfl rfl rfl  (.pred (bfA w3.heap.size tB .u8 (leS 12346 4))) (by intro u1 u2 w e hu1 hu2;(try obtain rfl:u1=_:=hu1);(try obtain rfl:u2=_:=hu2);exact (fuA _ _ [] 12346 nil8 (by decide) (by omega) (by omega)).mono (aaA e.size)) ?_)|(refine oD 30 ?_;refine oC 61 ?_;refine a3A (f:=61) rfl rfl rfl rfl  (.pred (bfA w3.heap.size tB .u8 (leS 12346 4 ++ leS n 4))) (by intro u1 u2 w e hu1 hu2;(try obtain rfl:u1=_:=hu1);(try obtain rfl:u2=_:=hu2);exact (fuA _ _ (leS 12346 4) n (OwnI.slI hu1) (by rw [b4A];decide) (by omega) (by omega)).mono (aaA e.size)) ?_)|(refine oD 32 ?_;refine oC 62 ?_;refine a3A (f:=62) rfl rfl rfl rfl  (.pred (bfA w3.heap.size tB .u8 (leS 12347 2))) (by intro u1 u2 w e hu1 hu2;(try obtain rfl:u1=_:=hu1);(try obtain rfl:u2=_:=hu2);exact (djA _ _ [] 12347 nil8 (by decide) (by omega) (by omega)).mono (aaA e.size)) ?_)|(refine oD 36 ?_;refine oC 62 ?_;refine a3A (f:=62) rfl rfl rfl rfl  (.pred (bfA w3.heap.size tB .u8 (leS 12347 2 ++ leS (n - 1:Nat) 2))) (by intro u1 u2 w e hu1 hu2;(try obtain rfl:u1=_:=hu1);(try obtain rfl:u2=_:=hu2);exact (djA _ _ (leS 12347 2) (n - 1:Nat) (OwnI.slI hu1) (by rw [b4A];decide) (by omega) (by omega)).mono (aaA e.size)) ?_))|(refine wNl hK ?_;clear hK K))|(refine oCX ?_;first|refine cjA (id:=4) (ι:=Value) (fun vb=>[(0,.val v),(3,.val v3),(4,.val (.int .i64 r)),(5,.val (.int .i64 n)),(6,.val vb)]) (fun vb w'=>Ext w3 w' ∧ OwnI w3.heap.size tB .u8 w' vb (ddA n (c5A p))) ?_ ?_)|refine wG ?_|(refine wCR ?_;intro K hK)|fail)
  all_goals skip
  · refine erA 6 rfl (fun vb wb eb hb=>?_)
    exact a6A vb (fun w5 e5=>⟨eb.trans e5,by rw [hcook0 (by omega)];exact OwnI.ext hb e5⟩) (by omega) (by repeat' (first | exact Sub.nil | refine Sub.val rfl (by first | with_reducible rfl | (congr 1;omega)) ?_ | refine Sub.same rfl ?_))
  · refine buA 7 rfl (fun fv wf ef hf=>?_)
    have hr1:¬ r=0:=by omega
    have hnp:=hn1 hr1
    replace hf:OwnI wb.heap.size tB .u8 wf fv [(fB (c5A p) 0:Int)]:=hf
    obtain ⟨gb,cap,cur0,rfl,s1,-,s3,s4,-,-⟩:=OwnI.row hf (by simp)
    obtain ⟨ys,hys⟩:∃ ys,ys=leS 12347 2 ++ leS (n - 1:Nat) 2:=⟨_,rfl⟩
    have hyl:ys.length=4:=by rw [hys];simp [b4A]
    have hck:ddA n (c5A p)=ys ++ [(fB (c5A p) n:Int)]:=by rw [hcook1 hr1,hys,List.append_assoc]
    rw [hck]
    rw [← hys] at hb
    refine adA (ι:=Nat) (fun i=>[(0,.val v),(3,.val v3),(4,.val (.int .i64 r)),(5,.val (.int .i64 n)),(6,.val vb),(7,.val (.slice (some ⟨gb,0,none⟩) 1 cap)),(41,.val v3),(42,.val (.int .i64 n)),(43,.val (.int .i64 i))])
      (fun i w'=>Ext wb w' ∧ i ≤ n ∧ OwnI wb.heap.size tB .u8 w' (.slice (some ⟨gb,0,none⟩) 1 cap) [(fB (c5A p) i:Int)]) (fun i=>n - i)
      (fun w4 e4=>⟨0,⟨ef.trans e4,Nat.zero_le _,hf.ext e4⟩,(by repeat' (first | exact Sub.nil | refine Sub.val rfl (by first | with_reducible rfl | (congr 1;omega)) ?_ | refine Sub.same rfl ?_))⟩) ?_
    rintro i w1 ⟨he,hi,hfv⟩
    have hQi:=hQ.ext (eb.trans he)
    by_cases hil:i < n
    · obtain ⟨qd,hat,hone,hcn⟩:=hQi.at (i:=i) (by omega)
      have hkc:=g7A (blk p (kp p i))
      have hfs:fB (c5A p) (i + 1)=fB (c5A p) i + if isR (blk p (kp p i)) then 2 ^ i else 0:=rfl
      have hfl:=p7A (c5A p) i
      obtain ⟨b,hbb⟩:∃ b,b=blk p (kp p i):=⟨_,rfl⟩
      rw [← hbb] at hcn hkc hfs
      obtain ⟨kk,hkk⟩:∃ k,k=apA b:=⟨_,rfl⟩
      rw [← hkk] at hcn hkc
      have hor:=or8 (fB (c5A p) i) i (by omega) hfl
      have hfs':(kk=3 ∧ fB (c5A p) (i + 1)=fB (c5A p) i + 2 ^ i) ∨ (kk ≠ 3 ∧ fB (c5A p) (i + 1)=fB (c5A p) i):=by
        rcases hkc with ⟨k1,k2⟩ | ⟨k1,k2,-⟩ | ⟨k1,k2,-⟩ <;> rw [k2] at hfs <;> simp at hfs
        · exact .inl ⟨k1,hfs⟩
        · exact .inr ⟨by omega,hfs⟩
        · exact .inr ⟨by omega,hfs⟩
      obtain ⟨F,hF⟩:∃ F,F=fB (c5A p) i:=⟨_,rfl⟩
      rw [← hF] at hfs' hor hfv
      clear hkc hfs hfl
      have h2i:(2:Nat) ^ i ≤ 2 ^ 7:=Nat.pow_le_pow_right (by decide) (by omega)
      rcases hfs' with ⟨rfl,hfs'⟩ | ⟨hne,hfs'⟩
      · obtain ⟨gb',cap',cur,hgb,t1,t2,t3,t4,t5,t6⟩:=OwnI.row hfv (by simp)
        cases hgb
        repeat' (first|(refine oLA ?_;first|refine a0A rfl ?_|(refine oD 46 ?_;refine boA (s:=4) rfl _ rfl (fun _=>rfl) rfl (HasC.ownV hQi.1) rfl i rfl (by omega) ?_;rw [hat])|(refine oD 47 ?_;refine aqA (cs:=qcs _) rfl (fun _=>rfl) (fun _=>rfl) rfl ?_)|(refine oD 9 ?_;refine a4A (hK _ _ (n0A rfl rfl rfl (by decide) (by decide) (fun _=>rfl) (fun _=>rfl) rfl (fun _=>rfl) (fun _=>rfl) rfl hone (fun bx wx ex hbx hbc=>?_)));clear hK K;refine aeA (by kernel_rfl) (fun K hK=>?_))|(refine oD 48 ?_;refine bnA (n:=4) rfl hbc rfl rfl (fun _=>rfl) (fun _=>rfl) ?_)|(refine oD 53 ?_;refine duA rfl rfl rfl (by omega) (by omega) (by dsimp only [fits];omega) ?_;rw [show (i:Int) / 8=((0:Nat):Int) by omega])|(refine oD 54 ?_;refine acA rfl _ rfl (fun _=>rfl) rfl (HasI.ownV (hfv.ext ex)) rfl (by simp) ?_;rw [List.getD_cons_zero])|(refine oD 57 ?_;refine f8A rfl rfl rfl (by omega) (by omega) (by dsimp only [fits];omega) ?_;rw [show (i:Int) % 8=((i:Nat):Int) by omega])|(refine oD 58 ?_;refine lsA rfl rfl rfl (by omega) (by show ((i:Nat):Int) ≤ 8;omega) ?_)|(refine oD 59 ?_;refine bzA (.inr (.inl rfl)) rfl rfl rfl ?_;rw [hor])|(refine oD 60 ?_;refine c6A (s:=1) rfl rfl (fun _=>rfl) rfl rfl (by omega) (by omega) ?_)|(refine a4A (hK _ _ rfl (bgA rfl rfl rfl (ex.block t2) (fun _=>rfl) (by rw [t5];exact t3) rfl rfl (fun w4 e4=>?_)));clear hK K;dsimp only [LA.vals];refine aeA (by kernel_rfl) (fun K hK=>?_))|refine wOp ?_|(refine wCm ?_ ?_<;>intro hc)|(refine oCv ?_;first|(refine oC 63 ?_;refine a2A (f:=63) rfl rfl rfl  (.val (.int .u8 _)) (by intro u1 w e hu1;(try obtain rfl:u1=_:=hu1);exact egA (Cn.ext hcn (Ext.trans ex e))) ?_))|(refine wNl hK ?_;clear hK K))|(refine oCX ?_;first|refine h4A (id:=12) 10 (by kernel_rfl) (by kernel_rfl) (by decide) (fun K hK=>?_))|refine wG ?_|(refine wCR ?_;intro K hK)|fail)
        all_goals skip
        have hset:=OwnI.set t1 (e4.block (ex.block t2)) t3 t4 t5 t6 0 (by simp) ((F + 2 ^ i:Nat):Int)
        exact a6A (i + 1) (fun w5 e5=>⟨((he.trans (ex.trans e4)).setRow t1 _).trans e5,hil,by rw [hfs'];exact OwnI.ext hset e5⟩) (by omega) (by repeat' (first | exact Sub.nil | refine Sub.val rfl (by first | with_reducible rfl | (congr 1;omega)) ?_ | refine Sub.same rfl ?_))
      · skip
        repeat' (first|(refine oLA ?_;first|refine a0A rfl ?_|(refine oD 46 ?_;refine boA (s:=4) rfl _ rfl (fun _=>rfl) rfl (HasC.ownV hQi.1) rfl i rfl (by omega) ?_;rw [hat])|(refine oD 47 ?_;refine aqA (cs:=qcs _) rfl (fun _=>rfl) (fun _=>rfl) rfl ?_)|(refine oD 9 ?_;refine a4A (hK _ _ (n0A rfl rfl rfl (by decide) (by decide) (fun _=>rfl) (fun _=>rfl) rfl (fun _=>rfl) (fun _=>rfl) rfl hone (fun bx wx ex hbx hbc=>?_)));clear hK K;refine aeA (by kernel_rfl) (fun K hK=>?_))|(refine oD 48 ?_;refine bnA (n:=4) rfl hbc rfl rfl (fun _=>rfl) (fun _=>rfl) ?_)|refine wOp ?_|(refine wCm ?_ ?_<;>intro hc)|(refine oCv ?_;first|(refine oC 63 ?_;refine a2A (f:=63) rfl rfl rfl  (.val (.int .u8 _)) (by intro u1 w e hu1;(try obtain rfl:u1=_:=hu1);exact egA (Cn.ext hcn (Ext.trans ex e))) ?_))|(refine wNl hK ?_;clear hK K))|refine wG ?_|(refine wCR ?_;intro K hK)|fail)
        all_goals skip
        exact a6A (i + 1) (fun w5 e5=>⟨he.trans (ex.trans e5),hil,by rw [hfs'];exact OwnI.ext hfv (ex.trans e5)⟩) (by omega) (by repeat' (first | exact Sub.nil | refine Sub.val rfl (by first | with_reducible rfl | (congr 1;omega)) ?_ | refine Sub.same rfl ?_))
    · obtain rfl:i=n:=by omega
      have hbv:=hb.ext he
      repeat' (first|(refine oLA ?_;first|refine a0A rfl ?_|(refine oD 64 ?_;refine a4A (hK _ _ (btA rfl (by decide) jqA rfl hbv rfl (HasI.ownV hfv).c e5A (by unfold maxLen;simp only [List.length_cons,List.length_nil];omega) (by simp only [List.length_cons,List.length_nil];omega) (fun v' wu wv eu ho hfr hlc=>?_)));clear hK K;refine aeA (by kernel_rfl) (fun K hK=>?_))|refine wOp ?_|(refine wCm ?_ ?_<;>intro hc)|(refine wNl hK ?_;clear hK K))|refine wG ?_|(refine wCR ?_;intro K hK)|fail)
      all_goals skip
      have x3:Ext w3 wv:=Fr.ext ((eb.trans he).trans eu) hfr (fun k hk=>(Own.lt hbv k hk).1)
      have hnew:OwnI w3.heap.size tB .u8 wv v' (ys ++ [(fB (c5A p) i:Int)]):=by
        unfold OwnI;rw [List.map_append,List.length_append]
        exact Own.rebase ho (hlc.ge (fun k hk=>(Own.lt hbv k hk).1) ((eb.trans he).trans eu).size)
      exact a6A v' (fun w5 e5=>⟨x3.trans e5,OwnI.ext hnew e5⟩) (by omega) (by repeat' (first | exact Sub.nil | refine Sub.val rfl (by first | with_reducible rfl | (congr 1;omega)) ?_ | refine Sub.same rfl ?_))
  rintro vb w4 ⟨e4,hb⟩
  have hckl:(ddA n (c5A p)).length ≤ 9:=by
    rw [kkA hn8 hpos];split <;> omega
  have hany:decide (r ≠ 0)=e6A (c5A p) n:=by
    cases ha:e6A (c5A p) n with
    | true=>exact decide_eq_true (fun h0=>by rw [hr0.1 h0] at ha;cases ha)
    | false=>exact decide_eq_false (fun h0=>h0 (hr0.2 ha))
  have hhn:dhA n (e6A (c5A p) n) ≤ 100:=by unfold dhA;split <;> (try split) <;> omega
  have hdl:∀ i,(bdA (g8A p) i).length=i * 4:=fun i=>dfA i (fun j _=>hjA p j)
  have hbl:∀ i,(bdA (emA p (c5A p)) i).length ≤ i * 131074:=fun i=>imA p _ i
  have hol:(epA p (c5A p)).length ≤ 32:=by
    unfold epA
    split
    · exact Nat.zero_le _
    · rw [dfA _ (fun j _=>g4A p _ j)];omega
  rw [hany] at hhd
  refine cjA (id:=15) (ι:=Value) (fun vb=>[(0,.val v),(3,.val v3),(4,.val (.int .i64 r)),(5,.val (.int .i64 n)),(6,.val vb)]) (fun vb w'=>Ext w3 w' ∧ OwnI w3.heap.size tB .u8 w' vb (ddA n (c5A p) ++ bdA (g8A p) n)) ?_ ?_
  · skip
    repeat' (first|(refine oLA ?_;first|refine a0A rfl ?_|(refine oD 67 ?_;refine azA rfl _ rfl rfl HasI.own.c ?_;rw [hkl])|refine wOp ?_|(refine wCm ?_ ?_<;>intro hc)|(refine oCv ?_;first|(refine oC 64 ?_;refine a2A (f:=64) rfl rfl rfl  (.pred (bfA w3.heap.size tK .u16 (blA p))) (by intro u1 w e hu1;(try obtain rfl:u1=_:=hu1);exact (hks _ ((e3.trans e4).trans e)).mono (aaA (e4.trans e).size)) ?_))|(refine wNl hK ?_;clear hK K))|refine wG ?_|(refine wCR ?_;intro K hK)|fail)
    all_goals skip
    refine buA 66 rfl (fun vk wk ek hk=>?_)
    replace hk:OwnI w3.heap.size tK .u16 wk vk (blA p):=hk
    refine adA (ι:=Nat × Value) (fun j=>[(0,.val v),(3,.val v3),(4,.val (.int .i64 r)),(5,.val (.int .i64 n)),(6,.val j.2),(66,.val vk),(67,.val (.int .i64 n)),(68,.val (.int .i64 j.1))])
      (fun j w'=>Ext wk w' ∧ j.1 ≤ n ∧ OwnI w3.heap.size tB .u8 w' j.2 (ddA n (c5A p) ++ bdA (g8A p) j.1)) (fun j=>n - j.1)
      (fun w5 e5=>⟨(0,vb),⟨e5,Nat.zero_le _,by show OwnI _ _ _ _ _ (_ ++ []);rw [List.append_nil];exact OwnI.ext hb (ek.trans e5)⟩,(by repeat' (first | exact Sub.nil | refine Sub.val rfl (by first | with_reducible rfl | (congr 1;omega)) ?_ | refine Sub.same rfl ?_))⟩) ?_
    rintro ⟨i,vb2⟩ w1 ⟨he,hi,hB⟩
    dsimp only at hi hB ⊢
    have hQi:=hQ.ext ((e4.trans ek).trans he)
    have hki:=hk.ext he
    have hdi:=hdl i
    by_cases hil:i < n
    · obtain ⟨qd,hat,hone,hcn⟩:=hQi.at (i:=i) (by omega)
      obtain ⟨k1,k2,k3,k4⟩:=kaA (p:=p) (i:=i) (by omega)
      have hc0:=ne_cnt.1 k2
      have hcl2:=cnt_le (blk p (kp p i)) 65536
      have hcat:bdA (g8A p) (i + 1)=bdA (g8A p) i ++ (leS (kp p i) 2 ++ leS (cnt (blk p (kp p i)) 65536 - 1:Nat) 2):=rfl
      have hlen:∀ w' u,Cn TT w' u (blk p (kp p i)) (apA (blk p (kp p i))) → _:=fun w' u hu=>g6A hu
      obtain ⟨c,hc⟩:∃ c,c=cnt (blk p (kp p i)) 65536:=⟨_,rfl⟩
      rw [← hc] at hc0 hcl2 hcat hlen
      obtain ⟨K0,hK0⟩:∃ K0,K0=kp p i:=⟨_,rfl⟩
      rw [← hK0] at k1 k4 hcat hcn hlen
      obtain ⟨B,hBd⟩:∃ B,B=ddA n (c5A p) ++ bdA (g8A p) i:=⟨_,rfl⟩
      have hBl:B.length ≤ 1000:=by rw [hBd,List.length_append];omega
      rw [← hBd] at hB
      have hBn:ddA n (c5A p) ++ bdA (g8A p) (i + 1)=(B ++ leS K0 2) ++ leS (c - 1:Nat) 2:=by rw [hcat,hBd];simp only [List.append_assoc]
      clear hc k2 k3 hK0 hBd hcat
      repeat' (first|(refine oLA ?_;first|refine a0A rfl ?_|(refine oD 71 ?_;refine acA rfl _ rfl (fun _=>rfl) rfl (HasI.ownV hki) rfl (by omega) ?_;rw [k4])|(refine oD 78 ?_;refine boA (s:=4) rfl _ rfl (fun _=>rfl) rfl (HasC.ownV hQi.1) rfl i rfl (by omega) ?_;rw [hat])|(refine oD 79 ?_;refine aqA (cs:=qcs _) rfl (fun _=>rfl) (fun _=>rfl) rfl ?_)|(refine oD 81 ?_;refine afA rfl rfl rfl (by dsimp only [fits];omega) ?_;rw [show (c:Int) - 1=((c - 1:Nat):Int) by omega])|refine wOp ?_|(refine wCm ?_ ?_<;>intro hc)|(refine oCv ?_;first|(refine oC 65 ?_;refine a2A (f:=65) rfl rfl rfl  (.val (.int .i64 c)) (by intro u1 w e hu1;(try obtain rfl:u1=_:=hu1);exact hlen _ _ (Cn.ext hcn e)) ?_)|(refine oD 75 ?_;refine oC 62 ?_;refine a3A (f:=62) rfl rfl rfl rfl  (.pred (bfA w3.heap.size tB .u8 (B ++ leS K0 2))) (by intro u1 u2 w e hu1 hu2;(try obtain rfl:u1=_:=hu1);(try obtain rfl:u2=_:=hu2);exact (djA _ _ B K0 (OwnI.slI (OwnI.ext hB e)) (by omega) (by omega) (by omega)).mono (aaA (((e4.trans ek).trans he).trans e).size)) ?_)|(refine oD 83 ?_;refine oC 62 ?_;refine a3A (f:=62) rfl rfl rfl rfl  (.pred (bfA w3.heap.size tB .u8 ((B ++ leS K0 2) ++ leS (c - 1:Nat) 2))) (by intro u1 u2 w e hu1 hu2;(try obtain rfl:u1=_:=hu1);(try obtain rfl:u2=_:=hu2);exact (djA _ _ (B ++ leS K0 2) (c - 1:Nat) (OwnI.slI hu1) (by rw [List.length_append,b4A];omega) (by omega) (by omega)).mono (aaA (((e4.trans ek).trans he).trans e).size)) ?_))|(refine wNl hK ?_;clear hK K))|refine wG ?_|(refine wCR ?_;intro K hK)|fail)
      all_goals skip
      refine erA 6 rfl (fun vb5 w5 e5 h5=>?_)
      exact a6A (i + 1,vb5) (fun w6 e6=>⟨he.trans (e5.trans e6),hil,by rw [hBn];exact OwnI.ext h5 e6⟩) (by dsimp only;omega) (by repeat' (first | exact Sub.nil | refine Sub.val rfl (by first | with_reducible rfl | (congr 1;omega)) ?_ | refine Sub.same rfl ?_))
    · obtain rfl:i=n:=by omega
      repeat' (first|(refine oLA ?_;first|refine a0A rfl ?_|refine wOp ?_|(refine wCm ?_ ?_<;>intro hc)|(refine wNl hK ?_;clear hK K))|refine wG ?_|(refine wCR ?_;intro K hK)|fail)
      all_goals skip
      exact a6A vb2 (fun w5 e5=>⟨((e4.trans ek).trans he).trans e5,OwnI.ext hB e5⟩) (by omega) (by repeat' (first | exact Sub.nil | refine Sub.val rfl (by first | with_reducible rfl | (congr 1;omega)) ?_ | refine Sub.same rfl ?_))
  clear hb e4 w4 hks hall vb
  rintro vb w4 ⟨e4,hb⟩
  have hdn:=hdl n
  obtain ⟨H,hH⟩:∃ H,H=ddA n (c5A p) ++ bdA (g8A p) n:=⟨_,rfl⟩
  have hHl:H.length ≤ 1000:=by rw [hH,List.length_append];omega
  rw [← hH] at hb
  refine cjA (id:=20) (ι:=Value) (fun vb=>[(0,.val v),(3,.val v3),(4,.val (.int .i64 r)),(5,.val (.int .i64 n)),(6,.val vb)]) (fun vb w'=>Ext w3 w' ∧ OwnI w3.heap.size tB .u8 w' vb (H ++ epA p (c5A p))) ?_ ?_
  · by_cases hof:r=0 ∨ 4 ≤ n
    · have hoff:epA p (c5A p)=bdA (jfA p (c5A p)) n:=by
        unfold epA;rw [← hn,if_neg]
        rintro ⟨h1,h2⟩
        rw [← hany] at h1
        have:=of_decide_eq_true h1
        omega
      have hsk:(r=0) ∨ (¬ r=0 ∧ 4 ≤ n):=by omega
      rw [hoff]
      clear hoff hof
      have main:∀ (w5:World),Ext w4 w5 → True:=fun _ _=>trivial
      rcases hsk with hr0' | ⟨hr1,hn4⟩
      · skip
        repeat' (first|(refine oLA ?_;first|refine a0A rfl ?_|(refine oD 95 ?_;refine azA rfl _ rfl rfl (HasC.ownV (Own.ext hQ1 e4)) ?_)|refine wOp ?_|(refine wCm ?_ ?_<;>intro hc)|(refine oCv ?_;first|(refine oC 66 ?_;refine a3A (f:=66) rfl rfl rfl rfl  (.val (.int .i64 (dhA n (e6A (c5A p) n)))) (by intro u1 u2 w e hu1 hu2;(try obtain rfl:u1=_:=hu1);(try obtain rfl:u2=_:=hu2);exact hhd _) ?_))|(refine wNl hK ?_;clear hK K))|refine wG ?_|(refine wCR ?_;intro K hK)|fail)
        all_goals skip
        refine adA (ι:=Nat × Value) (fun j=>[(0,.val v),(3,.val v3),(4,.val (.int .i64 r)),(5,.val (.int .i64 n)),(6,.val j.2),(12,.val (.int .i64 (dhA n (e6A (c5A p) n) + (bdA (emA p (c5A p)) j.1).length:Nat))),(94,.val v3),(95,.val (.int .i64 n)),(96,.val (.int .i64 j.1))])
          (fun j w'=>Ext w4 w' ∧ j.1 ≤ n ∧ OwnI w3.heap.size tB .u8 w' j.2 (H ++ bdA (jfA p (c5A p)) j.1)) (fun j=>n - j.1)
          (fun w5 e5=>⟨(0,vb),⟨e5,Nat.zero_le _,by show OwnI _ _ _ _ _ (_ ++ []);rw [List.append_nil];exact OwnI.ext hb e5⟩,(by repeat' (first | exact Sub.nil | refine Sub.val rfl (by first | with_reducible rfl | (congr 1;omega)) ?_ | refine Sub.same rfl ?_))⟩) ?_
        rintro ⟨i,vb2⟩ w1 ⟨he,hi,hB⟩
        dsimp only at hi hB ⊢
        have hQi:=hQ.ext (e4.trans he)
        have hbi:=hbl i
        by_cases hil:i < n
        · obtain ⟨qd,hat,hone,hcn⟩:=hQi.at (i:=i) (by omega)
          have hsz:∀ w' u,Cn TT w' u (blk p (kp p i)) (apA (blk p (kp p i))) → _:=fun w' u hu=>vsA hu
          rw [q0A] at hsz
          have hcat:(bdA (emA p (c5A p)) (i + 1)).length=(bdA (emA p (c5A p)) i).length + juA (blk p (kp p i)) (isR (blk p (kp p i))):=by
            show (_ ++ emA p (c5A p) i).length=_
            rw [List.length_append];unfold emA;rw [glA];rfl
          have hofc:bdA (jfA p (c5A p)) (i + 1)=bdA (jfA p (c5A p)) i ++ leS (dhA n (e6A (c5A p) n) + (bdA (emA p (c5A p)) i).length:Nat) 4:=by rw [hn];rfl
          have hbi1:=hbl (i + 1)
          obtain ⟨sz,hszd⟩:∃ s,s=juA (blk p (kp p i)) (isR (blk p (kp p i))):=⟨_,rfl⟩
          rw [← hszd] at hsz hcat
          have hol2:(bdA (jfA p (c5A p)) i).length=i * 4:=dfA i (fun j _=>g4A p _ j)
          rw [hcat] at hbi1
          obtain ⟨L0,hL0⟩:∃ L,L=dhA n (e6A (c5A p) n) + (bdA (emA p (c5A p)) i).length:=⟨_,rfl⟩
          have hL1:dhA n (e6A (c5A p) n) + (bdA (emA p (c5A p)) (i + 1)).length=L0 + sz:=by omega
          rw [← hL0] at hofc ⊢
          obtain ⟨B,hBd⟩:∃ B,B=H ++ bdA (jfA p (c5A p)) i:=⟨_,rfl⟩
          have hBl:B.length ≤ 2000:=by rw [hBd,List.length_append];omega
          rw [← hBd] at hB
          have hBn:H ++ bdA (jfA p (c5A p)) (i + 1)=B ++ leS L0 4:=by rw [hofc,hBd];simp only [List.append_assoc]
          clear hszd hcat hofc hBd
          repeat' (first|(refine oLA ?_;first|refine a0A rfl ?_|(refine oD 98 ?_;refine boA (s:=4) rfl _ rfl (fun _=>rfl) rfl (HasC.ownV hQi.1) rfl i rfl (by omega) ?_;rw [hat])|(refine oD 99 ?_;refine aqA (cs:=qcs _) rfl (fun _=>rfl) (fun _=>rfl) rfl ?_)|(refine oD 14 ?_;refine a4A (hK _ _ (cbA rfl rfl (by decide) (fun _=>rfl) (fun _=>rfl) (fun _=>rfl) rfl hone (fun bx wx ex hbx hbc=>?_)));clear hK K;refine aeA (by kernel_rfl) (fun K hK=>?_))|(refine oD 105 ?_;refine bnA (n:=4) rfl hbc rfl rfl (fun _=>rfl) (fun _=>rfl) ?_)|refine wOp ?_|(refine wCm ?_ ?_<;>intro hc)|(refine oCv ?_;first|(refine oC 67 ?_;refine a2A (f:=67) rfl rfl rfl  (.val (.int .i64 (sz:Nat))) (by intro u1 w e hu1;(try obtain rfl:u1=_:=hu1);exact hsz _ _ (Cn.ext hcn (Ext.trans ex e))) ?_)|(refine oC 61 ?_;refine a3A (f:=61) rfl rfl rfl rfl  (.pred (bfA w3.heap.size tB .u8 (B ++ leS L0 4))) (by intro u1 u2 w e hu1 hu2;(try obtain rfl:u1=_:=hu1);(try obtain rfl:u2=_:=hu2);exact (fuA _ _ B L0 (OwnI.slI (OwnI.ext hB (Ext.trans ex e))) (by omega) (by omega) (by omega)).mono (aaA ((e4.trans he).trans (Ext.trans ex e)).size)) ?_))|(refine wNl hK ?_;clear hK K))|refine wG ?_|(refine wCR ?_;intro K hK)|fail)
          all_goals skip
          refine erA 6 rfl (fun vb5 w5 e5 h5=>?_)
          exact a6A (i + 1,vb5) (fun w6 e6=>⟨he.trans (ex.trans (e5.trans e6)),hil,by rw [hBn];exact OwnI.ext h5 e6⟩) (by dsimp only;omega) (by dsimp only;rw [hL1];(repeat' (first | exact Sub.nil | (refine Sub.val rfl ?_ ?_;first | with_reducible rfl | (congr 1;omega)) | refine Sub.same rfl ?_));done)
        · obtain rfl:i=n:=by omega
          repeat' (first|(refine oLA ?_;first|refine a0A rfl ?_|refine wOp ?_|(refine wCm ?_ ?_<;>intro hc)|(refine wNl hK ?_;clear hK K))|refine wG ?_|(refine wCR ?_;intro K hK)|fail)
          all_goals skip
          exact a6A vb2 (fun w5 e5=>⟨(e4.trans he).trans e5,OwnI.ext hB e5⟩) (by omega) (by repeat' (first | exact Sub.nil | refine Sub.val rfl (by first | with_reducible rfl | (congr 1;omega)) ?_ | refine Sub.same rfl ?_))
      · skip
        repeat' (first|(refine oLA ?_;first|refine a0A rfl ?_|(refine oD 95 ?_;refine azA rfl _ rfl rfl (HasC.ownV (Own.ext hQ1 e4)) ?_)|refine wOp ?_|(refine wCm ?_ ?_<;>intro hc)|(refine oCv ?_;first|(refine oC 66 ?_;refine a3A (f:=66) rfl rfl rfl rfl  (.val (.int .i64 (dhA n (e6A (c5A p) n)))) (by intro u1 u2 w e hu1 hu2;(try obtain rfl:u1=_:=hu1);(try obtain rfl:u2=_:=hu2);exact hhd _) ?_))|(refine wNl hK ?_;clear hK K))|refine wG ?_|(refine wCR ?_;intro K hK)|fail)
        all_goals skip
        refine adA (ι:=Nat × Value) (fun j=>[(0,.val v),(3,.val v3),(4,.val (.int .i64 r)),(5,.val (.int .i64 n)),(6,.val j.2),(12,.val (.int .i64 (dhA n (e6A (c5A p) n) + (bdA (emA p (c5A p)) j.1).length:Nat))),(94,.val v3),(95,.val (.int .i64 n)),(96,.val (.int .i64 j.1))])
          (fun j w'=>Ext w4 w' ∧ j.1 ≤ n ∧ OwnI w3.heap.size tB .u8 w' j.2 (H ++ bdA (jfA p (c5A p)) j.1)) (fun j=>n - j.1)
          (fun w5 e5=>⟨(0,vb),⟨e5,Nat.zero_le _,by show OwnI _ _ _ _ _ (_ ++ []);rw [List.append_nil];exact OwnI.ext hb e5⟩,(by repeat' (first | exact Sub.nil | refine Sub.val rfl (by first | with_reducible rfl | (congr 1;omega)) ?_ | refine Sub.same rfl ?_))⟩) ?_
        rintro ⟨i,vb2⟩ w1 ⟨he,hi,hB⟩
        dsimp only at hi hB ⊢
        have hQi:=hQ.ext (e4.trans he)
        have hbi:=hbl i
        by_cases hil:i < n
        · obtain ⟨qd,hat,hone,hcn⟩:=hQi.at (i:=i) (by omega)
          have hsz:∀ w' u,Cn TT w' u (blk p (kp p i)) (apA (blk p (kp p i))) → _:=fun w' u hu=>vsA hu
          rw [q0A] at hsz
          have hcat:(bdA (emA p (c5A p)) (i + 1)).length=(bdA (emA p (c5A p)) i).length + juA (blk p (kp p i)) (isR (blk p (kp p i))):=by
            show (_ ++ emA p (c5A p) i).length=_
            rw [List.length_append];unfold emA;rw [glA];rfl
          have hofc:bdA (jfA p (c5A p)) (i + 1)=bdA (jfA p (c5A p)) i ++ leS (dhA n (e6A (c5A p) n) + (bdA (emA p (c5A p)) i).length:Nat) 4:=by rw [hn];rfl
          have hbi1:=hbl (i + 1)
          obtain ⟨sz,hszd⟩:∃ s,s=juA (blk p (kp p i)) (isR (blk p (kp p i))):=⟨_,rfl⟩
          rw [← hszd] at hsz hcat
          have hol2:(bdA (jfA p (c5A p)) i).length=i * 4:=dfA i (fun j _=>g4A p _ j)
          rw [hcat] at hbi1
          obtain ⟨L0,hL0⟩:∃ L,L=dhA n (e6A (c5A p) n) + (bdA (emA p (c5A p)) i).length:=⟨_,rfl⟩
          have hL1:dhA n (e6A (c5A p) n) + (bdA (emA p (c5A p)) (i + 1)).length=L0 + sz:=by omega
          rw [← hL0] at hofc ⊢
          obtain ⟨B,hBd⟩:∃ B,B=H ++ bdA (jfA p (c5A p)) i:=⟨_,rfl⟩
          have hBl:B.length ≤ 2000:=by rw [hBd,List.length_append];omega
          rw [← hBd] at hB
          have hBn:H ++ bdA (jfA p (c5A p)) (i + 1)=B ++ leS L0 4:=by rw [hofc,hBd];simp only [List.append_assoc]
          clear hszd hcat hofc hBd
          repeat' (first|(refine oLA ?_;first|refine a0A rfl ?_|(refine oD 98 ?_;refine boA (s:=4) rfl _ rfl (fun _=>rfl) rfl (HasC.ownV hQi.1) rfl i rfl (by omega) ?_;rw [hat])|(refine oD 99 ?_;refine aqA (cs:=qcs _) rfl (fun _=>rfl) (fun _=>rfl) rfl ?_)|(refine oD 14 ?_;refine a4A (hK _ _ (cbA rfl rfl (by decide) (fun _=>rfl) (fun _=>rfl) (fun _=>rfl) rfl hone (fun bx wx ex hbx hbc=>?_)));clear hK K;refine aeA (by kernel_rfl) (fun K hK=>?_))|(refine oD 105 ?_;refine bnA (n:=4) rfl hbc rfl rfl (fun _=>rfl) (fun _=>rfl) ?_)|refine wOp ?_|(refine wCm ?_ ?_<;>intro hc)|(refine oCv ?_;first|(refine oC 67 ?_;refine a2A (f:=67) rfl rfl rfl  (.val (.int .i64 (sz:Nat))) (by intro u1 w e hu1;(try obtain rfl:u1=_:=hu1);exact hsz _ _ (Cn.ext hcn (Ext.trans ex e))) ?_)|(refine oC 61 ?_;refine a3A (f:=61) rfl rfl rfl rfl  (.pred (bfA w3.heap.size tB .u8 (B ++ leS L0 4))) (by intro u1 u2 w e hu1 hu2;(try obtain rfl:u1=_:=hu1);(try obtain rfl:u2=_:=hu2);exact (fuA _ _ B L0 (OwnI.slI (OwnI.ext hB (Ext.trans ex e))) (by omega) (by omega) (by omega)).mono (aaA ((e4.trans he).trans (Ext.trans ex e)).size)) ?_))|(refine wNl hK ?_;clear hK K))|refine wG ?_|(refine wCR ?_;intro K hK)|fail)
          all_goals skip
          refine erA 6 rfl (fun vb5 w5 e5 h5=>?_)
          exact a6A (i + 1,vb5) (fun w6 e6=>⟨he.trans (ex.trans (e5.trans e6)),hil,by rw [hBn];exact OwnI.ext h5 e6⟩) (by dsimp only;omega) (by dsimp only;rw [hL1];(repeat' (first | exact Sub.nil | (refine Sub.val rfl ?_ ?_;first | with_reducible rfl | (congr 1;omega)) | refine Sub.same rfl ?_));done)
        · obtain rfl:i=n:=by omega
          repeat' (first|(refine oLA ?_;first|refine a0A rfl ?_|refine wOp ?_|(refine wCm ?_ ?_<;>intro hc)|(refine wNl hK ?_;clear hK K))|refine wG ?_|(refine wCR ?_;intro K hK)|fail)
          all_goals skip
          exact a6A vb2 (fun w5 e5=>⟨(e4.trans he).trans e5,OwnI.ext hB e5⟩) (by omega) (by repeat' (first | exact Sub.nil | refine Sub.val rfl (by first | with_reducible rfl | (congr 1;omega)) ?_ | refine Sub.same rfl ?_))
    · have hoff:epA p (c5A p)=[]:=by
        unfold epA;rw [← hn,if_pos]
        exact ⟨by rw [← hany];exact decide_eq_true (by omega),by omega⟩
      rw [hoff,List.append_nil]
      repeat' (first|(refine oLA ?_;first|refine a0A rfl ?_|refine wOp ?_|(refine wCm ?_ ?_<;>intro hc)|(refine wNl hK ?_;clear hK K))|refine wG ?_|(refine wCR ?_;intro K hK)|fail)
      all_goals skip
      exact a6A vb (fun w5 e5=>⟨e4.trans e5,OwnI.ext hb e5⟩) (by omega) (by repeat' (first | exact Sub.nil | refine Sub.val rfl (by first | with_reducible rfl | (congr 1;omega)) ?_ | refine Sub.same rfl ?_))
  clear hb e4 w4 vb
  rintro vb w4 ⟨e4,hb⟩
  have himg:ccA p=(H ++ epA p (c5A p)) ++ bdA (emA p (c5A p)) n:=by
    unfold ccA luA;rw [hH,← hn];simp only [List.append_assoc]
  rw [himg]
  obtain ⟨G,hG⟩:∃ G,G=H ++ epA p (c5A p):=⟨_,rfl⟩
  have hGl:G.length ≤ 1100:=by rw [hG,List.length_append];omega
  rw [← hG] at hb ⊢
  clear himg hG
  repeat' (first|(refine oLA ?_;first|refine a0A rfl ?_|(refine oD 110 ?_;refine azA rfl _ rfl rfl (HasC.ownV (Own.ext hQ1 e4)) ?_)|refine wOp ?_|(refine wCm ?_ ?_<;>intro hc)|(refine wNl hK ?_;clear hK K))|refine wG ?_|(refine wCR ?_;intro K hK)|fail)
  all_goals skip
  refine adA (ι:=Nat × Value) (fun j=>[(6,.val j.2),(109,.val v3),(110,.val (.int .i64 n)),(111,.val (.int .i64 j.1))])
    (fun j w'=>Ext w3 w' ∧ j.1 ≤ n ∧ OwnI w3.heap.size tB .u8 w' j.2 (G ++ bdA (emA p (c5A p)) j.1)) (fun j=>n - j.1)
    (fun w5 e5=>⟨(0,vb),⟨e4.trans e5,Nat.zero_le _,by show OwnI _ _ _ _ _ (_ ++ []);rw [List.append_nil];exact OwnI.ext hb e5⟩,(by repeat' (first | exact Sub.nil | refine Sub.val rfl (by first | with_reducible rfl | (congr 1;omega)) ?_ | refine Sub.same rfl ?_))⟩) ?_
  rintro ⟨i,vb2⟩ w1 ⟨he,hi,hB⟩
  dsimp only at hi hB ⊢
  have hQi:=hQ.ext he
  have hbi:=hbl i
  have hx1:=he
  by_cases hil:i < n
  · obtain ⟨qd,hat,hone,hcn⟩:=hQi.at (i:=i) (by omega)
    have hbo:∀ w' u,Cn TT w' u (blk p (kp p i)) (apA (blk p (kp p i))) → Tab w' → _:=fun w' u hu hT'=>b3B hu hT'
    have hble:=mvA (blk p (kp p i)) (isR (blk p (kp p i)))
    have hcat:bdA (emA p (c5A p)) (i + 1)=bdA (emA p (c5A p)) i ++ deA (blk p (kp p i)) (isR (blk p (kp p i))):=rfl
    obtain ⟨D,hD⟩:∃ D,D=deA (blk p (kp p i)) (isR (blk p (kp p i))):=⟨_,rfl⟩
    rw [← hD] at hbo hble hcat
    obtain ⟨B,hBd⟩:∃ B,B=G ++ bdA (emA p (c5A p)) i:=⟨_,rfl⟩
    have hBl:B.length ≤ 2000000:=by rw [hBd,List.length_append];omega
    have hBn:G ++ bdA (emA p (c5A p)) (i + 1)=B ++ D:=by rw [hcat,hBd];simp only [List.append_assoc]
    rw [← hBd] at hB
    clear hD hBd hcat
    have hT1:=hT.ext (e3.trans hx1)
    repeat' (first|(refine oLA ?_;first|refine a0A rfl ?_|(refine oD 113 ?_;refine boA (s:=4) rfl _ rfl (fun _=>rfl) rfl (HasC.ownV hQi.1) rfl i rfl (by omega) ?_;rw [hat])|(refine oD 114 ?_;refine aqA (cs:=qcs _) rfl (fun _=>rfl) (fun _=>rfl) rfl ?_)|(refine oD 16 ?_;refine a4A (hK _ _ (cbA rfl rfl (by decide) (fun _=>rfl) (fun _=>rfl) (fun _=>rfl) rfl hone (fun bx wx ex hbx hbc=>?_)));clear hK K;refine aeA (by kernel_rfl) (fun K hK=>?_))|(refine oD 116 ?_;refine bnA (n:=4) rfl hbc rfl rfl (fun _=>rfl) (fun _=>rfl) ?_)|(refine oD 118 ?_;refine a4A (hK _ _ (b8A 117 rfl (fun vd wd ed hd=>?_)));clear hK K;replace hd:OwnI w3.heap.size tB .u8 wd vd D:=hd;have hBd:=hB.ext (ex.trans ed);refine btA rfl (by decide) jqA rfl hBd rfl (HasI.ownV hd).c e5A (by unfold maxLen;omega) (by omega) (fun v' wu wv eu ho hfr hlc=>?_);refine aeA (by kernel_rfl) (fun K hK=>?_))|refine wOp ?_|(refine wCm ?_ ?_<;>intro hc)|(refine oCv ?_;first|(refine oC 68 ?_;refine a2A (f:=68) rfl rfl rfl  (.pred (bfA w3.heap.size tB .u8 D)) (by intro u1 w e hu1;(try obtain rfl:u1=_:=hu1);exact (hbo _ _ (Cn.ext hcn (Ext.trans ex e)) (hT1.ext (Ext.trans ex e))).mono (aaA (hx1.trans (Ext.trans ex e)).size)) ?_))|(refine wNl hK ?_;clear hK K))|refine wG ?_|(refine wCR ?_;intro K hK)|fail)
    all_goals skip
    have hxd:=(ex.trans ed).trans eu
    have x3:Ext w3 wv:=Fr.ext (hx1.trans hxd) hfr (fun k hk=>(Own.lt hB k hk).1)
    have x4:Ext w w3:=e3
    have hnew:OwnI w3.heap.size tB .u8 wv v' (B ++ D):=by
      unfold OwnI;rw [List.map_append,List.length_append]
      exact Own.rebase ho (hlc.ge (fun k hk=>(Own.lt hB k hk).1) (hx1.trans hxd).size)
    exact a6A (i + 1,v') (fun w5 e5=>⟨x3.trans e5,hil,by rw [hBn];exact OwnI.ext hnew e5⟩) (by dsimp only;omega) (by repeat' (first | exact Sub.nil | refine Sub.val rfl (by first | with_reducible rfl | (congr 1;omega)) ?_ | refine Sub.same rfl ?_))
  · obtain rfl:i=n:=by omega
    repeat' (first|(refine oLA ?_;first|refine a0A rfl ?_|refine wOp ?_|(refine wCm ?_ ?_<;>intro hc)|(refine wNl hK ?_;clear hK K))|refine wG ?_|(refine wCR ?_;intro K hK)|fail)
    all_goals skip
    exact akA rfl rfl (e3.trans hx1) (fun u w5 e5 hu=>by obtain rfl:u=_:=hu;exact OwnI.ext (Own.base hB e3.size) e5)
end Go.Proofs.YtbokphkfojijoaaGreatDoor.Pt
end
section
set_option linter.unusedSimpArgs false
set_option linter.unusedVariables false
set_option maxRecDepth 3000
namespace Go.Proofs.YtbokphkfojijoaaGreatDoor.Pt
open Go.LA Go.ArrP Go.RowKit
theorem RdI.setRow' {base b at_ c:Nat} {w:World} {sl:Value} {xs:List Int} (h:RdI base w b sl xs at_) (cur:Array Value) (hb:b ≠ c) (hs:sl.ownBlock ≠ some c):RdI base (w.setRow c cur) b sl xs at_ :=
  ⟨h.1,by rw [setRow_other _ _ _ _ hb];exact h.2.1,Own.setRow h.2.2.1 cur hs,h.2.2.2⟩
abbrev tPr:Nat:=85
structure Rdr (base:Nat) (w:World) (br bc:Nat) (sl:Value) (ys:List Int) (pos:Nat) (en:Int):Prop where
  hb:base ≤ br
  hr:w.heap[br]?=some (.cells #[.pointer (some ⟨bc,0,none⟩),.int .i64 en] tPr (0,0))
  rd:RdI base w bc sl ys pos
  hy:∀ x ∈ ys,0 ≤ x ∧ x < 256
theorem Rdr.ext {base br bc pos:Nat} {w w':World} {sl:Value} {ys:List Int} {en:Int} (h:Rdr base w br bc sl ys pos en) (e:Ext w w'):Rdr base w' br bc sl ys pos en:=⟨h.hb,e.block h.hr,h.rd.ext e,h.hy⟩
theorem Rdr.ne {base br bc pos:Nat} {w:World} {sl:Value} {ys:List Int} {en:Int} (h:Rdr base w br bc sl ys pos en):br ≠ bc:=fun e=>by
  have h1:=h.hr
  rw [e,h.rd.2.1] at h1
  cases h1
theorem Rdr.step {base br bc pos pos':Nat} {w w':World} {sl:Value} {ys:List Int} {en:Int} (h:Rdr base w br bc sl ys pos en) (h':RdI base w' bc sl ys pos') (hg:w.grownBy w' (some bc)):Rdr base w' br bc sl ys pos' en :=
  ⟨h.hb,(hg.block br (Array.getElem?_eq_some_iff.1 h.hr).1 (fun e=>h.ne (Option.some.inj e))).trans h.hr,h',h.hy⟩
theorem ghA {base br bc pos n:Nat} {w:World} {sl:Value} {ys:List Int} (h:Rdr base w br bc sl ys pos 0) (hn:pos + n ≤ ys.length):Fc Tryz.prog 51 #[.pointer (some ⟨br,0,none⟩),.int .i64 n] w (Ret w (.val (.bool true))):=by
  have hr:=h.hr
  obtain ⟨r1,r2,r3,r4,r5,r6⟩:=h.rd
  have hl:∀ w',Ext w w' → _:=fun w' e=>qwA w' bc sl ys pos (e.block r2) ((OwnI.slI r3).ext e) r5
  refine Fc.of (args:=[_,_]) Tryz.func51 rfl rfl Tryz.ntmps51 (Nat.le_of_ble_eq_true rfl) ?_
  repeat' (first|(refine oLA ?_;first|refine a0A rfl ?_|(refine oNc ?_;refine a8A rfl rfl ?_)|(refine oF 0 ?_;refine a1A (a':=⟨br,0,none⟩) rfl rfl (fun _=>rfl) ?_)|(refine oF 1 ?_;refine a1A (a':=⟨br,1,none⟩) rfl rfl (fun _=>rfl) ?_)|(refine oD 8 ?_;refine a5A (c:=.int .i64 0) rfl (fun _=>rfl) rfl hr rfl ?_)|(refine oD 25 ?_;refine a5A (c:=.int .i64 0) rfl (fun _=>rfl) rfl hr rfl ?_)|(refine oD 14 ?_;refine a5A (c:=.pointer (some ⟨bc,0,none⟩)) rfl (fun _=>rfl) rfl hr rfl ?_)|refine wOp ?_|(refine wCm ?_ ?_<;>intro hc)|(refine oCv ?_;first|(refine oC 88 ?_;refine a2A (f:=88) rfl rfl rfl  (.val (.int .i64 (ys.length - pos:Int))) (by intro u1 w e hu1;(try obtain rfl:u1=_:=hu1);exact hl _ e) ?_))|(refine wNl hK ?_;clear hK K))|refine wG ?_|(refine wCR ?_;intro K hK)|fail)
  all_goals skip
  exact abA rfl rfl (Ext.refl _) rfl
theorem y3A {base br bc pos n:Nat} {w:World} {sl:Value} {ys:List Int} {en:Int} (h:Rdr base w br bc sl ys pos en) (hn:en ≠ 0):Fc Tryz.prog 51 #[.pointer (some ⟨br,0,none⟩),.int .i64 n] w (Ret w (.val (.bool false))):=by
  have hr:=h.hr
  refine Fc.of (args:=[_,_]) Tryz.func51 rfl rfl Tryz.ntmps51 (Nat.le_of_ble_eq_true rfl) ?_
  repeat' (first|(refine oLA ?_;first|refine a0A rfl ?_|(refine oNc ?_;refine a8A rfl rfl ?_)|(refine oF 1 ?_;refine a1A (a':=⟨br,1,none⟩) rfl rfl (fun _=>rfl) ?_)|(refine oD 8 ?_;refine a5A (c:=.int .i64 en) rfl (fun _=>rfl) rfl hr rfl ?_)|(refine oD 25 ?_;refine a5A (c:=.int .i64 en) rfl (fun _=>rfl) rfl hr rfl ?_)|refine wOp ?_|(refine wCm ?_ ?_<;>intro hc)|(refine wNl hK ?_;clear hK K))|refine wG ?_|(refine wCR ?_;intro K hK)|fail)
  all_goals skip
  exact abA rfl rfl (Ext.refl _) rfl
theorem aqB {base br bc pos n:Nat} {w:World} {sl:Value} {ys:List Int} (h:Rdr base w br bc sl ys pos 0) (hn:ys.length < pos + n) (hn2:n ≤ 1000000):Fc Tryz.prog 51 #[.pointer (some ⟨br,0,none⟩),.int .i64 n] w
    (fun e w'=>e=.returned (.bool false) ∧ Rdr base w' br bc sl ys pos 4 ∧ w.grownBy w' (some br)):=by
  have hr:=h.hr
  have hne:=h.ne
  have hy:=h.hy
  have hbb:=h.hb
  have hrd:=h.rd
  obtain ⟨r1,r2,r3,r4,r5,r6⟩:=h.rd
  have hl:∀ w',Ext w w' → _:=fun w' e=>qwA w' bc sl ys pos (e.block r2) ((OwnI.slI r3).ext e) r5
  refine Fc.of (args:=[_,_]) Tryz.func51 rfl rfl Tryz.ntmps51 (Nat.le_of_ble_eq_true rfl) ?_
  repeat' (first|(refine oLA ?_;first|refine a0A rfl ?_|(refine oNc ?_;refine a8A rfl rfl ?_)|(refine oF 0 ?_;refine a1A (a':=⟨br,0,none⟩) rfl rfl (fun _=>rfl) ?_)|(refine oF 1 ?_;refine a1A (a':=⟨br,1,none⟩) rfl rfl (fun _=>rfl) ?_)|(refine oD 8 ?_;refine a5A (c:=.int .i64 0) rfl (fun _=>rfl) rfl hr rfl ?_)|(refine oD 14 ?_;refine a5A (c:=.pointer (some ⟨bc,0,none⟩)) rfl (fun _=>rfl) rfl hr rfl ?_)|(refine a4A (hK _ _ (bgA rfl rfl rfl hr (fun _=>rfl) (Nat.lt_succ_self 1) rfl rfl (fun w4 e4=>?_)));clear hK K;dsimp only [LA.vals];have hr4:=setRow_heap w4 br _ (#[.pointer (some ⟨bc,0,none⟩),.int .i64 0].setIfInBounds 1 (.int .i64 4)) _ (0,0) (e4.block hr);refine aeA (by kernel_rfl) (fun K hK=>?_))|(refine oD 25 ?_;refine a5A (c:=.int .i64 4) rfl (fun _=>rfl) rfl hr4 rfl ?_)|refine wOp ?_|(refine wCm ?_ ?_<;>intro hc)|(refine oCv ?_;first|(refine oC 88 ?_;refine a2A (f:=88) rfl rfl rfl  (.val (.int .i64 (ys.length - pos:Int))) (by intro u1 w e hu1;(try obtain rfl:u1=_:=hu1);exact hl _ e) ?_))|(refine wNl hK ?_;clear hK K))|refine wG ?_|(refine wCR ?_;intro K hK)|fail)
  all_goals skip
  refine bxA rfl (fun v5 w5 e5 h5=>?_)
  obtain rfl:v5=_:=h5
  have hrs:sl.ownBlock ≠ some br:=fun hq=>Own.apart r3 hr (by decide) hq
  have hrd5:RdI base w5 bc sl ys pos:=(RdI.setRow' (hrd.ext e4) _ hne.symm hrs).ext e5
  refine ⟨rfl,⟨hbb,e5.block hr4,hrd5,hy⟩,⟨e5.os.trans e4.os,e5.tape.trans e4.tape,e5.output.trans e4.output,?_,fun k hk hne'=>?_⟩⟩
  · have h6:=e5.size;have h7:=e4.size;simp at h6;omega
  · rw [Below.block e5 k (by have h7:=e4.size;simp;omega),setRow_other _ _ _ _ (fun q=>hne' (by rw [q])),Below.block e4 k hk]
theorem e2A {base br bc pos:Nat} {w:World} {sl:Value} {ys:List Int} (h:Rdr base w br bc sl ys pos 0):Fc Tryz.prog 53 #[.pointer (some ⟨br,0,none⟩),.bool true] w (Ret w (.val (.bool true))):=by
  have hr:=h.hr
  refine Fc.of (args:=[_,_]) Tryz.func53 rfl rfl Tryz.ntmps53 (Nat.le_of_ble_eq_true rfl) ?_
  repeat' (first|(refine oLA ?_;first|refine a0A rfl ?_|(refine oNc ?_;refine a8A rfl rfl ?_)|(refine oF 1 ?_;refine a1A (a':=⟨br,1,none⟩) rfl rfl (fun _=>rfl) ?_)|(refine oD 8 ?_;refine a5A (c:=.int .i64 0) rfl (fun _=>rfl) rfl hr rfl ?_)|(refine oD 20 ?_;refine a5A (c:=.int .i64 0) rfl (fun _=>rfl) rfl hr rfl ?_)|refine wOp ?_|(refine wCm ?_ ?_<;>intro hc)|(refine wNl hK ?_;clear hK K))|refine wG ?_|(refine wCR ?_;intro K hK)|fail)
  all_goals skip
  exact abA rfl rfl (Ext.refl _) rfl
end Go.Proofs.YtbokphkfojijoaaGreatDoor.Pt
end
section
set_option linter.unusedSimpArgs false
set_option linter.unusedVariables false
set_option maxRecDepth 3000
namespace Go.Proofs.YtbokphkfojijoaaGreatDoor.Pt
open Go.LA Go.ArrP Go.RowKit
theorem Ext.grownBy {w w':World} (h:Ext w w') {r:Option Nat}:w.grownBy w' r:=⟨h.os,h.tape,h.output,h.size,fun k hk _=>Below.block h k hk⟩
set_option maxHeartbeats 2000000 in
theorem yuA {base br bc pos:Nat} {w:World} {sl:Value} {ys xs:List Int} (h:Rdr base w br bc sl ys pos 0) (hA:AtB ys pos (flG (fun x=>leS x 2) xs)) (hx:∀ x ∈ xs,0 ≤ x ∧ x < 65536) (hn:xs.length ≤ 4096) (hinc:Inc xs) (hlow:Low xs) :
    Fc Tryz.prog 90 #[.pointer (some ⟨br,0,none⟩),.int .i64 xs.length] w (fun en w'=>∃ v,en=.returned (.tuple #[v,.bool true]) ∧ Cn TT w' v (c7A xs) 1 ∧ Rdr base w' br bc sl ys (pos + 2 * xs.length) 0 ∧ w.grownBy w' (some bc)):=by
  have hle:=hA.le
  rw [diA _ (fun x=>b4A x 2)] at hle
  have hhas:∀ w',Ext w w' → _:=fun w' e=>ghA (n:=2 * xs.length) (h.ext e) (by omega)
  have hbcl:=(Array.getElem?_eq_some_iff.1 h.rd.2.1).1
  refine Fc.of (args:=[_,_]) Tryz.func90 rfl rfl Tryz.ntmps90 (Nat.le_of_ble_eq_true rfl) ?_
  repeat' (first|(refine oLA ?_;first|refine a0A rfl ?_|(refine oD 4 ?_;refine a4A (hK _ _ (hbA rfl (by decide) (fun _=>rfl) (fun b4 w4 e4 hb4 hh4=>?_)));clear hK K;refine aeA (by kernel_rfl) (fun K hK=>?_))|(refine oD 10 ?_;refine fmA rfl rfl rfl (by dsimp only [fits];omega) ?_;rw [show (2:Int) * (xs.length:Int)=((2 * xs.length:Nat):Int) by omega])|(refine oD 15 ?_;refine e8A (n:=xs.length) rfl czA rfl rfl (by omega) (by omega) ?_)|(refine oD 17 ?_;refine azA rfl _ rfl rfl HasI.own.c ?_;rw [List.length_replicate])|refine wOp ?_|(refine wCm ?_ ?_<;>intro hc)|(refine oCv ?_;first|(refine oC 51 ?_;refine a3A (f:=51) rfl rfl rfl rfl  (.val (.bool true)) (by intro u1 u2 w e hu1 hu2;(try obtain rfl:u1=_:=hu1);(try obtain rfl:u2=_:=hu2);exact hhas _ (e4.trans e)) ?_))|(refine wNl hK ?_;clear hK K))|refine wG ?_|(refine wCR ?_;intro K hK)|fail)
  all_goals skip
  refine buA 6 rfl (fun v6 w6 e6 h6=>?_)
  replace h6:OwnI w4.heap.size tK .u16 w6 v6 (List.replicate xs.length 0):=h6
  refine adA (ι:=Nat) (fun i=>[(0,.val (.pointer (some ⟨br,0,none⟩))),(4,.val (.pointer (some ⟨b4,0,none⟩))),(6,.val v6),(17,.val (.int .i64 xs.length)),(18,.val (.int .i64 i))])
    (fun i w'=>i ≤ xs.length ∧ Rdr base w' br bc sl ys (pos + 2 * i) 0 ∧ w4.grownBy w' (some bc) ∧ OwnI w4.heap.size tK .u16 w' v6 (xs.take i ++ List.replicate (xs.length - i) 0)) (fun i=>xs.length - i)
    (fun w5 e5=>⟨0,⟨Nat.zero_le _,(h.ext e4).ext (e6.trans e5),Ext.grownBy (e6.trans e5),by simpa using OwnI.ext h6 e5⟩,(by repeat' (first | exact Sub.nil | refine Sub.val rfl (by first | with_reducible rfl | (congr 1;omega)) ?_ | refine Sub.same rfl ?_))⟩) ?_
  rintro i w2 ⟨hi,hRd,hG,ho⟩
  have hsz4:=Fr.size (Fr.grown hG)
  have hs4:=e4.size
  have hh42:=(Fr.grown hG).at hh4 (fun e=>by cases e;omega)
  have hrr:=hRd.hr
  by_cases hil:i < xs.length
  · have hAi:=hA.fl 0 hil
    rw [diA _ (fun x=>b4A x 2),List.length_take,Nat.min_eq_left (by omega),Nat.mul_comm i 2] at hAi
    obtain ⟨hx0,hx1⟩:=hx _ (show xs.getD i 0 ∈ xs by rw [List.getD_eq_getElem?_getD,List.getElem?_eq_getElem hil];exact List.getElem_mem hil)
    have hll:(xs.take i ++ List.replicate (xs.length - i) 0).length=xs.length:=by rw [List.length_append,List.length_take,List.length_replicate];omega
    obtain ⟨gb,cap,cur,rfl,t1,t2,t3,t4,t5,t6⟩:=OwnI.row ho (by omega)
    rw [hll] at t3 ⊢
    have hset:(xs.take i ++ List.replicate (xs.length - i) 0).set i (xs.getD i 0)=xs.take (i + 1) ++ List.replicate (xs.length - (i + 1)) 0:=by
      rw [take_snoc 0 hil,show xs.length - i=(xs.length - (i + 1)) + 1 by omega,List.replicate_succ,List.set_append_right _ _ (by rw [List.length_take];omega),List.length_take,Nat.min_eq_left (by omega),Nat.sub_self,List.set_cons_zero,List.append_assoc]
      rfl
    obtain ⟨x,hxd⟩:∃ x,x=xs.getD i 0:=⟨_,rfl⟩
    rw [← hxd] at hAi hx0 hx1 hset
    repeat' (first|(refine oLA ?_;first|refine a0A rfl ?_|(refine oNc ?_;refine a8A rfl rfl ?_)|(refine oF 0 ?_;refine a1A (a':=⟨br,0,none⟩) rfl rfl (fun _=>rfl) ?_)|(refine oD 26 ?_;refine a5A (c:=.pointer (some ⟨bc,0,none⟩)) rfl (fun _=>rfl) rfl hrr rfl ?_)|(refine oD 27 ?_;refine a4A (hK _ _ (c3A rfl (by decide) rfl rfl (fun v w'=>v=.int .u16 x ∧ RdI base w' bc sl ys (pos + 2 * i + 2) ∧ w2.grownBy w' (some bc)) (fun w8 e8=>(jaA w8 base bc sl ys _ x (hRd.rd.ext e8) hRd.hy hAi hx0 hx1).mono fun en w' h=>⟨_,h.1,rfl,h.2.1,arA e8 h.2.2⟩) (fun vv wA hAA=>?_)));clear hK K;obtain ⟨rfl,hA1,hA2⟩:=hAA;dsimp only [LA.vals];have t2':=(Fr.grown hA2).at t2 (fun e=>by cases e;omega);refine aeA (by kernel_rfl) (fun K hK=>?_))|(refine oD 28 ?_;refine c6A (s:=1) rfl rfl (fun _=>rfl) rfl rfl (by omega) (by omega) ?_;rw [Int.toNat_natCast,Nat.zero_add,Nat.mul_one])|(refine a4A (hK _ _ (bgA rfl rfl rfl t2' (fun _=>rfl) (by omega) rfl rfl (fun wB eB=>?_)));clear hK K;dsimp only [LA.vals];refine aeA (by kernel_rfl) (fun K hK=>?_))|refine wOp ?_|(refine wCm ?_ ?_<;>intro hc)|(refine wNl hK ?_;clear hK K))|refine wG ?_|(refine wCR ?_;intro K hK)|fail)
    all_goals skip
    have hRA:=hRd.step hA1 hA2
    have hst:=OwnI.set t1 (eB.block t2') (by omega) t4 t5 t6 i (by omega) x
    rw [hset,hll] at hst
    have hne1:br ≠ gb:=fun e=>by
      have h1:=(hRA.ext eB).hr
      rw [e,eB.block t2'] at h1;cases h1
    have hRB:Rdr base (wB.setRow gb (cur.setIfInBounds i (.int .u16 x))) br bc sl ys (pos + 2 * (i + 1)) 0:=by
      have h2:=hRA.ext eB
      refine ⟨h2.hb,by rw [setRow_other _ _ _ _ hne1];exact h2.hr,?_,h2.hy⟩
      have:=RdI.setRow' h2.rd (cur.setIfInBounds i (.int .u16 x)) (c:=gb) (fun e=>by omega) (fun hq=>by
        have hlt:=(Own.lt h.rd.2.2.1 gb hq).2
        omega)
      rw [show pos + 2 * (i + 1)=pos + 2 * i + 2 by omega];exact this
    have hGB:w4.grownBy (wB.setRow gb (cur.setIfInBounds i (.int .u16 x))) (some bc):=by
      refine Fr.grownBy (Fr.mono ?_ (fun k hk=>hk))
      have h3:=Fr.grown (aoA (d2A hG hA2) eB)
      exact ⟨h3.os,h3.tape,h3.output,by simpa using h3.size,fun k hk hn=>(setRow_other _ _ _ _ (fun e=>by omega)).trans (h3.block k hk hn)⟩
    exact a6A (i + 1) (fun w5 e5=>⟨hil,hRB.ext e5,aoA hGB e5,OwnI.ext hst e5⟩) (by omega) (by repeat' (first | exact Sub.nil | refine Sub.val rfl (by first | with_reducible rfl | (congr 1;omega)) ?_ | refine Sub.same rfl ?_))
  · obtain rfl:i=xs.length:=by omega
    rw [List.take_length,Nat.sub_self,List.replicate_zero,List.append_nil] at ho
    repeat' (first|(refine oLA ?_;first|refine a0A rfl ?_|(refine a4A (hK _ _ (isA (q:=32) (φ:=cnP TT (c7A xs) 1) (n:=4) rfl rfl rfl hh42 rfl b5A (fun _=>rfl) (fun cs wC eC hcn hcc hcb=>?_)));clear hK K;refine aeA (by kernel_rfl) (fun K hK=>?_))|refine wOp ?_|(refine wCm ?_ ?_<;>intro hc)|(refine oCv ?_;first|(refine oC 121 ?_;refine a2A (f:=121) rfl rfl rfl  (.tup2 (.pred (cnP TT (c7A xs) 1)) (.val (.bool true))) (by intro u1 w e hu1;(try obtain rfl:u1=_:=hu1);exact qfA (OwnI.slI (OwnI.ext ho e)) hinc hlow tt) ?_))|(refine wNl hK ?_;clear hK K))|refine wG ?_|(refine wCR ?_;intro K hK)|fail)
    all_goals skip
    refine kpA rfl rfl (setRow_heap wC b4 _ cs _ (0,0) hcb) hcn rfl rfl rfl (fun w5 e5 u2 hu2=>?_)
    obtain rfl:u2=.bool true:=hu2
    have h2:=hRd.ext eC
    have hne1:br ≠ b4:=fun e=>by
      have h1:=h2.hr
      rw [e,hcb] at h1;cases h1
    have hRB:Rdr base (wC.setRow b4 cs) br bc sl ys (pos + 2 * xs.length) 0 :=
      ⟨h2.hb,by rw [setRow_other _ _ _ _ hne1];exact h2.hr,RdI.setRow' h2.rd cs (c:=b4) (fun e=>by omega) (fun hq=>by
        have hlt:=(Own.lt h.rd.2.2.1 b4 hq).2
        omega),h2.hy⟩
    have hGB:w.grownBy (wC.setRow b4 cs) (some bc):=by
      refine Fr.grownBy (Fr.mono ?_ (fun k hk=>hk))
      have h3:=Fr.grown (aoA (arA e4 hG) eC)
      exact ⟨h3.os,h3.tape,h3.output,by simpa using h3.size,fun k hk hn=>(setRow_other _ _ _ _ (fun e=>by omega)).trans (h3.block k hk hn)⟩
    exact ⟨_,rfl,(Cn.setRow hcc hcb ⟨by decide,by decide,by decide⟩ cs).ext e5,hRB.ext e5,aoA hGB e5⟩
theorem avB:El Tryz.prog 93 61 (.int .u64 0) 1 8:=⟨rfl,rfl,rfl,by decide⟩
set_option maxHeartbeats 2000000 in
theorem wmA {base br bc pos:Nat} {w:World} {sl:Value} {ys xs:List Int} (h:Rdr base w br bc sl ys pos 0) (hA:AtB ys pos (flG (fun x=>leS x 8) xs)) (hx:∀ x ∈ xs,0 ≤ x ∧ x < 18446744073709551616) (hn:xs.length ≤ 4096) {q:Nat → Bool} (hq:xs=wordsOf q) (hp:q 65536=false) (hxl:xs.length=1024) (c:Int) :
    Fc Tryz.prog 92 #[.pointer (some ⟨br,0,none⟩),.int .i64 c] w (fun en w'=>∃ v,en=.returned (.tuple #[v,.bool true]) ∧ Cn TT w' v q 2 ∧ Rdr base w' br bc sl ys (pos + 8 * xs.length) 0 ∧ w.grownBy w' (some bc)):=by
  have hle:=hA.le
  rw [diA _ (fun x=>b4A x 8)] at hle
  have hhas:∀ w',Ext w w' → _:=fun w' e=>ghA (n:=8 * xs.length) (h.ext e) (by omega)
  have hbcl:=(Array.getElem?_eq_some_iff.1 h.rd.2.1).1
  refine Fc.of (args:=[_,_]) Tryz.func92 rfl rfl Tryz.ntmps92 (Nat.le_of_ble_eq_true rfl) ?_
  repeat' (first|(refine oLA ?_;first|refine a0A rfl ?_|(refine oD 4 ?_;refine a4A (hK _ _ (hbA rfl (by decide) (fun _=>rfl) (fun b4 w4 e4 hb4 hh4=>?_)));clear hK K;refine aeA (by kernel_rfl) (fun K hK=>?_))|(refine oD 12 ?_;refine e8A (n:=xs.length) rfl avB (by rw [hxl];rfl) (by rw [hxl];rfl) (by omega) (by omega) ?_)|(refine oD 14 ?_;refine azA rfl _ rfl rfl HasI.own.c ?_;rw [List.length_replicate])|refine wOp ?_|(refine wCm ?_ ?_<;>intro hc)|(refine oCv ?_;first|(refine oC 51 ?_;refine a3A (f:=51) rfl rfl rfl rfl  (.val (.bool true)) (by intro u1 u2 w e hu1 hu2;(try obtain rfl:u1=_:=hu1);(try obtain rfl:u2=_:=hu2);exact by have:=hhas _ (e4.trans e);rw [hxl] at this;exact this) ?_))|(refine wNl hK ?_;clear hK K))|refine wG ?_|(refine wCR ?_;intro K hK)|fail)
  all_goals skip
  refine buA 6 rfl (fun v6 w6 e6 h6=>?_)
  replace h6:OwnI w4.heap.size 61 .u64 w6 v6 (List.replicate xs.length 0):=h6
  refine adA (ι:=Nat) (fun i=>[(0,.val (.pointer (some ⟨br,0,none⟩))),(4,.val (.pointer (some ⟨b4,0,none⟩))),(6,.val v6),(14,.val (.int .i64 xs.length)),(15,.val (.int .i64 i))])
    (fun i w'=>i ≤ xs.length ∧ Rdr base w' br bc sl ys (pos + 8 * i) 0 ∧ w4.grownBy w' (some bc) ∧ OwnI w4.heap.size 61 .u64 w' v6 (xs.take i ++ List.replicate (xs.length - i) 0)) (fun i=>xs.length - i)
    (fun w5 e5=>⟨0,⟨Nat.zero_le _,(h.ext e4).ext (e6.trans e5),Ext.grownBy (e6.trans e5),by simpa using OwnI.ext h6 e5⟩,(by repeat' (first | exact Sub.nil | refine Sub.val rfl (by first | with_reducible rfl | (congr 1;omega)) ?_ | refine Sub.same rfl ?_))⟩) ?_
  rintro i w2 ⟨hi,hRd,hG,ho⟩
  have hsz4:=Fr.size (Fr.grown hG)
  have hs4:=e4.size
  have hh42:=(Fr.grown hG).at hh4 (fun e=>by cases e;omega)
  have hrr:=hRd.hr
  by_cases hil:i < xs.length
  · have hAi:=hA.fl 0 hil
    rw [diA _ (fun x=>b4A x 8),List.length_take,Nat.min_eq_left (by omega),Nat.mul_comm i 8] at hAi
    obtain ⟨hx0,hx1⟩:=hx _ (show xs.getD i 0 ∈ xs by rw [List.getD_eq_getElem?_getD,List.getElem?_eq_getElem hil];exact List.getElem_mem hil)
    have hll:(xs.take i ++ List.replicate (xs.length - i) 0).length=xs.length:=by rw [List.length_append,List.length_take,List.length_replicate];omega
    obtain ⟨gb,cap,cur,rfl,t1,t2,t3,t4,t5,t6⟩:=OwnI.row ho (by omega)
    rw [hll] at t3 ⊢
    have hset:(xs.take i ++ List.replicate (xs.length - i) 0).set i (xs.getD i 0)=xs.take (i + 1) ++ List.replicate (xs.length - (i + 1)) 0:=by
      rw [take_snoc 0 hil,show xs.length - i=(xs.length - (i + 1)) + 1 by omega,List.replicate_succ,List.set_append_right _ _ (by rw [List.length_take];omega),List.length_take,Nat.min_eq_left (by omega),Nat.sub_self,List.set_cons_zero,List.append_assoc]
      rfl
    obtain ⟨x,hxd⟩:∃ x,x=xs.getD i 0:=⟨_,rfl⟩
    rw [← hxd] at hAi hx0 hx1 hset
    repeat' (first|(refine oLA ?_;first|refine a0A rfl ?_|(refine oNc ?_;refine a8A rfl rfl ?_)|(refine oF 0 ?_;refine a1A (a':=⟨br,0,none⟩) rfl rfl (fun _=>rfl) ?_)|(refine oD 23 ?_;refine a5A (c:=.pointer (some ⟨bc,0,none⟩)) rfl (fun _=>rfl) rfl hrr rfl ?_)|(refine oD 24 ?_;refine a4A (hK _ _ (c3A rfl (by decide) rfl rfl (fun v w'=>v=.int .u64 x ∧ RdI base w' bc sl ys (pos + 8 * i + 8) ∧ w2.grownBy w' (some bc)) (fun w8 e8=>(zoA w8 base bc sl ys _ x (hRd.rd.ext e8) hRd.hy hAi hx0 hx1).mono fun en w' h=>⟨_,h.1,rfl,h.2.1,arA e8 h.2.2⟩) (fun vv wA hAA=>?_)));clear hK K;obtain ⟨rfl,hA1,hA2⟩:=hAA;dsimp only [LA.vals];have t2':=(Fr.grown hA2).at t2 (fun e=>by cases e;omega);refine aeA (by kernel_rfl) (fun K hK=>?_))|(refine oD 25 ?_;refine c6A (s:=1) rfl rfl (fun _=>rfl) rfl rfl (by omega) (by omega) ?_;rw [Int.toNat_natCast,Nat.zero_add,Nat.mul_one])|(refine a4A (hK _ _ (bgA rfl rfl rfl t2' (fun _=>rfl) (by omega) rfl rfl (fun wB eB=>?_)));clear hK K;dsimp only [LA.vals];refine aeA (by kernel_rfl) (fun K hK=>?_))|refine wOp ?_|(refine wCm ?_ ?_<;>intro hc)|(refine wNl hK ?_;clear hK K))|refine wG ?_|(refine wCR ?_;intro K hK)|fail)
    all_goals skip
    have hRA:=hRd.step hA1 hA2
    have hst:=OwnI.set t1 (eB.block t2') (by omega) t4 t5 t6 i (by omega) x
    rw [hset,hll] at hst
    have hne1:br ≠ gb:=fun e=>by
      have h1:=(hRA.ext eB).hr
      rw [e,eB.block t2'] at h1;cases h1
    have hRB:Rdr base (wB.setRow gb (cur.setIfInBounds i (.int .u64 x))) br bc sl ys (pos + 8 * (i + 1)) 0:=by
      have h2:=hRA.ext eB
      refine ⟨h2.hb,by rw [setRow_other _ _ _ _ hne1];exact h2.hr,?_,h2.hy⟩
      have:=RdI.setRow' h2.rd (cur.setIfInBounds i (.int .u64 x)) (c:=gb) (fun e=>by omega) (fun hq=>by
        have hlt:=(Own.lt h.rd.2.2.1 gb hq).2
        omega)
      rw [show pos + 8 * (i + 1)=pos + 8 * i + 8 by omega];exact this
    have hGB:w4.grownBy (wB.setRow gb (cur.setIfInBounds i (.int .u64 x))) (some bc):=by
      refine Fr.grownBy (Fr.mono ?_ (fun k hk=>hk))
      have h3:=Fr.grown (aoA (d2A hG hA2) eB)
      exact ⟨h3.os,h3.tape,h3.output,by simpa using h3.size,fun k hk hn=>(setRow_other _ _ _ _ (fun e=>by omega)).trans (h3.block k hk hn)⟩
    exact a6A (i + 1) (fun w5 e5=>⟨hil,hRB.ext e5,aoA hGB e5,OwnI.ext hst e5⟩) (by omega) (by repeat' (first | exact Sub.nil | refine Sub.val rfl (by first | with_reducible rfl | (congr 1;omega)) ?_ | refine Sub.same rfl ?_))
  · obtain rfl:i=xs.length:=by omega
    rw [List.take_length,Nat.sub_self,List.replicate_zero,List.append_nil] at ho
    repeat' (first|(refine oLA ?_;first|refine a0A rfl ?_|(refine a4A (hK _ _ (isA (q:=29) (φ:=cnP TT q 2) (n:=4) rfl rfl rfl hh42 rfl b5A (fun _=>rfl) (fun cs wC eC hcn hcc hcb=>?_)));clear hK K;refine aeA (by kernel_rfl) (fun K hK=>?_))|refine wOp ?_|(refine wCm ?_ ?_<;>intro hc)|(refine oCv ?_;first|(refine oC 126 ?_;refine a2A (f:=126) rfl rfl rfl  (.tup2 (.pred (cnP TT q 2)) (.val (.bool true))) (by intro u1 w e hu1;(try obtain rfl:u1=_:=hu1);exact xjA (by rw [← hq];exact OwnI.slI (OwnI.ext ho e)) hp tt) ?_))|(refine wNl hK ?_;clear hK K))|refine wG ?_|(refine wCR ?_;intro K hK)|fail)
    all_goals skip
    refine kpA rfl rfl (setRow_heap wC b4 _ cs _ (0,0) hcb) hcn rfl rfl rfl (fun w5 e5 u2 hu2=>?_)
    obtain rfl:u2=.bool true:=hu2
    have h2:=hRd.ext eC
    have hne1:br ≠ b4:=fun e=>by
      have h1:=h2.hr
      rw [e,hcb] at h1;cases h1
    have hRB:Rdr base (wC.setRow b4 cs) br bc sl ys (pos + 8 * xs.length) 0 :=
      ⟨h2.hb,by rw [setRow_other _ _ _ _ hne1];exact h2.hr,RdI.setRow' h2.rd cs (c:=b4) (fun e=>by omega) (fun hq=>by
        have hlt:=(Own.lt h.rd.2.2.1 b4 hq).2
        omega),h2.hy⟩
    have hGB:w.grownBy (wC.setRow b4 cs) (some bc):=by
      refine Fr.grownBy (Fr.mono ?_ (fun k hk=>hk))
      have h3:=Fr.grown (aoA (arA e4 hG) eC)
      exact ⟨h3.os,h3.tape,h3.output,by simpa using h3.size,fun k hk hn=>(setRow_other _ _ _ _ (fun e=>by omega)).trans (h3.block k hk hn)⟩
    exact ⟨_,rfl,(Cn.setRow hcc hcb ⟨by decide,by decide,by decide⟩ cs).ext e5,hRB.ext e5,aoA hGB e5⟩
end Go.Proofs.YtbokphkfojijoaaGreatDoor.Pt
end
section
set_option linter.unusedSimpArgs false
set_option linter.unusedVariables false
set_option maxRecDepth 3000
namespace Go.Proofs.YtbokphkfojijoaaGreatDoor.Pt
open Go.LA Go.ArrP Go.RowKit
theorem el_rn:El Tryz.prog 94 tRn (.agg #[.int .u16 0,.int .u16 0]) 2 4:=⟨rfl,rfl,rfl,by decide⟩
theorem ikA:∀ (rs:List Rn) (i:Nat) (f m:Int),i < rs.length → ((cwA rs).set (i * 2) (.int .u16 f)).set (i * 2 + 1) (.int .u16 m)=cwA (rs.set i (f,m))
  | [],i,f,m,h=>by simp at h
  | r :: rs,0,f,m,h=>rfl
  | r :: rs,i + 1,f,m,h=>by
    have ih:=ikA rs i f m (by simpa using h)
    rw [show (i + 1) * 2=i * 2 + 1 + 1 by omega,show i * 2 + 1 + 1 + 1=(i * 2 + 1) + 1 + 1 by omega]
    simp only [cwA,List.set_cons_succ,ih]
theorem Rdr.setRow {base br bc pos:Nat} {w:World} {sl:Value} {ys:List Int} {en:Int} (h:Rdr base w br bc sl ys pos en) {gb:Nat} {cur:Array Value} {e:TypeId} {j:Nat × Nat} (hb:w.heap[gb]?=some (.cells cur e j)) (he:e ≠ tPr) (h1:bc ≠ gb) (h2:sl.ownBlock ≠ some gb) (cs:Array Value):Rdr base (w.setRow gb cs) br bc sl ys pos en:=by
  have hne1:br ≠ gb:=fun e'=>by
    have h3:=h.hr
    rw [e',hb] at h3;cases h3;exact he rfl
  exact ⟨h.hb,by rw [setRow_other _ _ _ _ hne1];exact h.hr,RdI.setRow' h.rd cs h1 h2,h.hy⟩
theorem euA {w0 w:World} {r:Option Nat} (h:w0.grownBy w r) {gb:Nat} (hb:w0.heap.size ≤ gb) (cs:Array Value):w0.grownBy (w.setRow gb cs) r:=by
  refine Fr.grownBy (Fr.mono ?_ (fun k hk=>hk))
  have h3:=Fr.grown h
  exact ⟨h3.os,h3.tape,h3.output,by simpa using h3.size,fun k hk hn=>(setRow_other _ _ _ _ (fun e=>by omega)).trans (h3.block k hk hn)⟩
set_option maxHeartbeats 4000000 in
theorem zuA {base br bc pos:Nat} {w:World} {sl:Value} {ys:List Int} {q:Nat → Bool} (h:Rdr base w br bc sl ys pos 0) (hA:AtB ys pos (leS (auA q).length 2 ++ flG sxA (auA q))) (hq0:0 < (auA q).length) (hp:q 65536=false) (c:Int) :
    Fc Tryz.prog 91 #[.pointer (some ⟨br,0,none⟩),.int .i64 c] w (fun en w'=>∃ v,en=.returned (.tuple #[v,.bool true]) ∧ Cn TT w' v q 3 ∧ Rdr base w' br bc sl ys (pos + 2 + 4 * (auA q).length) 0 ∧ w.grownBy w' (some bc)):=by
  have hfew:=jvA q
  have hu:=e3A q
  obtain ⟨rs,hrs⟩:∃ rs,rs=auA q:=⟨_,rfl⟩
  rw [← hrs] at hA hq0 hfew hu ⊢
  have hA0:=hA.left
  have hA1:=hA.right
  rw [b4A] at hA1
  have hle0:=hA0.le
  have hle1:=hA1.le
  rw [b4A] at hle0
  rw [diA _ hfA] at hle1
  have hhas:∀ w',Ext w w' → Fc Tryz.prog 51 #[.pointer (some ⟨br,0,none⟩),.int .i64 2] w' (Ret w' (.val (.bool true))):=fun w' e=>ghA (n:=2) (h.ext e) hle0
  have hbcl:=(Array.getElem?_eq_some_iff.1 h.rd.2.1).1
  have hrr:=h.hr
  refine Fc.of (args:=[_,_]) Tryz.func91 rfl rfl Tryz.ntmps91 (Nat.le_of_ble_eq_true rfl) ?_
  repeat' (first|(refine oLA ?_;first|refine a0A rfl ?_|(refine oD 4 ?_;refine a4A (hK _ _ (hbA rfl (by decide) (fun _=>rfl) (fun b4 w4 e4 hb4 hh4=>?_)));clear hK K;refine aeA (by kernel_rfl) (fun K hK=>?_))|(refine oNc ?_;refine a8A rfl rfl ?_)|(refine oF 0 ?_;refine a1A (a':=⟨br,0,none⟩) rfl rfl (fun _=>rfl) ?_)|(refine oD 16 ?_;refine a5A (c:=.pointer (some ⟨bc,0,none⟩)) rfl (fun _=>rfl) rfl (Ext.block e4 hrr) rfl ?_)|(refine oD 17 ?_;refine a4A (hK _ _ (c3A rfl (by decide) rfl rfl (fun v w'=>v=.int .u16 rs.length ∧ RdI base w' bc sl ys (pos + 2) ∧ w4.grownBy w' (some bc)) (fun w8 e8=>(jaA w8 base bc sl ys _ rs.length (h.rd.ext (e4.trans e8)) h.hy hA0 (by omega) (by omega)).mono fun en w' h=>⟨_,h.1,rfl,h.2.1,arA e8 h.2.2⟩) (fun vv wA hAA=>?_)));clear hK K;obtain ⟨rfl,hB1,hB2⟩:=hAA;dsimp only [LA.vals];have hR1:=(h.ext e4).step hB1 hB2;refine aeA (by kernel_rfl) (fun K hK=>?_))|(refine oD 27 ?_;refine fmA rfl rfl rfl (by dsimp only [fits];omega) ?_;rw [show (4:Int) * (rs.length:Int)=((4 * rs.length:Nat):Int) by omega])|(refine oD 33 ?_;refine v9A (n:=rs.length) rfl el_rn rfl rfl (by omega) (by omega) ?_)|(refine oD 35 ?_;refine byA rfl _ rfl rfl HasR.own ?_;rw [List.length_replicate])|refine wOp ?_|(refine wCm ?_ ?_<;>intro hc)|(refine oCv ?_;first|(refine oD 10 ?_;refine oC 51 ?_;refine a3A (f:=51) rfl rfl rfl rfl  (.val (.bool true)) (by intro u1 u2 w e hu1 hu2;(try obtain rfl:u1=_:=hu1);(try obtain rfl:u2=_:=hu2);exact hhas _ (e4.trans e)) ?_)|(refine oC 53 ?_;refine a3A (f:=53) rfl rfl rfl rfl  (.val (.bool true)) (by intro u1 u2 w e hu1 hu2;(try obtain rfl:u1=_:=hu1);(try obtain rfl:u2=_:=hu2);exact e2A (hR1.ext e)) ?_)|(refine oD 28 ?_;refine oC 51 ?_;refine a3A (f:=51) rfl rfl rfl rfl  (.val (.bool true)) (by intro u1 u2 w e hu1 hu2;(try obtain rfl:u1=_:=hu1);(try obtain rfl:u2=_:=hu2);exact ghA (n:=4 * rs.length) (hR1.ext e) (by omega)) ?_))|(refine wNl hK ?_;clear hK K))|refine wG ?_|(refine wCR ?_;intro K hK)|fail)
  all_goals skip
  refine buA 7 rfl (fun v7 w7 e7 h7=>?_)
  replace h7:OwnR wA.heap.size tRn w7 v7 (List.replicate rs.length (0,0)):=h7
  refine adA (ι:=Nat) (fun i=>[(0,.val (.pointer (some ⟨br,0,none⟩))),(4,.val (.pointer (some ⟨b4,0,none⟩))),(7,.val v7),(35,.val (.int .i64 rs.length)),(36,.val (.int .i64 i))])
    (fun i w'=>i ≤ rs.length ∧ Rdr base w' br bc sl ys (pos + 2 + 4 * i) 0 ∧ wA.grownBy w' (some bc) ∧ OwnR wA.heap.size tRn w' v7 (rs.take i ++ List.replicate (rs.length - i) (0,0))) (fun i=>rs.length - i)
    (fun w5 e5=>⟨0,⟨Nat.zero_le _,hR1.ext (e7.trans e5),Ext.grownBy (e7.trans e5),by simpa using OwnR.ext h7 e5⟩,(by repeat' (first | exact Sub.nil | refine Sub.val rfl (by first | with_reducible rfl | (congr 1;omega)) ?_ | refine Sub.same rfl ?_))⟩) ?_
  rintro i w2 ⟨hi,hRd,hG,ho⟩
  have hszA:=(Fr.grown hG).size
  have hsz4:=(Fr.grown hB2).size
  have hs4:=e4.size
  have hh42:=(Fr.grown hG).at ((Fr.grown hB2).at hh4 (fun e=>by cases e;omega)) (fun e=>by cases e;omega)
  have hrr2:=hRd.hr
  have hslb:∀ gb,wA.heap.size ≤ gb → sl.ownBlock ≠ some gb:=fun gb hgb hq=>by
    have hlt:=(Own.lt h.rd.2.2.1 gb hq).2
    omega
  by_cases hil:i < rs.length
  · have hAi:=hA1.fl (0,0) hil
    rw [diA _ hfA,List.length_take,Nat.min_eq_left (by omega),Nat.mul_comm i 4] at hAi
    obtain ⟨g1,g2,g3,g4⟩:=hu _ (show rs.getD i (0,0) ∈ rs by rw [List.getD_eq_getElem?_getD,List.getElem?_eq_getElem hil];exact List.getElem_mem hil)
    have hll:(rs.take i ++ List.replicate (rs.length - i) ((0,0):Rn)).length=rs.length:=by rw [List.length_append,List.length_take,List.length_replicate];omega
    have hset:(rs.take i ++ List.replicate (rs.length - i) ((0,0):Rn)).set i (rs.getD i (0,0))=rs.take (i + 1) ++ List.replicate (rs.length - (i + 1)) (0,0):=by
      rw [take_snoc (0,0) hil,show rs.length - i=(rs.length - (i + 1)) + 1 by omega,List.replicate_succ,List.set_append_right _ _ (by rw [List.length_take];omega),List.length_take,Nat.min_eq_left (by omega),Nat.sub_self,List.set_cons_zero,List.append_assoc]
      rfl
    obtain ⟨⟨f,m⟩,hfm⟩:∃ r,r=rs.getD i (0,0):=⟨_,rfl⟩
    rw [← hfm] at hAi g1 g2 g3 g4 hset
    dsimp only at g1 g2 g3 g4
    have hAf:AtB ys (pos + 2 + 4 * i) (leS f 2):=AtB.left (l':=leS m 2) hAi
    have hAm:AtB ys (pos + 2 + 4 * i + 2) (leS m 2):=by
      have:=AtB.right (l:=leS f 2) (l':=leS m 2) hAi
      rw [b4A] at this;exact this
    have hc2:=ikA (rs.take i ++ List.replicate (rs.length - i) ((0,0):Rn)) i f m (by omega)
    rw [hset] at hc2
    obtain ⟨gb,cap,cur,rfl,t1,t2,t3,t4,t5,t6⟩:=OwnR.row ho (by omega)
    rw [hll] at t3 t6 ⊢
    have hgw:w2.heap.size ≤ w2.heap.size:=Nat.le_refl _
    repeat' (first|(refine oLA ?_;first|refine a0A rfl ?_|(refine oNc ?_;refine a8A rfl rfl ?_)|(refine oD 43 ?_;refine a1A (a':=⟨br,0,none⟩) rfl rfl (fun _=>rfl) ?_)|(refine oD 52 ?_;refine a1A (a':=⟨br,0,none⟩) rfl rfl (fun _=>rfl) ?_)|(refine oD 44 ?_;refine a5A (c:=.pointer (some ⟨bc,0,none⟩)) rfl (fun _=>rfl) rfl hrr2 rfl ?_)|(refine oD 45 ?_;refine a4A (hK _ _ (c3A rfl (by decide) rfl rfl (fun v w'=>v=.int .u16 f ∧ RdI base w' bc sl ys (pos + 2 + 4 * i + 2) ∧ w2.grownBy w' (some bc)) (fun w8 e8=>(jaA w8 base bc sl ys _ f (hRd.rd.ext e8) hRd.hy hAf (by omega) (by omega)).mono fun en w' h=>⟨_,h.1,rfl,h.2.1,arA e8 h.2.2⟩) (fun vv wX hXX=>?_)));clear hK K;obtain ⟨rfl,hX1,hX2⟩:=hXX;dsimp only [LA.vals];have t2':=(Fr.grown hX2).at t2 (fun e=>by cases e;omega);have hRX:=hRd.step hX1 hX2;refine aeA (by kernel_rfl) (fun K hK=>?_))|(refine oD 46 ?_;refine c6A (s:=2) rfl rfl (fun _=>rfl) rfl rfl (by omega) (by omega) ?_;rw [Int.toNat_natCast,Nat.zero_add])|(refine oD 55 ?_;refine c6A (s:=2) rfl rfl (fun _=>rfl) rfl rfl (by omega) (by omega) ?_;rw [Int.toNat_natCast,Nat.zero_add])|(refine oD 47 ?_;refine a1A (a':=⟨gb,i * 2,none⟩) rfl rfl (fun _=>rfl) ?_)|(refine oD 56 ?_;refine a1A (a':=⟨gb,i * 2 + 1,none⟩) rfl rfl (fun _=>rfl) ?_)|(refine a4A (hK _ _ (bgA (o:=i * 2) rfl rfl rfl t2' (fun _=>rfl) (by omega) rfl rfl (fun wY eY=>?_)));clear hK K;dsimp only [LA.vals];have u2:=setRow_heap wY gb _ (cur.setIfInBounds (i * 2) (.int .u16 f)) _ (0,0) (eY.block t2');have hRS:=Rdr.setRow (hRX.ext eY) (eY.block t2') (by decide) (by omega) (hslb gb t1) (cur.setIfInBounds (i * 2) (.int .u16 f));have hGS:=euA (aoA (d2A hG hX2) eY) t1 (cur.setIfInBounds (i * 2) (.int .u16 f));obtain ⟨S1,hS1⟩:∃ S1,S1=wY.setRow gb (cur.setIfInBounds (i * 2) (.int .u16 f)):=⟨_,rfl⟩;rw [← hS1] at u2 hRS hGS ⊢;clear hS1;have hrS:=hRS.hr;refine aeA (by kernel_rfl) (fun K hK=>?_))|(refine oD 53 ?_;refine a5A (c:=.pointer (some ⟨bc,0,none⟩)) rfl (fun _=>rfl) rfl hrS rfl ?_)|(refine oD 54 ?_;refine a4A (hK _ _ (c3A rfl (by decide) rfl rfl (fun v w'=>v=.int .u16 m ∧ RdI base w' bc sl ys (pos + 2 + 4 * i + 2 + 2) ∧ S1.grownBy w' (some bc)) (fun w8 e8=>(jaA w8 base bc sl ys _ m (hRS.rd.ext e8) hRS.hy hAm (by omega) (by omega)).mono fun en w' h=>⟨_,h.1,rfl,h.2.1,arA e8 h.2.2⟩) (fun vv wZ hZZ=>?_)));clear hK K;obtain ⟨rfl,hZ1,hZ2⟩:=hZZ;dsimp only [LA.vals];have u2':=(Fr.grown hZ2).at u2 (fun e=>by cases e;omega);have hRZ:=hRS.step hZ1 hZ2;refine aeA (by kernel_rfl) (fun K hK=>?_))|(refine a4A (hK _ _ (bgA (o:=i * 2 + 1) rfl rfl rfl u2' (fun _=>rfl) (by rw [Array.size_setIfInBounds];omega) rfl rfl (fun wV eV=>?_)));clear hK K;dsimp only [LA.vals];refine aeA (by kernel_rfl) (fun K hK=>?_))|refine wOp ?_|(refine wCm ?_ ?_<;>intro hc)|(refine wNl hK ?_;clear hK K))|refine wG ?_|(refine wCR ?_;intro K hK)|fail)
    all_goals skip
    have hRV:=Rdr.setRow (hRZ.ext eV) (eV.block u2') (by decide) (by omega) (hslb gb t1) ((cur.setIfInBounds (i * 2) (.int .u16 f)).setIfInBounds (i * 2 + 1) (.int .u16 m))
    have hGV:=euA (aoA (d2A hGS hZ2) eV) t1 ((cur.setIfInBounds (i * 2) (.int .u16 f)).setIfInBounds (i * 2 + 1) (.int .u16 m))
    have hll':(rs.take (i + 1) ++ List.replicate (rs.length - (i + 1)) ((0,0):Rn)).length=rs.length:=by rw [List.length_append,List.length_take,List.length_replicate];omega
    have hOV:OwnR wA.heap.size tRn (wV.setRow gb ((cur.setIfInBounds (i * 2) (.int .u16 f)).setIfInBounds (i * 2 + 1) (.int .u16 m))) (.slice (some ⟨gb,0,none⟩) rs.length cap) (rs.take (i + 1) ++ List.replicate (rs.length - (i + 1)) (0,0)):=by
      refine ⟨by rw [dwA],.inr ⟨gb,cap,(cur.setIfInBounds (i * 2) (.int .u16 f)).setIfInBounds (i * 2 + 1) (.int .u16 m),by rw [hll'],t1,setRow_heap wV gb _ _ _ _ (eV.block u2'),by rw [hll'];exact t3,t4,by simpa using t5,?_⟩⟩
      rw [Array.toList_setIfInBounds,Array.toList_setIfInBounds,hll',List.take_set,List.take_set,t6,hc2]
    exact a6A (i + 1) (fun w5 e5=>⟨hil,by rw [show pos + 2 + 4 * (i + 1)=pos + 2 + 4 * i + 2 + 2 by omega];exact hRV.ext e5,aoA hGV e5,hOV.ext e5⟩) (by omega) (by repeat' (first | exact Sub.nil | refine Sub.val rfl (by first | with_reducible rfl | (congr 1;omega)) ?_ | refine Sub.same rfl ?_))
  · obtain rfl:i=rs.length:=by omega
    rw [List.take_length,Nat.sub_self,List.replicate_zero,List.append_nil] at ho
    repeat' (first|(refine oLA ?_;first|refine a0A rfl ?_|(refine a4A (hK _ _ (isA (q:=60) (φ:=cnP TT q 3) (n:=4) rfl rfl rfl hh42 rfl b5A (fun _=>rfl) (fun cs wC eC hcn hcc hcb=>?_)));clear hK K;refine aeA (by kernel_rfl) (fun K hK=>?_))|refine wOp ?_|(refine wCm ?_ ?_<;>intro hc)|(refine oCv ?_;first|(refine oC 124 ?_;refine a2A (f:=124) rfl rfl rfl  (.tup2 (.pred (cnP TT q 3)) (.val (.bool true))) (by intro u1 w e hu1;(try obtain rfl:u1=_:=hu1);exact xkA (by rw [← hrs];exact OwnR.slR (OwnR.ext ho e)) hp tt) ?_))|(refine wNl hK ?_;clear hK K))|refine wG ?_|(refine wCR ?_;intro K hK)|fail)
    all_goals skip
    refine kpA rfl rfl (setRow_heap wC b4 _ cs _ (0,0) hcb) hcn rfl rfl rfl (fun w5 e5 u2 hu2=>?_)
    obtain rfl:u2=.bool true:=hu2
    have hRB:=Rdr.setRow (hRd.ext eC) hcb (by decide) (by omega) (fun hq=>by
      have hlt:=(Own.lt h.rd.2.2.1 b4 hq).2
      omega) cs
    have hGB:=euA (aoA (arA e4 (d2A hB2 hG)) eC) hb4 cs
    exact ⟨_,rfl,(Cn.setRow hcc hcb ⟨by decide,by decide,by decide⟩ cs).ext e5,hRB.ext e5,aoA hGB e5⟩
end Go.Proofs.YtbokphkfojijoaaGreatDoor.Pt
end
