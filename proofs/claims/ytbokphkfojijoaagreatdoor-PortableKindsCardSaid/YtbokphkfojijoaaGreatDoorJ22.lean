import Derived.Laws.BitsAllLaws
import Derived.Test.YtbokphkfojijoaaGreatDoorJ11
import Derived.Test.YtbokphkfojijoaaGreatDoorJ21
set_option linter.unusedSimpArgs false
set_option linter.unusedVariables false
set_option maxRecDepth 3000
set_option maxHeartbeats 16000000
section
namespace Go.Proofs.YtbokphkfojijoaaGreatDoor.Pt
open Go.LA Go.ArrP Go.RowKit
theorem or8 (a i:Nat) (hi:i<8) (ha:a<2 ^ i):bits .or .u8 (a:Int) (IntKind.u8.wrap (1*2 ^ ((i:Nat):Int).toNat))=((a+2 ^ i:Nat):Int):=by
 have h1:2 ^ i≤2 ^ 7:=Nat.pow_le_pow_right dZ oZ;have h2:((1:Int)*2 ^ ((i:Nat):Int).toNat)=((2 ^ i:Nat):Int):=by rw [Int.toNat_natCast,Int.one_mul];norm_cast
 rw [h2,ctA .u8 _ fZ,u8_or_nat _ _ oZ oZ];have h3:=(Nat.two_pow_add_eq_or_of_lt ha 1);rw [Nat.mul_one,Nat.or_comm] at h3;rw [← h3,Nat.add_comm]
theorem LRow.at {base n:Nat} {p:Nat→Bool} {w:World} {u:Value} {Q:List Qd} (h:LRow base p n w u Q) {i:Nat} (hi:i<n) :
 ∃ qd:Qd,((b5A Q).drop (i*4)).take 4=qcs qd∧(∀ u ∈ qcs qd,u.oneCell'=true)∧Cn TT w (qv qd) (blk p (kp p i)) (apA (blk p (kp p i))):=by
 obtain ⟨h1,h2,h3⟩:=h;have h4:=h3 i hi;obtain ⟨qd,h5,h6⟩:=h4.qd;have h7:Q.getD i q0=qd:=ndA h5;rw [h7] at h4;exact ⟨qd,by rw [fqA Q i oZ,h7],h6,h4⟩
theorem LRow.base {base base' n:Nat} {p:Nat→Bool} {w:World} {u:Value} {Q:List Qd} (h:LRow base p n w u Q) (hb:base'≤base):LRow base' p n w u Q:=⟨Own.base h.1 hb,h.2⟩
theorem jvA {w:World} {v:Value} {p:Nat→Bool} (h:NSet TT TT w v p) (hn8:nk p≤8) (hT:Tab w):Fc Tryz.prog 18 #[v] w (Ret w (.pred (axA w.heap.size tB .u8 (lfA p)))):=by
 have hall:∀ w',Ext w w'→Fc Tryz.prog 60 #[v] w' (Ret w' (.tup2 (.pred (x2A w.heap.size p (nk p))) (.val (.int .i64 (cnt (c1A p) (nk p):Nat))))):=λ w' e=>(yzA (h.ext e)).mono (yyA (λ v' w'' hv=>hv.imp λ Q hq=>hq.base e.size))
 have hks:∀ w',Ext w w'→_:=λ w' e=>vqA (h.ext e)
 have hkl:=bfA p;have hr0:=cntW p (nk p);have hcl:=cnt_le (c1A p) (nk p);have hpos:dtA (c1A p) (nk p)=true→0<nk p:=gbA;obtain ⟨n,hn⟩:∃ n,n=nk p:=⟨_,rfl⟩;obtain ⟨r,hr⟩:∃ r,r=cnt (c1A p) n:=⟨_,rfl⟩;rw [← hn] at hall hkl hr0 hcl hpos hn8;rw [← hr] at hall hr0 hcl;have hhd:∀ w':World,_:=λ w'=>zeA w' n r oZ
 have hcook0:r=0→caA n (c1A p)=leS 12346 4++leS n 4:=λ h0=>by unfold caA;rw [hr0.1 h0,if_neg dZ]
 have hcook1:¬ r=0→caA n (c1A p)=leS 12347 2++(leS (n-1:Nat) 2++[(fB (c1A p) n:Int)]):=λ h0=>by
  have:dtA (c1A p) n=true:=by
   cases ha:dtA (c1A p) n with
   | true=>rfl
   | false=>exact absurd (hr0.2 ha) h0
  unfold caA;rw [this,if_pos rfl]
 have hn1:¬ r=0→0<n:=λ h0=>hpos (by
  cases ha:dtA (c1A p) n with
  | true=>rfl
  | false=>exact absurd (hr0.2 ha) h0)
 refine Fc.of (args:=[_]) Tryz.func18 rfl rfl Tryz.ntmps18 nZ ?_
 repeat' (first|(refine yL ?_;first|refine a0A rfl ?_|(refine oD 22 ?_;refine a3A (hK _ _ (awA 3 rfl (λ v3 w3 e3 h3=>?_)));clear hK K;obtain ⟨Q,hQ⟩:=h3;have hQ1:=hQ.1;refine abA kZ (λ K hK=>dzA rfl rfl ?_))|(refine oD 23 ?_;refine azA rfl _ rfl rfl (HasC.ownV hQ1) ?_)|(refine oD 34 ?_;refine afA rfl rfl rfl fZ ?_;rw [show (n:Int)-1=((n-1:Nat):Int) by omega])|(refine oD 37 ?_;refine a3A (hK _ _ (awA 6 rfl (λ vb wb eb hb=>?_)));clear hK K;replace hb:OwnI w3.heap.size tB .u8 wb vb (leS 12347 2++leS (n-1:Nat) 2):=hb;refine abA kZ (λ K hK=>dzA rfl rfl ?_))|(refine oD 39 ?_;refine d5A rfl rfl rfl oZ oZ fZ ?_;rw [show ((n:Int)+7) / 8=((1:Nat):Int) by have:=hn1 oZ;omega])|(refine oD 40 ?_;refine dkA rfl e5A rfl rfl dZ dZ ?_)|(refine oD 42 ?_;refine azA rfl _ rfl rfl (HasC.ownV (Own.ext hQ1 eb)) ?_)|refine yO ?_|(refine yC ?_ ?_<;>intro hc)|(refine yV ?_;first|(refine oC 60 ?_;refine a1A (f:=60) rfl rfl rfl  (.tup2 (.pred (x2A w.heap.size p n)) (.val (.int .i64 (r:Nat)))) (by intro u1 w e hu1;(try obtain rfl:u1=_:=hu1);exact hall _ e) ?_)|(refine oD 27 ?_;refine oC 61 ?_;refine a5A (f:=61) rfl rfl rfl rfl  (.pred (axA w3.heap.size tB .u8 (leS 12346 4))) (by intro u1 u2 w e hu1 hu2;(try obtain rfl:u1=_:=hu1);(try obtain rfl:u2=_:=hu2);exact (h5A _ _ [] 12346 nil8 dZ oZ oZ).mono (a6A e.size)) ?_)|(refine oD 30 ?_;refine oC 61 ?_;refine a5A (f:=61) rfl rfl rfl rfl  (.pred (axA w3.heap.size tB .u8 (leS 12346 4++leS n 4))) (by intro u1 u2 w e hu1 hu2;(try obtain rfl:u1=_:=hu1);(try obtain rfl:u2=_:=hu2);exact (h5A _ _ (leS 12346 4) n (OwnI.slI hu1) (by rw [akA];decide) oZ oZ).mono (a6A e.size)) ?_)|(refine oD 32 ?_;refine oC 62 ?_;refine a5A (f:=62) rfl rfl rfl rfl  (.pred (axA w3.heap.size tB .u8 (leS 12347 2))) (by intro u1 u2 w e hu1 hu2;(try obtain rfl:u1=_:=hu1);(try obtain rfl:u2=_:=hu2);exact (d9A _ _ [] 12347 nil8 dZ oZ oZ).mono (a6A e.size)) ?_)|(refine oD 36 ?_;refine oC 62 ?_;refine a5A (f:=62) rfl rfl rfl rfl  (.pred (axA w3.heap.size tB .u8 (leS 12347 2++leS (n-1:Nat) 2))) (by intro u1 u2 w e hu1 hu2;(try obtain rfl:u1=_:=hu1);(try obtain rfl:u2=_:=hu2);exact (d9A _ _ (leS 12347 2) (n-1:Nat) (OwnI.slI hu1) (by rw [akA];decide) oZ oZ).mono (a6A e.size)) ?_))|(refine yN hK ?_;clear hK K))|(refine oCX ?_;first|refine cuA (id:=4) (ι:=Value) (λ vb=>[(0,.val v),(3,.val v3),(4,.val (.int .i64 r)),(5,.val (.int .i64 n)),(6,.val vb)]) (λ vb w'=>Ext w3 w'∧OwnI w3.heap.size tB .u8 w' vb (caA n (c1A p))) ?_ ?_)|refine wG ?_|(refine yR ?_;intro K hK)|fail)
 ·refine fsA 6 rfl (λ vb wb eb hb=>?_)
  exact a4A vb (λ w5 e5=>⟨eb.trans e5,by rw [hcook0 oZ];exact OwnI.ext hb e5⟩) oZ sZ
 ·refine bwA 7 rfl (λ fv wf ef hf=>?_)
  have hr1:¬ r=0:=oZ;have hnp:=hn1 hr1;replace hf:OwnI wb.heap.size tB .u8 wf fv [(fB (c1A p) 0:Int)]:=hf;obtain ⟨gb,cap,cur0,rfl,s1,-,s3,s4,-,-⟩:=OwnI.row hf (by simp);obtain ⟨ys,hys⟩:∃ ys,ys=leS 12347 2++leS (n-1:Nat) 2:=⟨_,rfl⟩;have hyl:ys.length=4:=by rw [hys];simp [akA]
  have hck:caA n (c1A p)=ys++[(fB (c1A p) n:Int)]:=by rw [hcook1 hr1,hys,List.append_assoc]
  rw [hck];rw [← hys] at hb
  refine aaA (ι:=Nat) (λ i=>[(0,.val v),(3,.val v3),(4,.val (.int .i64 r)),(5,.val (.int .i64 n)),(6,.val vb),(7,.val (.slice (some ⟨gb,0,none⟩) 1 cap)),(41,.val v3),(42,.val (.int .i64 n)),(43,.val (.int .i64 i))])
   (λ i w'=>Ext wb w'∧i≤n∧OwnI wb.heap.size tB .u8 w' (.slice (some ⟨gb,0,none⟩) 1 cap) [(fB (c1A p) i:Int)]) (λ i=>n-i)
   (λ w4 e4=>⟨0,⟨ef.trans e4,Nat.zero_le _,hf.ext e4⟩,sZ⟩) ?_
  rintro i w1 ⟨he,hi,hfv⟩;have hQi:=hQ.ext (eb.trans he)
  by_cases hil:i<n
  ·obtain ⟨qd,hat,hone,hcn⟩:=hQi.at (i:=i) oZ
   have hkc:=f3A (blk p (kp p i));have hfs:fB (c1A p) (i+1)=fB (c1A p) i+if isR (blk p (kp p i)) then 2 ^ i else 0:=rfl
   have hfl:=miA (c1A p) i;obtain ⟨b,hbb⟩:∃ b,b=blk p (kp p i):=⟨_,rfl⟩;rw [← hbb] at hcn hkc hfs;obtain ⟨kk,hkk⟩:∃ k,k=apA b:=⟨_,rfl⟩;rw [← hkk] at hcn hkc;have hor:=or8 (fB (c1A p) i) i oZ hfl;have hfs':(kk=3∧fB (c1A p) (i+1)=fB (c1A p) i+2 ^ i)∨(kk≠3∧fB (c1A p) (i+1)=fB (c1A p) i):=by
    rcases hkc with ⟨k1,k2⟩|⟨k1,k2,-⟩|⟨k1,k2,-⟩ <;> rw [k2] at hfs <;> simp at hfs
    ·exact .inl ⟨k1,hfs⟩
    ·exact .inr ⟨by omega,hfs⟩
    ·exact .inr ⟨by omega,hfs⟩
   obtain ⟨F,hF⟩:∃ F,F=fB (c1A p) i:=⟨_,rfl⟩;rw [← hF] at hfs' hor hfv;clear hkc hfs hfl;have h2i:(2:Nat) ^ i≤2 ^ 7:=Nat.pow_le_pow_right dZ oZ
   rcases hfs' with ⟨rfl,hfs'⟩|⟨hne,hfs'⟩
   ·obtain ⟨gb',cap',cur,hgb,t1,t2,t3,t4,t5,t6⟩:=OwnI.row hfv (by simp)
    cases hgb
    repeat' (first|(refine yL ?_;first|refine a0A rfl ?_|(refine oD 46 ?_;refine c9A (s:=4) rfl _ rfl (λ _=>rfl) rfl (HasC.ownV hQi.1) rfl i rfl oZ ?_;rw [hat])|(refine oD 47 ?_;refine atA (cs:=qcs _) rfl (λ _=>rfl) (λ _=>rfl) rfl ?_)|(refine oD 9 ?_;refine a3A (hK _ _ (mrA rfl rfl rfl dZ dZ (λ _=>rfl) (λ _=>rfl) rfl (λ _=>rfl) (λ _=>rfl) rfl hone (λ bx wx ex hbx hbc=>?_)));clear hK K;refine abA kZ (λ K hK=>?_))|(refine oD 48 ?_;refine brA (n:=4) rfl hbc rfl rfl (λ _=>rfl) (λ _=>rfl) ?_)|(refine oD 53 ?_;refine d5A rfl rfl rfl oZ oZ fZ ?_;rw [show (i:Int) / 8=((0:Nat):Int) by omega])|(refine oD 54 ?_;refine agA rfl _ rfl (λ _=>rfl) rfl (HasI.ownV (hfv.ext ex)) rfl (by simp) ?_;rw [List.getD_cons_zero])|(refine oD 57 ?_;refine feA rfl rfl rfl oZ oZ fZ ?_;rw [show (i:Int) % 8=((i:Nat):Int) by omega])|(refine oD 58 ?_;refine gqA rfl rfl rfl oZ (by show ((i:Nat):Int)≤8;omega) ?_)|(refine oD 59 ?_;refine chA (.inr (.inl rfl)) rfl rfl rfl ?_;rw [hor])|(refine oD 60 ?_;refine biA (s:=1) rfl rfl (λ _=>rfl) rfl rfl oZ oZ ?_)|(refine a3A (hK _ _ rfl (bhA rfl rfl rfl (ex.block t2) (λ _=>rfl) (by rw [t5];exact t3) rfl rfl (λ w4 e4=>?_)));clear hK K;dsimp only [LA.vals];refine abA kZ (λ K hK=>?_))|refine yO ?_|(refine yC ?_ ?_<;>intro hc)|(refine yV ?_;first|(refine oC 63 ?_;refine a1A (f:=63) rfl rfl rfl  (.val (.int .u8 _)) (by intro u1 w e hu1;(try obtain rfl:u1=_:=hu1);exact fnA (Cn.ext hcn (Ext.trans ex e))) ?_))|(refine yN hK ?_;clear hK K))|(refine oCX ?_;first|refine dcA (id:=12) 10 kZ kZ dZ (λ K hK=>?_))|refine wG ?_|(refine yR ?_;intro K hK)|fail)
    have hset:=OwnI.set t1 (e4.block (ex.block t2)) t3 t4 t5 t6 0 (by simp) ((F+2 ^ i:Nat):Int);exact a4A (i+1) (λ w5 e5=>⟨((he.trans (ex.trans e4)).setRow t1 _).trans e5,hil,by rw [hfs'];exact OwnI.ext hset e5⟩) oZ sZ
   ·skip
    repeat' (first|(refine yL ?_;first|refine a0A rfl ?_|(refine oD 46 ?_;refine c9A (s:=4) rfl _ rfl (λ _=>rfl) rfl (HasC.ownV hQi.1) rfl i rfl oZ ?_;rw [hat])|(refine oD 47 ?_;refine atA (cs:=qcs _) rfl (λ _=>rfl) (λ _=>rfl) rfl ?_)|(refine oD 9 ?_;refine a3A (hK _ _ (mrA rfl rfl rfl dZ dZ (λ _=>rfl) (λ _=>rfl) rfl (λ _=>rfl) (λ _=>rfl) rfl hone (λ bx wx ex hbx hbc=>?_)));clear hK K;refine abA kZ (λ K hK=>?_))|(refine oD 48 ?_;refine brA (n:=4) rfl hbc rfl rfl (λ _=>rfl) (λ _=>rfl) ?_)|refine yO ?_|(refine yC ?_ ?_<;>intro hc)|(refine yV ?_;first|(refine oC 63 ?_;refine a1A (f:=63) rfl rfl rfl  (.val (.int .u8 _)) (by intro u1 w e hu1;(try obtain rfl:u1=_:=hu1);exact fnA (Cn.ext hcn (Ext.trans ex e))) ?_))|(refine yN hK ?_;clear hK K))|refine wG ?_|(refine yR ?_;intro K hK)|fail)
    exact a4A (i+1) (λ w5 e5=>⟨he.trans (ex.trans e5),hil,by rw [hfs'];exact OwnI.ext hfv (ex.trans e5)⟩) oZ sZ
  ·obtain rfl:i=n:=oZ
   have hbv:=hb.ext he
   repeat' (first|(refine yL ?_;first|refine a0A rfl ?_|(refine oD 64 ?_;refine a3A (hK _ _ (anA rfl dZ e5A rfl hbv rfl (HasI.ownV hfv).c buA (by unfold maxLen;simp only [List.length_cons,List.length_nil];omega) (by simp only [List.length_cons,List.length_nil];omega) (λ v' wu wv eu ho hfr hlc=>?_)));clear hK K;refine abA kZ (λ K hK=>?_))|refine yO ?_|(refine yC ?_ ?_<;>intro hc)|(refine yN hK ?_;clear hK K))|refine wG ?_|(refine yR ?_;intro K hK)|fail)
   have x3:Ext w3 wv:=Fr.ext ((eb.trans he).trans eu) hfr (λ k hk=>(Own.lt hbv k hk).1);have hnew:OwnI w3.heap.size tB .u8 wv v' (ys++[(fB (c1A p) i:Int)]):=by
    unfold OwnI;rw [List.map_append,List.length_append];exact Own.rebase ho (hlc.ge (λ k hk=>(Own.lt hbv k hk).1) ((eb.trans he).trans eu).size)
   exact a4A v' (λ w5 e5=>⟨x3.trans e5,OwnI.ext hnew e5⟩) oZ sZ
 rintro vb w4 ⟨e4,hb⟩;have hckl:(caA n (c1A p)).length≤9:=by
  rw [hrA hn8 hpos];split <;> omega
 have hany:decide (r≠0)=dtA (c1A p) n:=by
  cases ha:dtA (c1A p) n with
  | true=>exact decide_eq_true (λ h0=>by rw [hr0.1 h0] at ha;cases ha)
  | false=>exact decide_eq_false (λ h0=>h0 (hr0.2 ha))
 have hhn:e2A n (dtA (c1A p) n)≤100:=by unfold e2A;split <;> (try split) <;> omega
 have hdl:∀ i,(c0A (drA p) i).length=i*4:=λ i=>cjA i (λ j _=>f6A p j)
 have hbl:∀ i,(c0A (d2A p (c1A p)) i).length≤i*131074:=λ i=>gaA p _ i
 have hol:(d0A p (c1A p)).length≤32:=by
  unfold d0A
  split
  ·exact Nat.zero_le _
  ·rw [cjA _ (λ j _=>fhA p _ j)];omega
 rw [hany] at hhd;refine cuA (id:=15) (ι:=Value) (λ vb=>[(0,.val v),(3,.val v3),(4,.val (.int .i64 r)),(5,.val (.int .i64 n)),(6,.val vb)]) (λ vb w'=>Ext w3 w'∧OwnI w3.heap.size tB .u8 w' vb (caA n (c1A p)++c0A (drA p) n)) ?_ ?_
 ·skip
  repeat' (first|(refine yL ?_;first|refine a0A rfl ?_|(refine oD 67 ?_;refine azA rfl _ rfl rfl HasI.own.c ?_;rw [hkl])|refine yO ?_|(refine yC ?_ ?_<;>intro hc)|(refine yV ?_;first|(refine oC 64 ?_;refine a1A (f:=64) rfl rfl rfl  (.pred (axA w3.heap.size tK .u16 (b7A p))) (by intro u1 w e hu1;(try obtain rfl:u1=_:=hu1);exact (hks _ ((e3.trans e4).trans e)).mono (a6A (e4.trans e).size)) ?_))|(refine yN hK ?_;clear hK K))|refine wG ?_|(refine yR ?_;intro K hK)|fail)
  refine bwA 66 rfl (λ vk wk ek hk=>?_);replace hk:OwnI w3.heap.size tK .u16 wk vk (b7A p):=hk
  refine aaA (ι:=Nat × Value) (λ j=>[(0,.val v),(3,.val v3),(4,.val (.int .i64 r)),(5,.val (.int .i64 n)),(6,.val j.2),(66,.val vk),(67,.val (.int .i64 n)),(68,.val (.int .i64 j.1))])
   (λ j w'=>Ext wk w'∧j.1≤n∧OwnI w3.heap.size tB .u8 w' j.2 (caA n (c1A p)++c0A (drA p) j.1)) (λ j=>n-j.1)
   (λ w5 e5=>⟨(0,vb),⟨e5,Nat.zero_le _,by show OwnI _ _ _ _ _ (_++[]);rw [List.append_nil];exact OwnI.ext hb (ek.trans e5)⟩,sZ⟩) ?_
  rintro ⟨i,vb2⟩ w1 ⟨he,hi,hB⟩;dsimp only at hi hB ⊢;have hQi:=hQ.ext ((e4.trans ek).trans he);have hki:=hk.ext he;have hdi:=hdl i
  by_cases hil:i<n
  ·obtain ⟨qd,hat,hone,hcn⟩:=hQi.at (i:=i) oZ
   obtain ⟨k1,k2,k3,k4⟩:=gjA (p:=p) (i:=i) oZ;have hc0:=ne_cnt.1 k2;have hcl2:=cnt_le (blk p (kp p i)) 65536;have hcat:c0A (drA p) (i+1)=c0A (drA p) i++(leS (kp p i) 2++leS (cnt (blk p (kp p i)) 65536-1:Nat) 2):=rfl;have hlen:∀ w' u,Cn TT w' u (blk p (kp p i)) (apA (blk p (kp p i)))→_:=λ w' u hu=>idA hu
   obtain ⟨c,hc⟩:∃ c,c=cnt (blk p (kp p i)) 65536:=⟨_,rfl⟩;rw [← hc] at hc0 hcl2 hcat hlen;obtain ⟨K0,hK0⟩:∃ K0,K0=kp p i:=⟨_,rfl⟩;rw [← hK0] at k1 k4 hcat hcn hlen;obtain ⟨B,hBd⟩:∃ B,B=caA n (c1A p)++c0A (drA p) i:=⟨_,rfl⟩;have hBl:B.length≤1000:=by rw [hBd,List.length_append];omega
   rw [← hBd] at hB;have hBn:caA n (c1A p)++c0A (drA p) (i+1)=(B++leS K0 2)++leS (c-1:Nat) 2:=by rw [hcat,hBd];simp only [List.append_assoc]
   clear hc k2 k3 hK0 hBd hcat
   repeat' (first|(refine yL ?_;first|refine a0A rfl ?_|(refine oD 71 ?_;refine agA rfl _ rfl (λ _=>rfl) rfl (HasI.ownV hki) rfl oZ ?_;rw [k4])|(refine oD 78 ?_;refine c9A (s:=4) rfl _ rfl (λ _=>rfl) rfl (HasC.ownV hQi.1) rfl i rfl oZ ?_;rw [hat])|(refine oD 79 ?_;refine atA (cs:=qcs _) rfl (λ _=>rfl) (λ _=>rfl) rfl ?_)|(refine oD 81 ?_;refine afA rfl rfl rfl fZ ?_;rw [show (c:Int)-1=((c-1:Nat):Int) by omega])|refine yO ?_|(refine yC ?_ ?_<;>intro hc)|(refine yV ?_;first|(refine oC 65 ?_;refine a1A (f:=65) rfl rfl rfl  (.val (.int .i64 c)) (by intro u1 w e hu1;(try obtain rfl:u1=_:=hu1);exact hlen _ _ (Cn.ext hcn e)) ?_)|(refine oD 75 ?_;refine oC 62 ?_;refine a5A (f:=62) rfl rfl rfl rfl  (.pred (axA w3.heap.size tB .u8 (B++leS K0 2))) (by intro u1 u2 w e hu1 hu2;(try obtain rfl:u1=_:=hu1);(try obtain rfl:u2=_:=hu2);exact (d9A _ _ B K0 (OwnI.slI (OwnI.ext hB e)) oZ oZ oZ).mono (a6A (((e4.trans ek).trans he).trans e).size)) ?_)|(refine oD 83 ?_;refine oC 62 ?_;refine a5A (f:=62) rfl rfl rfl rfl  (.pred (axA w3.heap.size tB .u8 ((B++leS K0 2)++leS (c-1:Nat) 2))) (by intro u1 u2 w e hu1 hu2;(try obtain rfl:u1=_:=hu1);(try obtain rfl:u2=_:=hu2);exact (d9A _ _ (B++leS K0 2) (c-1:Nat) (OwnI.slI hu1) (by rw [List.length_append,akA];omega) oZ oZ).mono (a6A (((e4.trans ek).trans he).trans e).size)) ?_))|(refine yN hK ?_;clear hK K))|refine wG ?_|(refine yR ?_;intro K hK)|fail)
   refine fsA 6 rfl (λ vb5 w5 e5 h5=>?_);exact a4A (i+1,vb5) (λ w6 e6=>⟨he.trans (e5.trans e6),hil,by rw [hBn];exact OwnI.ext h5 e6⟩) eZ sZ
  ·obtain rfl:i=n:=oZ
   repeat' (first|(refine yL ?_;first|refine a0A rfl ?_|refine yO ?_|(refine yC ?_ ?_<;>intro hc)|(refine yN hK ?_;clear hK K))|refine wG ?_|(refine yR ?_;intro K hK)|fail)
   exact a4A vb2 (λ w5 e5=>⟨((e4.trans ek).trans he).trans e5,OwnI.ext hB e5⟩) oZ sZ
 clear hb e4 w4 hks hall vb;rintro vb w4 ⟨e4,hb⟩;have hdn:=hdl n;obtain ⟨H,hH⟩:∃ H,H=caA n (c1A p)++c0A (drA p) n:=⟨_,rfl⟩;have hHl:H.length≤1000:=by rw [hH,List.length_append];omega
 rw [← hH] at hb;refine cuA (id:=20) (ι:=Value) (λ vb=>[(0,.val v),(3,.val v3),(4,.val (.int .i64 r)),(5,.val (.int .i64 n)),(6,.val vb)]) (λ vb w'=>Ext w3 w'∧OwnI w3.heap.size tB .u8 w' vb (H++d0A p (c1A p))) ?_ ?_
 ·by_cases hof:r=0∨4≤n
  ·have hoff:d0A p (c1A p)=c0A (gvA p (c1A p)) n:=by
    unfold d0A;rw [← hn,if_neg];rintro ⟨h1,h2⟩;rw [← hany] at h1;have:=of_decide_eq_true h1;omega
   have hsk:(r=0)∨(¬ r=0∧4≤n):=oZ;rw [hoff];clear hoff hof;have main:∀ (w5:World),Ext w4 w5→True:=λ _ _=>trivial
   rcases hsk with hr0' | ⟨hr1,hn4⟩
   all_goals
    repeat' (first|(refine yL ?_;first|refine a0A rfl ?_|(refine oD 95 ?_;refine azA rfl _ rfl rfl (HasC.ownV (Own.ext hQ1 e4)) ?_)|refine yO ?_|(refine yC ?_ ?_<;>intro hc)|(refine yV ?_;first|(refine oC 66 ?_;refine a5A (f:=66) rfl rfl rfl rfl  (.val (.int .i64 (e2A n (dtA (c1A p) n)))) (by intro u1 u2 w e hu1 hu2;(try obtain rfl:u1=_:=hu1);(try obtain rfl:u2=_:=hu2);exact hhd _) ?_))|(refine yN hK ?_;clear hK K))|refine wG ?_|(refine yR ?_;intro K hK)|fail)
    refine aaA (ι:=Nat × Value) (λ j=>[(0,.val v),(3,.val v3),(4,.val (.int .i64 r)),(5,.val (.int .i64 n)),(6,.val j.2),(12,.val (.int .i64 (e2A n (dtA (c1A p) n)+(c0A (d2A p (c1A p)) j.1).length:Nat))),(94,.val v3),(95,.val (.int .i64 n)),(96,.val (.int .i64 j.1))])
     (λ j w'=>Ext w4 w'∧j.1≤n∧OwnI w3.heap.size tB .u8 w' j.2 (H++c0A (gvA p (c1A p)) j.1)) (λ j=>n-j.1)
     (λ w5 e5=>⟨(0,vb),⟨e5,Nat.zero_le _,by show OwnI _ _ _ _ _ (_++[]);rw [List.append_nil];exact OwnI.ext hb e5⟩,sZ⟩) ?_
    rintro ⟨i,vb2⟩ w1 ⟨he,hi,hB⟩;dsimp only at hi hB ⊢;have hQi:=hQ.ext (e4.trans he);have hbi:=hbl i
    by_cases hil:i<n
    ·obtain ⟨qd,hat,hone,hcn⟩:=hQi.at (i:=i) oZ
     have hsz:∀ w' u,Cn TT w' u (blk p (kp p i)) (apA (blk p (kp p i)))→_:=λ w' u hu=>yrA hu
     rw [waA] at hsz;have hcat:(c0A (d2A p (c1A p)) (i+1)).length=(c0A (d2A p (c1A p)) i).length+m2A (blk p (kp p i)) (isR (blk p (kp p i))):=by
      show (_++d2A p (c1A p) i).length=_
      rw [List.length_append];unfold d2A;rw [iuA];rfl
     have hofc:c0A (gvA p (c1A p)) (i+1)=c0A (gvA p (c1A p)) i++leS (e2A n (dtA (c1A p) n)+(c0A (d2A p (c1A p)) i).length:Nat) 4:=by rw [hn];rfl
     have hbi1:=hbl (i+1);obtain ⟨sz,hszd⟩:∃ s,s=m2A (blk p (kp p i)) (isR (blk p (kp p i))):=⟨_,rfl⟩;rw [← hszd] at hsz hcat;have hol2:(c0A (gvA p (c1A p)) i).length=i*4:=cjA i (λ j _=>fhA p _ j);rw [hcat] at hbi1;obtain ⟨L0,hL0⟩:∃ L,L=e2A n (dtA (c1A p) n)+(c0A (d2A p (c1A p)) i).length:=⟨_,rfl⟩;have hL1:e2A n (dtA (c1A p) n)+(c0A (d2A p (c1A p)) (i+1)).length=L0+sz:=oZ;rw [← hL0] at hofc ⊢;obtain ⟨B,hBd⟩:∃ B,B=H++c0A (gvA p (c1A p)) i:=⟨_,rfl⟩;have hBl:B.length≤2000:=by rw [hBd,List.length_append];omega
     rw [← hBd] at hB;have hBn:H++c0A (gvA p (c1A p)) (i+1)=B++leS L0 4:=by rw [hofc,hBd];simp only [List.append_assoc]
     clear hszd hcat hofc hBd
     repeat' (first|(refine yL ?_;first|refine a0A rfl ?_|(refine oD 98 ?_;refine c9A (s:=4) rfl _ rfl (λ _=>rfl) rfl (HasC.ownV hQi.1) rfl i rfl oZ ?_;rw [hat])|(refine oD 99 ?_;refine atA (cs:=qcs _) rfl (λ _=>rfl) (λ _=>rfl) rfl ?_)|(refine oD 14 ?_;refine a3A (hK _ _ (crA rfl rfl dZ (λ _=>rfl) (λ _=>rfl) (λ _=>rfl) rfl hone (λ bx wx ex hbx hbc=>?_)));clear hK K;refine abA kZ (λ K hK=>?_))|(refine oD 105 ?_;refine brA (n:=4) rfl hbc rfl rfl (λ _=>rfl) (λ _=>rfl) ?_)|refine yO ?_|(refine yC ?_ ?_<;>intro hc)|(refine yV ?_;first|(refine oC 67 ?_;refine a1A (f:=67) rfl rfl rfl  (.val (.int .i64 (sz:Nat))) (by intro u1 w e hu1;(try obtain rfl:u1=_:=hu1);exact hsz _ _ (Cn.ext hcn (Ext.trans ex e))) ?_)|(refine oC 61 ?_;refine a5A (f:=61) rfl rfl rfl rfl  (.pred (axA w3.heap.size tB .u8 (B++leS L0 4))) (by intro u1 u2 w e hu1 hu2;(try obtain rfl:u1=_:=hu1);(try obtain rfl:u2=_:=hu2);exact (h5A _ _ B L0 (OwnI.slI (OwnI.ext hB (Ext.trans ex e))) oZ oZ oZ).mono (a6A ((e4.trans he).trans (Ext.trans ex e)).size)) ?_))|(refine yN hK ?_;clear hK K))|refine wG ?_|(refine yR ?_;intro K hK)|fail)
     refine fsA 6 rfl (λ vb5 w5 e5 h5=>?_);exact a4A (i+1,vb5) (λ w6 e6=>⟨he.trans (ex.trans (e5.trans e6)),hil,by rw [hBn];exact OwnI.ext h5 e6⟩) eZ (by dsimp only;rw [hL1];(repeat' (first|exact Sub.nil|(refine Sub.val rfl ?_ ?_;first|with_reducible rfl|(congr 1;omega))|refine Sub.same rfl ?_));done)
    ·obtain rfl:i=n:=oZ
     repeat' (first|(refine yL ?_;first|refine a0A rfl ?_|refine yO ?_|(refine yC ?_ ?_<;>intro hc)|(refine yN hK ?_;clear hK K))|refine wG ?_|(refine yR ?_;intro K hK)|fail)
     exact a4A vb2 (λ w5 e5=>⟨(e4.trans he).trans e5,OwnI.ext hB e5⟩) oZ sZ
  ·have hoff:d0A p (c1A p)=[]:=by
    unfold d0A;rw [← hn,if_pos];exact ⟨by rw [← hany];exact decide_eq_true oZ,by omega⟩
   rw [hoff,List.append_nil]
   repeat' (first|(refine yL ?_;first|refine a0A rfl ?_|refine yO ?_|(refine yC ?_ ?_<;>intro hc)|(refine yN hK ?_;clear hK K))|refine wG ?_|(refine yR ?_;intro K hK)|fail)
   exact a4A vb (λ w5 e5=>⟨e4.trans e5,OwnI.ext hb e5⟩) oZ sZ
 clear hb e4 w4 vb;rintro vb w4 ⟨e4,hb⟩;have himg:lfA p=(H++d0A p (c1A p))++c0A (d2A p (c1A p)) n:=by
  unfold lfA hnA;rw [hH,← hn];simp only [List.append_assoc]
 rw [himg];obtain ⟨G,hG⟩:∃ G,G=H++d0A p (c1A p):=⟨_,rfl⟩;have hGl:G.length≤1100:=by rw [hG,List.length_append];omega
 rw [← hG] at hb ⊢;clear himg hG
 repeat' (first|(refine yL ?_;first|refine a0A rfl ?_|(refine oD 110 ?_;refine azA rfl _ rfl rfl (HasC.ownV (Own.ext hQ1 e4)) ?_)|refine yO ?_|(refine yC ?_ ?_<;>intro hc)|(refine yN hK ?_;clear hK K))|refine wG ?_|(refine yR ?_;intro K hK)|fail)
 refine aaA (ι:=Nat × Value) (λ j=>[(6,.val j.2),(109,.val v3),(110,.val (.int .i64 n)),(111,.val (.int .i64 j.1))])
  (λ j w'=>Ext w3 w'∧j.1≤n∧OwnI w3.heap.size tB .u8 w' j.2 (G++c0A (d2A p (c1A p)) j.1)) (λ j=>n-j.1)
  (λ w5 e5=>⟨(0,vb),⟨e4.trans e5,Nat.zero_le _,by show OwnI _ _ _ _ _ (_++[]);rw [List.append_nil];exact OwnI.ext hb e5⟩,sZ⟩) ?_
 rintro ⟨i,vb2⟩ w1 ⟨he,hi,hB⟩;dsimp only at hi hB ⊢;have hQi:=hQ.ext he;have hbi:=hbl i;have hx1:=he
 by_cases hil:i<n
 ·obtain ⟨qd,hat,hone,hcn⟩:=hQi.at (i:=i) oZ
  have hbo:∀ w' u,Cn TT w' u (blk p (kp p i)) (apA (blk p (kp p i)))→Tab w'→_:=λ w' u hu hT'=>zrA hu hT'
  have hble:=itA (blk p (kp p i)) (isR (blk p (kp p i)));have hcat:c0A (d2A p (c1A p)) (i+1)=c0A (d2A p (c1A p)) i++cfA (blk p (kp p i)) (isR (blk p (kp p i))):=rfl;obtain ⟨D,hD⟩:∃ D,D=cfA (blk p (kp p i)) (isR (blk p (kp p i))):=⟨_,rfl⟩;rw [← hD] at hbo hble hcat;obtain ⟨B,hBd⟩:∃ B,B=G++c0A (d2A p (c1A p)) i:=⟨_,rfl⟩;have hBl:B.length≤2000000:=by rw [hBd,List.length_append];omega
  have hBn:G++c0A (d2A p (c1A p)) (i+1)=B++D:=by rw [hcat,hBd];simp only [List.append_assoc]
  rw [← hBd] at hB;clear hD hBd hcat;have hT1:=hT.ext (e3.trans hx1)
  repeat' (first|(refine yL ?_;first|refine a0A rfl ?_|(refine oD 113 ?_;refine c9A (s:=4) rfl _ rfl (λ _=>rfl) rfl (HasC.ownV hQi.1) rfl i rfl oZ ?_;rw [hat])|(refine oD 114 ?_;refine atA (cs:=qcs _) rfl (λ _=>rfl) (λ _=>rfl) rfl ?_)|(refine oD 16 ?_;refine a3A (hK _ _ (crA rfl rfl dZ (λ _=>rfl) (λ _=>rfl) (λ _=>rfl) rfl hone (λ bx wx ex hbx hbc=>?_)));clear hK K;refine abA kZ (λ K hK=>?_))|(refine oD 116 ?_;refine brA (n:=4) rfl hbc rfl rfl (λ _=>rfl) (λ _=>rfl) ?_)|(refine oD 118 ?_;refine a3A (hK _ _ (awA 117 rfl (λ vd wd ed hd=>?_)));clear hK K;replace hd:OwnI w3.heap.size tB .u8 wd vd D:=hd;have hBd:=hB.ext (ex.trans ed);refine anA rfl dZ e5A rfl hBd rfl (HasI.ownV hd).c buA (by unfold maxLen;omega) oZ (λ v' wu wv eu ho hfr hlc=>?_);refine abA kZ (λ K hK=>?_))|refine yO ?_|(refine yC ?_ ?_<;>intro hc)|(refine yV ?_;first|(refine oC 68 ?_;refine a1A (f:=68) rfl rfl rfl  (.pred (axA w3.heap.size tB .u8 D)) (by intro u1 w e hu1;(try obtain rfl:u1=_:=hu1);exact (hbo _ _ (Cn.ext hcn (Ext.trans ex e)) (hT1.ext (Ext.trans ex e))).mono (a6A (hx1.trans (Ext.trans ex e)).size)) ?_))|(refine yN hK ?_;clear hK K))|refine wG ?_|(refine yR ?_;intro K hK)|fail)
  have hxd:=(ex.trans ed).trans eu;have x3:Ext w3 wv:=Fr.ext (hx1.trans hxd) hfr (λ k hk=>(Own.lt hB k hk).1);have x4:Ext w w3:=e3;have hnew:OwnI w3.heap.size tB .u8 wv v' (B++D):=by
   unfold OwnI;rw [List.map_append,List.length_append];exact Own.rebase ho (hlc.ge (λ k hk=>(Own.lt hB k hk).1) (hx1.trans hxd).size)
  exact a4A (i+1,v') (λ w5 e5=>⟨x3.trans e5,hil,by rw [hBn];exact OwnI.ext hnew e5⟩) eZ sZ
 ·obtain rfl:i=n:=oZ
  repeat' (first|(refine yL ?_;first|refine a0A rfl ?_|refine yO ?_|(refine yC ?_ ?_<;>intro hc)|(refine yN hK ?_;clear hK K))|refine wG ?_|(refine yR ?_;intro K hK)|fail)
  exact aiA rfl rfl (e3.trans hx1) (λ u w5 e5 hu=>by obtain rfl:u=_:=hu;exact OwnI.ext (Own.base hB e3.size) e5)
theorem RdI.setRow' {base b at_ c:Nat} {w:World} {sl:Value} {xs:List Int} (h:RdI base w b sl xs at_) (cur:Array Value) (hb:b≠c) (hs:sl.ownBlock≠some c):RdI base (w.setRow c cur) b sl xs at_ :=
 ⟨h.1,by rw [setRow_other _ _ _ _ hb];exact h.2.1,Own.setRow h.2.2.1 cur hs,h.2.2.2⟩
abbrev tPr:Nat:=85
structure Rdr (base:Nat) (w:World) (br bc:Nat) (sl:Value) (ys:List Int) (pos:Nat) (en:Int):Prop where
 hb:base≤br
 hr:w.heap[br]?=some (.cells #[.pointer (some ⟨bc,0,none⟩),.int .i64 en] tPr (0,0))
 rd:RdI base w bc sl ys pos
 hy:∀ x ∈ ys,0≤x∧x<256
theorem Rdr.ext {base br bc pos:Nat} {w w':World} {sl:Value} {ys:List Int} {en:Int} (h:Rdr base w br bc sl ys pos en) (e:Ext w w'):Rdr base w' br bc sl ys pos en:=⟨h.hb,e.block h.hr,h.rd.ext e,h.hy⟩
theorem Rdr.ne {base br bc pos:Nat} {w:World} {sl:Value} {ys:List Int} {en:Int} (h:Rdr base w br bc sl ys pos en):br≠bc:=λ e=>by
 have h1:=h.hr;rw [e,h.rd.2.1] at h1;cases h1
theorem Rdr.step {base br bc pos pos':Nat} {w w':World} {sl:Value} {ys:List Int} {en:Int} (h:Rdr base w br bc sl ys pos en) (h':RdI base w' bc sl ys pos') (hg:w.grownBy w' (some bc)):Rdr base w' br bc sl ys pos' en :=
 ⟨h.hb,(hg.block br (Array.getElem?_eq_some_iff.1 h.hr).1 (λ e=>h.ne (Option.some.inj e))).trans h.hr,h',h.hy⟩
theorem jfA {base br bc pos n:Nat} {w:World} {sl:Value} {ys:List Int} (h:Rdr base w br bc sl ys pos 0) (hn:pos+n≤ys.length):Fc Tryz.prog 51 #[.pointer (some ⟨br,0,none⟩),.int .i64 n] w (Ret w (.val (.bool true))):=by
 have hr:=h.hr;obtain ⟨r1,r2,r3,r4,r5,r6⟩:=h.rd;have hl:∀ w',Ext w w'→_:=λ w' e=>vpA w' bc sl ys pos (e.block r2) ((OwnI.slI r3).ext e) r5
 refine Fc.of (args:=[_,_]) Tryz.func51 rfl rfl Tryz.ntmps51 nZ ?_
 repeat' (first|(refine yL ?_;first|refine a0A rfl ?_|(refine oNc ?_;refine a8A rfl rfl ?_)|(refine oF 0 ?_;refine a2A (a':=⟨br,0,none⟩) rfl rfl (λ _=>rfl) ?_)|(refine oF 1 ?_;refine a2A (a':=⟨br,1,none⟩) rfl rfl (λ _=>rfl) ?_)|(refine oD 8 ?_;refine a7A (c:=.int .i64 0) rfl (λ _=>rfl) rfl hr rfl ?_)|(refine oD 25 ?_;refine a7A (c:=.int .i64 0) rfl (λ _=>rfl) rfl hr rfl ?_)|(refine oD 14 ?_;refine a7A (c:=.pointer (some ⟨bc,0,none⟩)) rfl (λ _=>rfl) rfl hr rfl ?_)|refine yO ?_|(refine yC ?_ ?_<;>intro hc)|(refine yV ?_;first|(refine oC 88 ?_;refine a1A (f:=88) rfl rfl rfl  (.val (.int .i64 (ys.length-pos:Int))) (by intro u1 w e hu1;(try obtain rfl:u1=_:=hu1);exact hl _ e) ?_))|(refine yN hK ?_;clear hK K))|refine wG ?_|(refine yR ?_;intro K hK)|fail)
 exact ajA rfl rfl (Ext.refl _) rfl
theorem f7A {base br bc pos:Nat} {w:World} {sl:Value} {ys:List Int} (h:Rdr base w br bc sl ys pos 0):Fc Tryz.prog 53 #[.pointer (some ⟨br,0,none⟩),.bool true] w (Ret w (.val (.bool true))):=by
 have hr:=h.hr;refine Fc.of (args:=[_,_]) Tryz.func53 rfl rfl Tryz.ntmps53 nZ ?_
 repeat' (first|(refine yL ?_;first|refine a0A rfl ?_|(refine oNc ?_;refine a8A rfl rfl ?_)|(refine oF 1 ?_;refine a2A (a':=⟨br,1,none⟩) rfl rfl (λ _=>rfl) ?_)|(refine oD 8 ?_;refine a7A (c:=.int .i64 0) rfl (λ _=>rfl) rfl hr rfl ?_)|(refine oD 20 ?_;refine a7A (c:=.int .i64 0) rfl (λ _=>rfl) rfl hr rfl ?_)|refine yO ?_|(refine yC ?_ ?_<;>intro hc)|(refine yN hK ?_;clear hK K))|refine wG ?_|(refine yR ?_;intro K hK)|fail)
 exact ajA rfl rfl (Ext.refl _) rfl
theorem Ext.grownBy {w w':World} (h:Ext w w') {r:Option Nat}:w.grownBy w' r:=⟨h.os,h.tape,h.output,h.size,λ k hk _=>Below.block h k hk⟩
theorem xwA {base br bc pos:Nat} {w:World} {sl:Value} {ys xs:List Int} (h:Rdr base w br bc sl ys pos 0) (hA:AtB ys pos (flG (λ x=>leS x 2) xs)) (hx:∀ x ∈ xs,0≤x∧x<65536) (hn:xs.length≤4096) (hinc:Inc xs) (hlow:Low xs) :
 Fc Tryz.prog 90 #[.pointer (some ⟨br,0,none⟩),.int .i64 xs.length] w (λ en w'=>∃ v,en=.returned (.tuple #[v,.bool true])∧Cn TT w' v (bxA xs) 1∧Rdr base w' br bc sl ys (pos+2*xs.length) 0∧w.grownBy w' (some bc)):=by
 have hle:=hA.le;rw [csA _ (λ x=>akA x 2)] at hle;have hhas:∀ w',Ext w w'→_:=λ w' e=>jfA (n:=2*xs.length) (h.ext e) oZ
 have hbcl:=(Array.getElem?_eq_some_iff.1 h.rd.2.1).1;refine Fc.of (args:=[_,_]) Tryz.func90 rfl rfl Tryz.ntmps90 nZ ?_
 repeat' (first|(refine yL ?_;first|refine a0A rfl ?_|(refine oD 4 ?_;refine a3A (hK _ _ (jgA rfl dZ (λ _=>rfl) (λ b4 w4 e4 hb4 hh4=>?_)));clear hK K;refine abA kZ (λ K hK=>?_))|(refine oD 10 ?_;refine ejA rfl rfl rfl fZ ?_;rw [show (2:Int)*(xs.length:Int)=((2*xs.length:Nat):Int) by omega])|(refine oD 15 ?_;refine dkA (n:=xs.length) rfl c5A rfl rfl oZ oZ ?_)|(refine oD 17 ?_;refine azA rfl _ rfl rfl HasI.own.c ?_;rw [List.length_replicate])|refine yO ?_|(refine yC ?_ ?_<;>intro hc)|(refine yV ?_;first|(refine oC 51 ?_;refine a5A (f:=51) rfl rfl rfl rfl  (.val (.bool true)) (by intro u1 u2 w e hu1 hu2;(try obtain rfl:u1=_:=hu1);(try obtain rfl:u2=_:=hu2);exact hhas _ (e4.trans e)) ?_))|(refine yN hK ?_;clear hK K))|refine wG ?_|(refine yR ?_;intro K hK)|fail)
 refine bwA 6 rfl (λ v6 w6 e6 h6=>?_);replace h6:OwnI w4.heap.size tK .u16 w6 v6 (List.replicate xs.length 0):=h6
 refine aaA (ι:=Nat) (λ i=>[(0,.val (.pointer (some ⟨br,0,none⟩))),(4,.val (.pointer (some ⟨b4,0,none⟩))),(6,.val v6),(17,.val (.int .i64 xs.length)),(18,.val (.int .i64 i))])
  (λ i w'=>i≤xs.length∧Rdr base w' br bc sl ys (pos+2*i) 0∧w4.grownBy w' (some bc)∧OwnI w4.heap.size tK .u16 w' v6 (xs.take i++List.replicate (xs.length-i) 0)) (λ i=>xs.length-i)
  (λ w5 e5=>⟨0,⟨Nat.zero_le _,(h.ext e4).ext (e6.trans e5),Ext.grownBy (e6.trans e5),by simpa using OwnI.ext h6 e5⟩,sZ⟩) ?_
 rintro i w2 ⟨hi,hRd,hG,ho⟩;have hsz4:=Fr.size (Fr.grown hG);have hs4:=e4.size;have hh42:=(Fr.grown hG).at hh4 (λ e=>by cases e;omega);have hrr:=hRd.hr
 by_cases hil:i<xs.length
 ·have hAi:=hA.fl 0 hil
  rw [csA _ (λ x=>akA x 2),List.length_take,Nat.min_eq_left oZ,Nat.mul_comm i 2] at hAi;obtain ⟨hx0,hx1⟩:=hx _ (show xs.getD i 0 ∈ xs by rw [List.getD_eq_getElem?_getD,List.getElem?_eq_getElem hil];exact List.getElem_mem hil);have hll:(xs.take i++List.replicate (xs.length-i) 0).length=xs.length:=by rw [List.length_append,List.length_take,List.length_replicate];omega
  obtain ⟨gb,cap,cur,rfl,t1,t2,t3,t4,t5,t6⟩:=OwnI.row ho oZ;rw [hll] at t3 ⊢;have hset:(xs.take i++List.replicate (xs.length-i) 0).set i (xs.getD i 0)=xs.take (i+1)++List.replicate (xs.length-(i+1)) 0:=by
   rw [take_snoc 0 hil,show xs.length-i=(xs.length-(i+1))+1 by omega,List.replicate_succ,List.set_append_right _ _ (by rw [List.length_take];omega),List.length_take,Nat.min_eq_left oZ,Nat.sub_self,List.set_cons_zero,List.append_assoc];rfl
  obtain ⟨x,hxd⟩:∃ x,x=xs.getD i 0:=⟨_,rfl⟩;rw [← hxd] at hAi hx0 hx1 hset
  repeat' (first|(refine yL ?_;first|refine a0A rfl ?_|(refine oNc ?_;refine a8A rfl rfl ?_)|(refine oF 0 ?_;refine a2A (a':=⟨br,0,none⟩) rfl rfl (λ _=>rfl) ?_)|(refine oD 26 ?_;refine a7A (c:=.pointer (some ⟨bc,0,none⟩)) rfl (λ _=>rfl) rfl hrr rfl ?_)|(refine oD 27 ?_;refine a3A (hK _ _ (cqA rfl dZ rfl rfl (λ v w'=>v=.int .u16 x∧RdI base w' bc sl ys (pos+2*i+2)∧w2.grownBy w' (some bc)) (λ w8 e8=>(jhA w8 base bc sl ys _ x (hRd.rd.ext e8) hRd.hy hAi hx0 hx1).mono λ en w' h=>⟨_,h.1,rfl,h.2.1,aoA e8 h.2.2⟩) (λ vv wA hAA=>?_)));clear hK K;obtain ⟨rfl,hA1,hA2⟩:=hAA;dsimp only [LA.vals];have t2':=(Fr.grown hA2).at t2 (λ e=>by cases e;omega);refine abA kZ (λ K hK=>?_))|(refine oD 28 ?_;refine biA (s:=1) rfl rfl (λ _=>rfl) rfl rfl oZ oZ ?_;rw [Int.toNat_natCast,Nat.zero_add,Nat.mul_one])|(refine a3A (hK _ _ (bhA rfl rfl rfl t2' (λ _=>rfl) oZ rfl rfl (λ wB eB=>?_)));clear hK K;dsimp only [LA.vals];refine abA kZ (λ K hK=>?_))|refine yO ?_|(refine yC ?_ ?_<;>intro hc)|(refine yN hK ?_;clear hK K))|refine wG ?_|(refine yR ?_;intro K hK)|fail)
  have hRA:=hRd.step hA1 hA2;have hst:=OwnI.set t1 (eB.block t2') oZ t4 t5 t6 i oZ x;rw [hset,hll] at hst;have hne1:br≠gb:=λ e=>by
   have h1:=(hRA.ext eB).hr;rw [e,eB.block t2'] at h1;cases h1
  have hRB:Rdr base (wB.setRow gb (cur.setIfInBounds i (.int .u16 x))) br bc sl ys (pos+2*(i+1)) 0:=by
   have h2:=hRA.ext eB;refine ⟨h2.hb,by rw [setRow_other _ _ _ _ hne1];exact h2.hr,?_,h2.hy⟩;have:=RdI.setRow' h2.rd (cur.setIfInBounds i (.int .u16 x)) (c:=gb) (λ e=>by omega) (λ hq=>by
    have hlt:=(Own.lt h.rd.2.2.1 gb hq).2;omega)
   rw [show pos+2*(i+1)=pos+2*i+2 by omega];exact this
  have hGB:w4.grownBy (wB.setRow gb (cur.setIfInBounds i (.int .u16 x))) (some bc):=by
   refine Fr.grownBy (Fr.mono ?_ (λ k hk=>hk));have h3:=Fr.grown (amA (coA hG hA2) eB);exact ⟨h3.os,h3.tape,h3.output,by simpa using h3.size,λ k hk hn=>(setRow_other _ _ _ _ (λ e=>by omega)).trans (h3.block k hk hn)⟩
  exact a4A (i+1) (λ w5 e5=>⟨hil,hRB.ext e5,amA hGB e5,OwnI.ext hst e5⟩) oZ sZ
 ·obtain rfl:i=xs.length:=oZ
  rw [List.take_length,Nat.sub_self,List.replicate_zero,List.append_nil] at ho
  repeat' (first|(refine yL ?_;first|refine a0A rfl ?_|(refine a3A (hK _ _ (iyA (q:=32) (φ:=cnP TT (bxA xs) 1) (n:=4) rfl rfl rfl hh42 rfl b2A (λ _=>rfl) (λ cs wC eC hcn hcc hcb=>?_)));clear hK K;refine abA kZ (λ K hK=>?_))|refine yO ?_|(refine yC ?_ ?_<;>intro hc)|(refine yV ?_;first|(refine oC 121 ?_;refine a1A (f:=121) rfl rfl rfl  (.tup2 (.pred (cnP TT (bxA xs) 1)) (.val (.bool true))) (by intro u1 w e hu1;(try obtain rfl:u1=_:=hu1);exact q4A (OwnI.slI (OwnI.ext ho e)) hinc hlow tt) ?_))|(refine yN hK ?_;clear hK K))|refine wG ?_|(refine yR ?_;intro K hK)|fail)
  refine knA rfl rfl (setRow_heap wC b4 _ cs _ (0,0) hcb) hcn rfl rfl rfl (λ w5 e5 u2 hu2=>?_);obtain rfl:u2=.bool true:=hu2;have h2:=hRd.ext eC;have hne1:br≠b4:=λ e=>by
   have h1:=h2.hr;rw [e,hcb] at h1;cases h1
  have hRB:Rdr base (wC.setRow b4 cs) br bc sl ys (pos+2*xs.length) 0 :=
   ⟨h2.hb,by rw [setRow_other _ _ _ _ hne1];exact h2.hr,RdI.setRow' h2.rd cs (c:=b4) (λ e=>by omega) (λ hq=>by
    have hlt:=(Own.lt h.rd.2.2.1 b4 hq).2;omega),h2.hy⟩
  have hGB:w.grownBy (wC.setRow b4 cs) (some bc):=by
   refine Fr.grownBy (Fr.mono ?_ (λ k hk=>hk));have h3:=Fr.grown (amA (aoA e4 hG) eC);exact ⟨h3.os,h3.tape,h3.output,by simpa using h3.size,λ k hk hn=>(setRow_other _ _ _ _ (λ e=>by omega)).trans (h3.block k hk hn)⟩
  exact ⟨_,rfl,(Cn.setRow hcc hcb ⟨by decide,by decide,by decide⟩ cs).ext e5,hRB.ext e5,amA hGB e5⟩
theorem zjA:El Tryz.prog 93 61 (.int .u64 0) 1 8:=⟨rfl,rfl,rfl,by decide⟩
theorem w0A {base br bc pos:Nat} {w:World} {sl:Value} {ys xs:List Int} (h:Rdr base w br bc sl ys pos 0) (hA:AtB ys pos (flG (λ x=>leS x 8) xs)) (hx:∀ x ∈ xs,0≤x∧x<18446744073709551616) (hn:xs.length≤4096) {q:Nat→Bool} (hq:xs=wordsOf q) (hp:q 65536=false) (hxl:xs.length=1024) (c:Int) :
 Fc Tryz.prog 92 #[.pointer (some ⟨br,0,none⟩),.int .i64 c] w (λ en w'=>∃ v,en=.returned (.tuple #[v,.bool true])∧Cn TT w' v q 2∧Rdr base w' br bc sl ys (pos+8*xs.length) 0∧w.grownBy w' (some bc)):=by
 have hle:=hA.le;rw [csA _ (λ x=>akA x 8)] at hle;have hhas:∀ w',Ext w w'→_:=λ w' e=>jfA (n:=8*xs.length) (h.ext e) oZ
 have hbcl:=(Array.getElem?_eq_some_iff.1 h.rd.2.1).1;refine Fc.of (args:=[_,_]) Tryz.func92 rfl rfl Tryz.ntmps92 nZ ?_
 repeat' (first|(refine yL ?_;first|refine a0A rfl ?_|(refine oD 4 ?_;refine a3A (hK _ _ (jgA rfl dZ (λ _=>rfl) (λ b4 w4 e4 hb4 hh4=>?_)));clear hK K;refine abA kZ (λ K hK=>?_))|(refine oD 12 ?_;refine dkA (n:=xs.length) rfl zjA (by rw [hxl];rfl) (by rw [hxl];rfl) oZ oZ ?_)|(refine oD 14 ?_;refine azA rfl _ rfl rfl HasI.own.c ?_;rw [List.length_replicate])|refine yO ?_|(refine yC ?_ ?_<;>intro hc)|(refine yV ?_;first|(refine oC 51 ?_;refine a5A (f:=51) rfl rfl rfl rfl  (.val (.bool true)) (by intro u1 u2 w e hu1 hu2;(try obtain rfl:u1=_:=hu1);(try obtain rfl:u2=_:=hu2);exact by have:=hhas _ (e4.trans e);rw [hxl] at this;exact this) ?_))|(refine yN hK ?_;clear hK K))|refine wG ?_|(refine yR ?_;intro K hK)|fail)
 refine bwA 6 rfl (λ v6 w6 e6 h6=>?_);replace h6:OwnI w4.heap.size 61 .u64 w6 v6 (List.replicate xs.length 0):=h6
 refine aaA (ι:=Nat) (λ i=>[(0,.val (.pointer (some ⟨br,0,none⟩))),(4,.val (.pointer (some ⟨b4,0,none⟩))),(6,.val v6),(14,.val (.int .i64 xs.length)),(15,.val (.int .i64 i))])
  (λ i w'=>i≤xs.length∧Rdr base w' br bc sl ys (pos+8*i) 0∧w4.grownBy w' (some bc)∧OwnI w4.heap.size 61 .u64 w' v6 (xs.take i++List.replicate (xs.length-i) 0)) (λ i=>xs.length-i)
  (λ w5 e5=>⟨0,⟨Nat.zero_le _,(h.ext e4).ext (e6.trans e5),Ext.grownBy (e6.trans e5),by simpa using OwnI.ext h6 e5⟩,sZ⟩) ?_
 rintro i w2 ⟨hi,hRd,hG,ho⟩;have hsz4:=Fr.size (Fr.grown hG);have hs4:=e4.size;have hh42:=(Fr.grown hG).at hh4 (λ e=>by cases e;omega);have hrr:=hRd.hr
 by_cases hil:i<xs.length
 ·have hAi:=hA.fl 0 hil
  rw [csA _ (λ x=>akA x 8),List.length_take,Nat.min_eq_left oZ,Nat.mul_comm i 8] at hAi;obtain ⟨hx0,hx1⟩:=hx _ (show xs.getD i 0 ∈ xs by rw [List.getD_eq_getElem?_getD,List.getElem?_eq_getElem hil];exact List.getElem_mem hil);have hll:(xs.take i++List.replicate (xs.length-i) 0).length=xs.length:=by rw [List.length_append,List.length_take,List.length_replicate];omega
  obtain ⟨gb,cap,cur,rfl,t1,t2,t3,t4,t5,t6⟩:=OwnI.row ho oZ;rw [hll] at t3 ⊢;have hset:(xs.take i++List.replicate (xs.length-i) 0).set i (xs.getD i 0)=xs.take (i+1)++List.replicate (xs.length-(i+1)) 0:=by
   rw [take_snoc 0 hil,show xs.length-i=(xs.length-(i+1))+1 by omega,List.replicate_succ,List.set_append_right _ _ (by rw [List.length_take];omega),List.length_take,Nat.min_eq_left oZ,Nat.sub_self,List.set_cons_zero,List.append_assoc];rfl
  obtain ⟨x,hxd⟩:∃ x,x=xs.getD i 0:=⟨_,rfl⟩;rw [← hxd] at hAi hx0 hx1 hset
  repeat' (first|(refine yL ?_;first|refine a0A rfl ?_|(refine oNc ?_;refine a8A rfl rfl ?_)|(refine oF 0 ?_;refine a2A (a':=⟨br,0,none⟩) rfl rfl (λ _=>rfl) ?_)|(refine oD 23 ?_;refine a7A (c:=.pointer (some ⟨bc,0,none⟩)) rfl (λ _=>rfl) rfl hrr rfl ?_)|(refine oD 24 ?_;refine a3A (hK _ _ (cqA rfl dZ rfl rfl (λ v w'=>v=.int .u64 x∧RdI base w' bc sl ys (pos+8*i+8)∧w2.grownBy w' (some bc)) (λ w8 e8=>(yoA w8 base bc sl ys _ x (hRd.rd.ext e8) hRd.hy hAi hx0 hx1).mono λ en w' h=>⟨_,h.1,rfl,h.2.1,aoA e8 h.2.2⟩) (λ vv wA hAA=>?_)));clear hK K;obtain ⟨rfl,hA1,hA2⟩:=hAA;dsimp only [LA.vals];have t2':=(Fr.grown hA2).at t2 (λ e=>by cases e;omega);refine abA kZ (λ K hK=>?_))|(refine oD 25 ?_;refine biA (s:=1) rfl rfl (λ _=>rfl) rfl rfl oZ oZ ?_;rw [Int.toNat_natCast,Nat.zero_add,Nat.mul_one])|(refine a3A (hK _ _ (bhA rfl rfl rfl t2' (λ _=>rfl) oZ rfl rfl (λ wB eB=>?_)));clear hK K;dsimp only [LA.vals];refine abA kZ (λ K hK=>?_))|refine yO ?_|(refine yC ?_ ?_<;>intro hc)|(refine yN hK ?_;clear hK K))|refine wG ?_|(refine yR ?_;intro K hK)|fail)
  have hRA:=hRd.step hA1 hA2;have hst:=OwnI.set t1 (eB.block t2') oZ t4 t5 t6 i oZ x;rw [hset,hll] at hst;have hne1:br≠gb:=λ e=>by
   have h1:=(hRA.ext eB).hr;rw [e,eB.block t2'] at h1;cases h1
  have hRB:Rdr base (wB.setRow gb (cur.setIfInBounds i (.int .u64 x))) br bc sl ys (pos+8*(i+1)) 0:=by
   have h2:=hRA.ext eB;refine ⟨h2.hb,by rw [setRow_other _ _ _ _ hne1];exact h2.hr,?_,h2.hy⟩;have:=RdI.setRow' h2.rd (cur.setIfInBounds i (.int .u64 x)) (c:=gb) (λ e=>by omega) (λ hq=>by
    have hlt:=(Own.lt h.rd.2.2.1 gb hq).2;omega)
   rw [show pos+8*(i+1)=pos+8*i+8 by omega];exact this
  have hGB:w4.grownBy (wB.setRow gb (cur.setIfInBounds i (.int .u64 x))) (some bc):=by
   refine Fr.grownBy (Fr.mono ?_ (λ k hk=>hk));have h3:=Fr.grown (amA (coA hG hA2) eB);exact ⟨h3.os,h3.tape,h3.output,by simpa using h3.size,λ k hk hn=>(setRow_other _ _ _ _ (λ e=>by omega)).trans (h3.block k hk hn)⟩
  exact a4A (i+1) (λ w5 e5=>⟨hil,hRB.ext e5,amA hGB e5,OwnI.ext hst e5⟩) oZ sZ
 ·obtain rfl:i=xs.length:=oZ
  rw [List.take_length,Nat.sub_self,List.replicate_zero,List.append_nil] at ho
  repeat' (first|(refine yL ?_;first|refine a0A rfl ?_|(refine a3A (hK _ _ (iyA (q:=29) (φ:=cnP TT q 2) (n:=4) rfl rfl rfl hh42 rfl b2A (λ _=>rfl) (λ cs wC eC hcn hcc hcb=>?_)));clear hK K;refine abA kZ (λ K hK=>?_))|refine yO ?_|(refine yC ?_ ?_<;>intro hc)|(refine yV ?_;first|(refine oC 126 ?_;refine a1A (f:=126) rfl rfl rfl  (.tup2 (.pred (cnP TT q 2)) (.val (.bool true))) (by intro u1 w e hu1;(try obtain rfl:u1=_:=hu1);exact wvA (by rw [← hq];exact OwnI.slI (OwnI.ext ho e)) hp tt) ?_))|(refine yN hK ?_;clear hK K))|refine wG ?_|(refine yR ?_;intro K hK)|fail)
  refine knA rfl rfl (setRow_heap wC b4 _ cs _ (0,0) hcb) hcn rfl rfl rfl (λ w5 e5 u2 hu2=>?_);obtain rfl:u2=.bool true:=hu2;have h2:=hRd.ext eC;have hne1:br≠b4:=λ e=>by
   have h1:=h2.hr;rw [e,hcb] at h1;cases h1
  have hRB:Rdr base (wC.setRow b4 cs) br bc sl ys (pos+8*xs.length) 0 :=
   ⟨h2.hb,by rw [setRow_other _ _ _ _ hne1];exact h2.hr,RdI.setRow' h2.rd cs (c:=b4) (λ e=>by omega) (λ hq=>by
    have hlt:=(Own.lt h.rd.2.2.1 b4 hq).2;omega),h2.hy⟩
  have hGB:w.grownBy (wC.setRow b4 cs) (some bc):=by
   refine Fr.grownBy (Fr.mono ?_ (λ k hk=>hk));have h3:=Fr.grown (amA (aoA e4 hG) eC);exact ⟨h3.os,h3.tape,h3.output,by simpa using h3.size,λ k hk hn=>(setRow_other _ _ _ _ (λ e=>by omega)).trans (h3.block k hk hn)⟩
  exact ⟨_,rfl,(Cn.setRow hcc hcb ⟨by decide,by decide,by decide⟩ cs).ext e5,hRB.ext e5,amA hGB e5⟩
theorem el_rn:El Tryz.prog 94 tRn (.agg #[.int .u16 0,.int .u16 0]) 2 4:=⟨rfl,rfl,rfl,by decide⟩
theorem ipA:∀ (rs:List Rn) (i:Nat) (f m:Int),i<rs.length→((cmA rs).set (i*2) (.int .u16 f)).set (i*2+1) (.int .u16 m)=cmA (rs.set i (f,m))
 | [],i,f,m,h=>by simp at h
 | r::rs,0,f,m,h=>rfl
 | r::rs,i+1,f,m,h=>by
   have ih:=ipA rs i f m (by simpa using h);rw [show (i+1)*2=i*2+1+1 by omega,show i*2+1+1+1=(i*2+1)+1+1 by omega];simp only [cmA,List.set_cons_succ,ih]
theorem Rdr.setRow {base br bc pos:Nat} {w:World} {sl:Value} {ys:List Int} {en:Int} (h:Rdr base w br bc sl ys pos en) {gb:Nat} {cur:Array Value} {e:TypeId} {j:Nat × Nat} (hb:w.heap[gb]?=some (.cells cur e j)) (he:e≠tPr) (h1:bc≠gb) (h2:sl.ownBlock≠some gb) (cs:Array Value):Rdr base (w.setRow gb cs) br bc sl ys pos en:=by
 have hne1:br≠gb:=λ e'=>by
  have h3:=h.hr;rw [e',hb] at h3;cases h3;exact he rfl
 exact ⟨h.hb,by rw [setRow_other _ _ _ _ hne1];exact h.hr,RdI.setRow' h.rd cs h1 h2,h.hy⟩
theorem ewA {w0 w:World} {r:Option Nat} (h:w0.grownBy w r) {gb:Nat} (hb:w0.heap.size≤gb) (cs:Array Value):w0.grownBy (w.setRow gb cs) r:=by
 refine Fr.grownBy (Fr.mono ?_ (λ k hk=>hk));have h3:=Fr.grown h;exact ⟨h3.os,h3.tape,h3.output,by simpa using h3.size,λ k hk hn=>(setRow_other _ _ _ _ (λ e=>by omega)).trans (h3.block k hk hn)⟩
theorem ytA {base br bc pos:Nat} {w:World} {sl:Value} {ys:List Int} {q:Nat→Bool} (h:Rdr base w br bc sl ys pos 0) (hA:AtB ys pos (leS (alA q).length 2++flG luA (alA q))) (hq0:0<(alA q).length) (hp:q 65536=false) (c:Int) :
 Fc Tryz.prog 91 #[.pointer (some ⟨br,0,none⟩),.int .i64 c] w (λ en w'=>∃ v,en=.returned (.tuple #[v,.bool true])∧Cn TT w' v q 3∧Rdr base w' br bc sl ys (pos+2+4*(alA q).length) 0∧w.grownBy w' (some bc)):=by
 have hfew:=ggA q;have hu:=dvA q;obtain ⟨rs,hrs⟩:∃ rs,rs=alA q:=⟨_,rfl⟩;rw [← hrs] at hA hq0 hfew hu ⊢;have hA0:=hA.left;have hA1:=hA.right;rw [akA] at hA1;have hle0:=hA0.le;have hle1:=hA1.le;rw [akA] at hle0;rw [csA _ ghA] at hle1;have hhas:∀ w',Ext w w'→Fc Tryz.prog 51 #[.pointer (some ⟨br,0,none⟩),.int .i64 2] w' (Ret w' (.val (.bool true))):=λ w' e=>jfA (n:=2) (h.ext e) hle0
 have hbcl:=(Array.getElem?_eq_some_iff.1 h.rd.2.1).1;have hrr:=h.hr;refine Fc.of (args:=[_,_]) Tryz.func91 rfl rfl Tryz.ntmps91 nZ ?_
 repeat' (first|(refine yL ?_;first|refine a0A rfl ?_|(refine oD 4 ?_;refine a3A (hK _ _ (jgA rfl dZ (λ _=>rfl) (λ b4 w4 e4 hb4 hh4=>?_)));clear hK K;refine abA kZ (λ K hK=>?_))|(refine oNc ?_;refine a8A rfl rfl ?_)|(refine oF 0 ?_;refine a2A (a':=⟨br,0,none⟩) rfl rfl (λ _=>rfl) ?_)|(refine oD 16 ?_;refine a7A (c:=.pointer (some ⟨bc,0,none⟩)) rfl (λ _=>rfl) rfl (Ext.block e4 hrr) rfl ?_)|(refine oD 17 ?_;refine a3A (hK _ _ (cqA rfl dZ rfl rfl (λ v w'=>v=.int .u16 rs.length∧RdI base w' bc sl ys (pos+2)∧w4.grownBy w' (some bc)) (λ w8 e8=>(jhA w8 base bc sl ys _ rs.length (h.rd.ext (e4.trans e8)) h.hy hA0 oZ oZ).mono λ en w' h=>⟨_,h.1,rfl,h.2.1,aoA e8 h.2.2⟩) (λ vv wA hAA=>?_)));clear hK K;obtain ⟨rfl,hB1,hB2⟩:=hAA;dsimp only [LA.vals];have hR1:=(h.ext e4).step hB1 hB2;refine abA kZ (λ K hK=>?_))|(refine oD 27 ?_;refine ejA rfl rfl rfl fZ ?_;rw [show (4:Int)*(rs.length:Int)=((4*rs.length:Nat):Int) by omega])|(refine oD 33 ?_;refine uuA (n:=rs.length) rfl el_rn rfl rfl oZ oZ ?_)|(refine oD 35 ?_;refine c8A rfl _ rfl rfl HasR.own ?_;rw [List.length_replicate])|refine yO ?_|(refine yC ?_ ?_<;>intro hc)|(refine yV ?_;first|(refine oD 10 ?_;refine oC 51 ?_;refine a5A (f:=51) rfl rfl rfl rfl  (.val (.bool true)) (by intro u1 u2 w e hu1 hu2;(try obtain rfl:u1=_:=hu1);(try obtain rfl:u2=_:=hu2);exact hhas _ (e4.trans e)) ?_)|(refine oC 53 ?_;refine a5A (f:=53) rfl rfl rfl rfl  (.val (.bool true)) (by intro u1 u2 w e hu1 hu2;(try obtain rfl:u1=_:=hu1);(try obtain rfl:u2=_:=hu2);exact f7A (hR1.ext e)) ?_)|(refine oD 28 ?_;refine oC 51 ?_;refine a5A (f:=51) rfl rfl rfl rfl  (.val (.bool true)) (by intro u1 u2 w e hu1 hu2;(try obtain rfl:u1=_:=hu1);(try obtain rfl:u2=_:=hu2);exact jfA (n:=4*rs.length) (hR1.ext e) oZ) ?_))|(refine yN hK ?_;clear hK K))|refine wG ?_|(refine yR ?_;intro K hK)|fail)
 refine bwA 7 rfl (λ v7 w7 e7 h7=>?_);replace h7:OwnR wA.heap.size tRn w7 v7 (List.replicate rs.length (0,0)):=h7
 refine aaA (ι:=Nat) (λ i=>[(0,.val (.pointer (some ⟨br,0,none⟩))),(4,.val (.pointer (some ⟨b4,0,none⟩))),(7,.val v7),(35,.val (.int .i64 rs.length)),(36,.val (.int .i64 i))])
  (λ i w'=>i≤rs.length∧Rdr base w' br bc sl ys (pos+2+4*i) 0∧wA.grownBy w' (some bc)∧OwnR wA.heap.size tRn w' v7 (rs.take i++List.replicate (rs.length-i) (0,0))) (λ i=>rs.length-i)
  (λ w5 e5=>⟨0,⟨Nat.zero_le _,hR1.ext (e7.trans e5),Ext.grownBy (e7.trans e5),by simpa using OwnR.ext h7 e5⟩,sZ⟩) ?_
 rintro i w2 ⟨hi,hRd,hG,ho⟩;have hszA:=(Fr.grown hG).size;have hsz4:=(Fr.grown hB2).size;have hs4:=e4.size;have hh42:=(Fr.grown hG).at ((Fr.grown hB2).at hh4 (λ e=>by cases e;omega)) (λ e=>by cases e;omega);have hrr2:=hRd.hr;have hslb:∀ gb,wA.heap.size≤gb→sl.ownBlock≠some gb:=λ gb hgb hq=>by
  have hlt:=(Own.lt h.rd.2.2.1 gb hq).2;omega
 by_cases hil:i<rs.length
 ·have hAi:=hA1.fl (0,0) hil
  rw [csA _ ghA,List.length_take,Nat.min_eq_left oZ,Nat.mul_comm i 4] at hAi;obtain ⟨g1,g2,g3,g4⟩:=hu _ (show rs.getD i (0,0) ∈ rs by rw [List.getD_eq_getElem?_getD,List.getElem?_eq_getElem hil];exact List.getElem_mem hil);have hll:(rs.take i++List.replicate (rs.length-i) ((0,0):Rn)).length=rs.length:=by rw [List.length_append,List.length_take,List.length_replicate];omega
  have hset:(rs.take i++List.replicate (rs.length-i) ((0,0):Rn)).set i (rs.getD i (0,0))=rs.take (i+1)++List.replicate (rs.length-(i+1)) (0,0):=by
   rw [take_snoc (0,0) hil,show rs.length-i=(rs.length-(i+1))+1 by omega,List.replicate_succ,List.set_append_right _ _ (by rw [List.length_take];omega),List.length_take,Nat.min_eq_left oZ,Nat.sub_self,List.set_cons_zero,List.append_assoc];rfl
  obtain ⟨⟨f,m⟩,hfm⟩:∃ r,r=rs.getD i (0,0):=⟨_,rfl⟩;rw [← hfm] at hAi g1 g2 g3 g4 hset;dsimp only at g1 g2 g3 g4;have hAf:AtB ys (pos+2+4*i) (leS f 2):=AtB.left (l':=leS m 2) hAi;have hAm:AtB ys (pos+2+4*i+2) (leS m 2):=by
   have:=AtB.right (l:=leS f 2) (l':=leS m 2) hAi;rw [akA] at this;exact this
  have hc2:=ipA (rs.take i++List.replicate (rs.length-i) ((0,0):Rn)) i f m oZ;rw [hset] at hc2;obtain ⟨gb,cap,cur,rfl,t1,t2,t3,t4,t5,t6⟩:=OwnR.row ho oZ;rw [hll] at t3 t6 ⊢;have hgw:w2.heap.size≤w2.heap.size:=Nat.le_refl _
  repeat' (first|(refine yL ?_;first|refine a0A rfl ?_|(refine oNc ?_;refine a8A rfl rfl ?_)|(refine oD 43 ?_;refine a2A (a':=⟨br,0,none⟩) rfl rfl (λ _=>rfl) ?_)|(refine oD 52 ?_;refine a2A (a':=⟨br,0,none⟩) rfl rfl (λ _=>rfl) ?_)|(refine oD 44 ?_;refine a7A (c:=.pointer (some ⟨bc,0,none⟩)) rfl (λ _=>rfl) rfl hrr2 rfl ?_)|(refine oD 45 ?_;refine a3A (hK _ _ (cqA rfl dZ rfl rfl (λ v w'=>v=.int .u16 f∧RdI base w' bc sl ys (pos+2+4*i+2)∧w2.grownBy w' (some bc)) (λ w8 e8=>(jhA w8 base bc sl ys _ f (hRd.rd.ext e8) hRd.hy hAf oZ oZ).mono λ en w' h=>⟨_,h.1,rfl,h.2.1,aoA e8 h.2.2⟩) (λ vv wX hXX=>?_)));clear hK K;obtain ⟨rfl,hX1,hX2⟩:=hXX;dsimp only [LA.vals];have t2':=(Fr.grown hX2).at t2 (λ e=>by cases e;omega);have hRX:=hRd.step hX1 hX2;refine abA kZ (λ K hK=>?_))|(refine oD 46 ?_;refine biA (s:=2) rfl rfl (λ _=>rfl) rfl rfl oZ oZ ?_;rw [Int.toNat_natCast,Nat.zero_add])|(refine oD 55 ?_;refine biA (s:=2) rfl rfl (λ _=>rfl) rfl rfl oZ oZ ?_;rw [Int.toNat_natCast,Nat.zero_add])|(refine oD 47 ?_;refine a2A (a':=⟨gb,i*2,none⟩) rfl rfl (λ _=>rfl) ?_)|(refine oD 56 ?_;refine a2A (a':=⟨gb,i*2+1,none⟩) rfl rfl (λ _=>rfl) ?_)|(refine a3A (hK _ _ (bhA (o:=i*2) rfl rfl rfl t2' (λ _=>rfl) oZ rfl rfl (λ wY eY=>?_)));clear hK K;dsimp only [LA.vals];have u2:=setRow_heap wY gb _ (cur.setIfInBounds (i*2) (.int .u16 f)) _ (0,0) (eY.block t2');have hRS:=Rdr.setRow (hRX.ext eY) (eY.block t2') dZ oZ (hslb gb t1) (cur.setIfInBounds (i*2) (.int .u16 f));have hGS:=ewA (amA (coA hG hX2) eY) t1 (cur.setIfInBounds (i*2) (.int .u16 f));obtain ⟨S1,hS1⟩:∃ S1,S1=wY.setRow gb (cur.setIfInBounds (i*2) (.int .u16 f)):=⟨_,rfl⟩;rw [← hS1] at u2 hRS hGS ⊢;clear hS1;have hrS:=hRS.hr;refine abA kZ (λ K hK=>?_))|(refine oD 53 ?_;refine a7A (c:=.pointer (some ⟨bc,0,none⟩)) rfl (λ _=>rfl) rfl hrS rfl ?_)|(refine oD 54 ?_;refine a3A (hK _ _ (cqA rfl dZ rfl rfl (λ v w'=>v=.int .u16 m∧RdI base w' bc sl ys (pos+2+4*i+2+2)∧S1.grownBy w' (some bc)) (λ w8 e8=>(jhA w8 base bc sl ys _ m (hRS.rd.ext e8) hRS.hy hAm oZ oZ).mono λ en w' h=>⟨_,h.1,rfl,h.2.1,aoA e8 h.2.2⟩) (λ vv wZ hZZ=>?_)));clear hK K;obtain ⟨rfl,hZ1,hZ2⟩:=hZZ;dsimp only [LA.vals];have u2':=(Fr.grown hZ2).at u2 (λ e=>by cases e;omega);have hRZ:=hRS.step hZ1 hZ2;refine abA kZ (λ K hK=>?_))|(refine a3A (hK _ _ (bhA (o:=i*2+1) rfl rfl rfl u2' (λ _=>rfl) (by rw [Array.size_setIfInBounds];omega) rfl rfl (λ wV eV=>?_)));clear hK K;dsimp only [LA.vals];refine abA kZ (λ K hK=>?_))|refine yO ?_|(refine yC ?_ ?_<;>intro hc)|(refine yN hK ?_;clear hK K))|refine wG ?_|(refine yR ?_;intro K hK)|fail)
  have hRV:=Rdr.setRow (hRZ.ext eV) (eV.block u2') dZ oZ (hslb gb t1) ((cur.setIfInBounds (i*2) (.int .u16 f)).setIfInBounds (i*2+1) (.int .u16 m));have hGV:=ewA (amA (coA hGS hZ2) eV) t1 ((cur.setIfInBounds (i*2) (.int .u16 f)).setIfInBounds (i*2+1) (.int .u16 m));have hll':(rs.take (i+1)++List.replicate (rs.length-(i+1)) ((0,0):Rn)).length=rs.length:=by rw [List.length_append,List.length_take,List.length_replicate];omega
  have hOV:OwnR wA.heap.size tRn (wV.setRow gb ((cur.setIfInBounds (i*2) (.int .u16 f)).setIfInBounds (i*2+1) (.int .u16 m))) (.slice (some ⟨gb,0,none⟩) rs.length cap) (rs.take (i+1)++List.replicate (rs.length-(i+1)) (0,0)):=by
   refine ⟨by rw [dsA],.inr ⟨gb,cap,(cur.setIfInBounds (i*2) (.int .u16 f)).setIfInBounds (i*2+1) (.int .u16 m),by rw [hll'],t1,setRow_heap wV gb _ _ _ _ (eV.block u2'),by rw [hll'];exact t3,t4,by simpa using t5,?_⟩⟩;rw [Array.toList_setIfInBounds,Array.toList_setIfInBounds,hll',List.take_set,List.take_set,t6,hc2]
  exact a4A (i+1) (λ w5 e5=>⟨hil,by rw [show pos+2+4*(i+1)=pos+2+4*i+2+2 by omega];exact hRV.ext e5,amA hGV e5,hOV.ext e5⟩) oZ sZ
 ·obtain rfl:i=rs.length:=oZ
  rw [List.take_length,Nat.sub_self,List.replicate_zero,List.append_nil] at ho
  repeat' (first|(refine yL ?_;first|refine a0A rfl ?_|(refine a3A (hK _ _ (iyA (q:=60) (φ:=cnP TT q 3) (n:=4) rfl rfl rfl hh42 rfl b2A (λ _=>rfl) (λ cs wC eC hcn hcc hcb=>?_)));clear hK K;refine abA kZ (λ K hK=>?_))|refine yO ?_|(refine yC ?_ ?_<;>intro hc)|(refine yV ?_;first|(refine oC 124 ?_;refine a1A (f:=124) rfl rfl rfl  (.tup2 (.pred (cnP TT q 3)) (.val (.bool true))) (by intro u1 w e hu1;(try obtain rfl:u1=_:=hu1);exact wwA (by rw [← hrs];exact OwnR.slR (OwnR.ext ho e)) hp tt) ?_))|(refine yN hK ?_;clear hK K))|refine wG ?_|(refine yR ?_;intro K hK)|fail)
  refine knA rfl rfl (setRow_heap wC b4 _ cs _ (0,0) hcb) hcn rfl rfl rfl (λ w5 e5 u2 hu2=>?_);obtain rfl:u2=.bool true:=hu2;have hRB:=Rdr.setRow (hRd.ext eC) hcb dZ oZ (λ hq=>by
   have hlt:=(Own.lt h.rd.2.2.1 b4 hq).2;omega) cs
  have hGB:=ewA (amA (aoA e4 (coA hB2 hG)) eC) hb4 cs;exact ⟨_,rfl,(Cn.setRow hcc hcb ⟨by decide,by decide,by decide⟩ cs).ext e5,hRB.ext e5,amA hGB e5⟩
theorem syA {q:Nat→Bool} (h:0<cnt q 65536):0<(alA q).length:=by
 have hl:lcA (alA q)=cnt q 65536:=mbA q 65536;cases hr:alA q with
 | nil=>rw [hr,show lcA []=0 from rfl] at hl;omega
 | cons r rs=>simp
theorem one_r {base br bc pos:Nat} {w:World} {sl:Value} {ys:List Int} {q:Nat→Bool} (h:Rdr base w br bc sl ys pos 0) (f:Bool) (hA:AtB ys pos (cfA q f)) (hc0:0<cnt q 65536) (hp:q 65536=false) :
 Fc Tryz.prog 56 #[.pointer (some ⟨br,0,none⟩),.int .i64 (cnt q 65536:Nat),.bool f] w (λ en w'=>∃ v,en=.returned v∧(∃ kk,Cn TT w' v q kk)∧Rdr base w' br bc sl ys (pos+(cfA q f).length) 0∧w.grownBy w' (some bc)):=by
 have hbcl:=(Array.getElem?_eq_some_iff.1 h.rd.2.1).1;have hcl:=cnt_le q 65536;cases f with
 | true =>
   have hbl:(cfA q true).length=2+4*(alA q).length:=by rw [iuA];rfl
   have hcall:∀ w',Ext w w'→Fc Tryz.prog 91 #[.pointer (some ⟨br,0,none⟩),.int .i64 (cnt q 65536:Nat)] w' (λ en w''=>∃ v,en=.returned (.tuple #[v,.bool true])∧Cn TT w'' v q 3∧Rdr base w'' br bc sl ys (pos+(cfA q true).length) 0∧w'.grownBy w'' (some bc)):=λ w' e=>by
    have:=ytA (h.ext e) (q:=q) (by have:=hA;unfold cfA at this;exact this) (syA hc0) hp (cnt q 65536:Nat);rw [hbl,← Nat.add_assoc];exact this
   refine Fc.of (args:=[_,_,_]) Tryz.func56 rfl rfl Tryz.ntmps56 nZ ?_
   repeat' (first|(refine yL ?_;first|refine a0A rfl ?_|(refine oD 6 ?_;refine a3A (hK _ _ (jgA rfl dZ (λ _=>rfl) (λ b6 w6 e6 hb6 hh6=>?_)));clear hK K;refine abA kZ (λ K hK=>?_))|(refine oD 11 ?_;refine ebA rfl rfl ?_)|(refine oD 15 ?_;refine ebA rfl rfl ?_)|(refine oD 20 ?_;refine ebA rfl rfl ?_)|(refine oD 24 ?_;refine a3A (hK _ _ (izA rfl dZ rfl rfl (λ v w'=>∃ qd:Qd,v=.tuple #[qv qd,.bool true]∧(∀ u ∈ qcs qd,u.oneCell'=true)∧Cn TT w' (qv qd) q 3∧Rdr base w' br bc sl ys (pos+(cfA q true).length) 0∧w6.grownBy w' (some bc)) (λ w8 e8=>(hcall w8 (e6.trans e8)).mono (λ en w' h=>?_)) (λ vv wA hAA=>?_)));clear hK K)|refine yO ?_|(refine yC ?_ ?_<;>intro hc)|(refine yN hK ?_;clear hK K))|refine wG ?_|(refine yR ?_;intro K hK)|fail)
   ·obtain ⟨u,h1,h2,h3,h4⟩:=h
    obtain ⟨qd,rfl,hone⟩:=h2.qd;exact ⟨_,h1,qd,rfl,hone,h2,h3,aoA e8 h4⟩
   obtain ⟨qd,rfl,hone,hcn,hRA,hGA⟩:=hAA;have hh6A:=(Fr.grown hGA).at hh6 (λ e=>by cases e;omega);refine abA kZ (λ K hK=>?_)
   repeat' (first|(refine yL ?_;first|refine a0A rfl ?_|(refine oD 25 ?_;refine dnA rfl rfl ?_)|(refine oD 26 ?_;refine dmA rfl rfl ?_)|(refine oD 8 ?_;refine a3A (hK _ _ (crA rfl rfl dZ (λ _=>rfl) (λ _=>rfl) (λ _=>rfl) rfl hone (λ b8 w8 e8 hb8 hh8=>?_)));clear hK K;refine abA kZ (λ K hK=>?_))|(refine oLt 96 ?_;refine brA (n:=4) rfl hh8 rfl rfl (λ _=>rfl) (λ _=>rfl) ?_)|(refine a3A (hK _ _ (duA (c:=qv qd) rfl rfl rfl (e8.block hh6A) (λ _=>rfl) rfl hone (λ wB eB=>?_)));clear hK K;dsimp only [LA.vals];refine abA kZ (λ K hK=>?_))|refine yO ?_|(refine yC ?_ ?_<;>intro hc)|(refine yV ?_;first|(refine oC 65 ?_;refine a1A (f:=65) rfl rfl rfl  (.val (.int .i64 (cnt q 65536:Nat))) (by intro u1 w e hu1;(try obtain rfl:u1=_:=hu1);exact idA (Cn.ext hcn (e8.trans e))) ?_)|(refine oC 53 ?_;refine a5A (f:=53) rfl rfl rfl rfl  (.val (.bool true)) (by intro u1 u2 w e hu1 hu2;(try obtain rfl:u1=_:=hu1);(try obtain rfl:u2=_:=hu2);exact f7A ((hRA.ext e8).ext e)) ?_))|(refine yN hK ?_;clear hK K))|refine wG ?_|(refine yR ?_;intro K hK)|fail)
   have hcb:=eB.block (e8.block hh6A);refine iwA rfl rfl (setRow_heap wB b6 _ (qv qd).cells _ (0,0) hcb) rfl rfl rfl rfl (λ w5 e5=>?_);have hRB:=Rdr.setRow ((hRA.ext e8).ext eB) hcb dZ oZ (λ hq=>by
    have hlt:=(Own.lt h.rd.2.2.1 b6 hq).2;omega) (qv qd).cells
   have hGB:=ewA (amA (amA (aoA e6 hGA) e8) eB) hb6 (qv qd).cells;exact ⟨_,rfl,⟨_,(Cn.setRow (Cn.ext hcn (e8.trans eB)) hcb ⟨by decide,by decide,by decide⟩ (qv qd).cells).ext e5⟩,hRB.ext e5,amA hGB e5⟩
 | false =>
   by_cases h4:cnt q 65536≤4096
   ·have hbf:cfA q false=flG (λ x=>leS x 2) (aeA q 65536):=by unfold cfA;rw [if_neg dZ,if_pos h4]
    have hbl:(cfA q false).length=2*(aeA q 65536).length:=by rw [hbf,csA _ (λ x=>akA x 2)];omega
    have hll:=ayA q 65536;have hcall:∀ w',Ext w w'→Fc Tryz.prog 90 #[.pointer (some ⟨br,0,none⟩),.int .i64 (cnt q 65536:Nat)] w' (λ en w''=>∃ v,en=.returned (.tuple #[v,.bool true])∧Cn TT w'' v q 1∧Rdr base w'' br bc sl ys (pos+(cfA q false).length) 0∧w'.grownBy w'' (some bc)):=λ w' e=>by
     have hu:∀ x ∈ aeA q 65536,0≤x∧x<65536:=λ x hx=>by
      obtain ⟨i,g1,-,g3⟩:=(byA _ _ _).1 hx;omega
     have:=xwA (h.ext e) (by rw [← hbf];exact hA) hu oZ (bzA q _) hu;rw [hll] at this;rw [hbl,hll];exact this.mono (λ en w'' ⟨v,g1,g2,g3⟩=>⟨v,g1,xlA hp g2,g3⟩)
    refine Fc.of (args:=[_,_,_]) Tryz.func56 rfl rfl Tryz.ntmps56 nZ ?_
    repeat' (first|(refine yL ?_;first|refine a0A rfl ?_|(refine oD 6 ?_;refine a3A (hK _ _ (jgA rfl dZ (λ _=>rfl) (λ b6 w6 e6 hb6 hh6=>?_)));clear hK K;refine abA kZ (λ K hK=>?_))|(refine oD 11 ?_;refine ebA rfl rfl ?_)|(refine oD 15 ?_;refine ebA rfl rfl ?_)|(refine oD 20 ?_;refine ebA rfl rfl ?_)|(refine oD 24 ?_;refine a3A (hK _ _ (izA rfl dZ rfl rfl (λ v w'=>∃ qd:Qd,v=.tuple #[qv qd,.bool true]∧(∀ u ∈ qcs qd,u.oneCell'=true)∧Cn TT w' (qv qd) q 1∧Rdr base w' br bc sl ys (pos+(cfA q false).length) 0∧w6.grownBy w' (some bc)) (λ w8 e8=>(hcall w8 (e6.trans e8)).mono (λ en w' h=>?_)) (λ vv wA hAA=>?_)));clear hK K)|refine yO ?_|(refine yC ?_ ?_<;>intro hc)|(refine yN hK ?_;clear hK K))|refine wG ?_|(refine yR ?_;intro K hK)|fail)
    ·obtain ⟨u,h1,h2,h3,h4⟩:=h
     obtain ⟨qd,rfl,hone⟩:=h2.qd;exact ⟨_,h1,qd,rfl,hone,h2,h3,aoA e8 h4⟩
    obtain ⟨qd,rfl,hone,hcn,hRA,hGA⟩:=hAA;have hh6A:=(Fr.grown hGA).at hh6 (λ e=>by cases e;omega);refine abA kZ (λ K hK=>?_)
    repeat' (first|(refine yL ?_;first|refine a0A rfl ?_|(refine oD 25 ?_;refine dnA rfl rfl ?_)|(refine oD 26 ?_;refine dmA rfl rfl ?_)|(refine oD 8 ?_;refine a3A (hK _ _ (crA rfl rfl dZ (λ _=>rfl) (λ _=>rfl) (λ _=>rfl) rfl hone (λ b8 w8 e8 hb8 hh8=>?_)));clear hK K;refine abA kZ (λ K hK=>?_))|(refine oLt 96 ?_;refine brA (n:=4) rfl hh8 rfl rfl (λ _=>rfl) (λ _=>rfl) ?_)|(refine a3A (hK _ _ (duA (c:=qv qd) rfl rfl rfl (e8.block hh6A) (λ _=>rfl) rfl hone (λ wB eB=>?_)));clear hK K;dsimp only [LA.vals];refine abA kZ (λ K hK=>?_))|refine yO ?_|(refine yC ?_ ?_<;>intro hc)|(refine yV ?_;first|(refine oC 65 ?_;refine a1A (f:=65) rfl rfl rfl  (.val (.int .i64 (cnt q 65536:Nat))) (by intro u1 w e hu1;(try obtain rfl:u1=_:=hu1);exact idA (Cn.ext hcn (e8.trans e))) ?_)|(refine oC 53 ?_;refine a5A (f:=53) rfl rfl rfl rfl  (.val (.bool true)) (by intro u1 u2 w e hu1 hu2;(try obtain rfl:u1=_:=hu1);(try obtain rfl:u2=_:=hu2);exact f7A ((hRA.ext e8).ext e)) ?_))|(refine yN hK ?_;clear hK K))|refine wG ?_|(refine yR ?_;intro K hK)|fail)
    have hcb:=eB.block (e8.block hh6A);refine iwA rfl rfl (setRow_heap wB b6 _ (qv qd).cells _ (0,0) hcb) rfl rfl rfl rfl (λ w5 e5=>?_);have hRB:=Rdr.setRow ((hRA.ext e8).ext eB) hcb dZ oZ (λ hq=>by
     have hlt:=(Own.lt h.rd.2.2.1 b6 hq).2;omega) (qv qd).cells
    have hGB:=ewA (amA (amA (aoA e6 hGA) e8) eB) hb6 (qv qd).cells;exact ⟨_,rfl,⟨_,(Cn.setRow (Cn.ext hcn (e8.trans eB)) hcb ⟨by decide,by decide,by decide⟩ (qv qd).cells).ext e5⟩,hRB.ext e5,amA hGB e5⟩
   ·have hbf:cfA q false=flG (λ x=>leS x 8) (wordsOf q):=by unfold cfA;rw [if_neg dZ,if_neg h4]
    have hbl:(cfA q false).length=8*(wordsOf q).length:=by rw [hbf,csA _ (λ x=>akA x 8)];omega
    have hcall:∀ w',Ext w w'→Fc Tryz.prog 92 #[.pointer (some ⟨br,0,none⟩),.int .i64 (cnt q 65536:Nat)] w' (λ en w''=>∃ v,en=.returned (.tuple #[v,.bool true])∧Cn TT w'' v q 2∧Rdr base w'' br bc sl ys (pos+(cfA q false).length) 0∧w'.grownBy w'' (some bc)):=λ w' e=>by
     have hu:∀ x ∈ wordsOf q,0≤x∧x<18446744073709551616:=λ x hx=>bnA q x hx
     have:=w0A (h.ext e) (by rw [← hbf];exact hA) hu (by rw [aqA];decide) rfl hp (aqA q) (cnt q 65536:Nat);rw [hbl];exact this
    refine Fc.of (args:=[_,_,_]) Tryz.func56 rfl rfl Tryz.ntmps56 nZ ?_
    repeat' (first|(refine yL ?_;first|refine a0A rfl ?_|(refine oD 6 ?_;refine a3A (hK _ _ (jgA rfl dZ (λ _=>rfl) (λ b6 w6 e6 hb6 hh6=>?_)));clear hK K;refine abA kZ (λ K hK=>?_))|(refine oD 11 ?_;refine ebA rfl rfl ?_)|(refine oD 15 ?_;refine ebA rfl rfl ?_)|(refine oD 20 ?_;refine ebA rfl rfl ?_)|(refine oD 24 ?_;refine a3A (hK _ _ (izA rfl dZ rfl rfl (λ v w'=>∃ qd:Qd,v=.tuple #[qv qd,.bool true]∧(∀ u ∈ qcs qd,u.oneCell'=true)∧Cn TT w' (qv qd) q 2∧Rdr base w' br bc sl ys (pos+(cfA q false).length) 0∧w6.grownBy w' (some bc)) (λ w8 e8=>(hcall w8 (e6.trans e8)).mono (λ en w' h=>?_)) (λ vv wA hAA=>?_)));clear hK K)|refine yO ?_|(refine yC ?_ ?_<;>intro hc)|(refine yN hK ?_;clear hK K))|refine wG ?_|(refine yR ?_;intro K hK)|fail)
    ·obtain ⟨u,h1,h2,h3,h4⟩:=h
     obtain ⟨qd,rfl,hone⟩:=h2.qd;exact ⟨_,h1,qd,rfl,hone,h2,h3,aoA e8 h4⟩
    obtain ⟨qd,rfl,hone,hcn,hRA,hGA⟩:=hAA;have hh6A:=(Fr.grown hGA).at hh6 (λ e=>by cases e;omega);refine abA kZ (λ K hK=>?_)
    repeat' (first|(refine yL ?_;first|refine a0A rfl ?_|(refine oD 25 ?_;refine dnA rfl rfl ?_)|(refine oD 26 ?_;refine dmA rfl rfl ?_)|(refine oD 8 ?_;refine a3A (hK _ _ (crA rfl rfl dZ (λ _=>rfl) (λ _=>rfl) (λ _=>rfl) rfl hone (λ b8 w8 e8 hb8 hh8=>?_)));clear hK K;refine abA kZ (λ K hK=>?_))|(refine oLt 96 ?_;refine brA (n:=4) rfl hh8 rfl rfl (λ _=>rfl) (λ _=>rfl) ?_)|(refine a3A (hK _ _ (duA (c:=qv qd) rfl rfl rfl (e8.block hh6A) (λ _=>rfl) rfl hone (λ wB eB=>?_)));clear hK K;dsimp only [LA.vals];refine abA kZ (λ K hK=>?_))|refine yO ?_|(refine yC ?_ ?_<;>intro hc)|(refine yV ?_;first|(refine oC 65 ?_;refine a1A (f:=65) rfl rfl rfl  (.val (.int .i64 (cnt q 65536:Nat))) (by intro u1 w e hu1;(try obtain rfl:u1=_:=hu1);exact idA (Cn.ext hcn (e8.trans e))) ?_)|(refine oC 53 ?_;refine a5A (f:=53) rfl rfl rfl rfl  (.val (.bool true)) (by intro u1 u2 w e hu1 hu2;(try obtain rfl:u1=_:=hu1);(try obtain rfl:u2=_:=hu2);exact f7A ((hRA.ext e8).ext e)) ?_))|(refine yN hK ?_;clear hK K))|refine wG ?_|(refine yR ?_;intro K hK)|fail)
    have hcb:=eB.block (e8.block hh6A);refine iwA rfl rfl (setRow_heap wB b6 _ (qv qd).cells _ (0,0) hcb) rfl rfl rfl rfl (λ w5 e5=>?_);have hRB:=Rdr.setRow ((hRA.ext e8).ext eB) hcb dZ oZ (λ hq=>by
     have hlt:=(Own.lt h.rd.2.2.1 b6 hq).2;omega) (qv qd).cells
    have hGB:=ewA (amA (amA (aoA e6 hGA) e8) eB) hb6 (qv qd).cells;exact ⟨_,rfl,⟨_,(Cn.setRow (Cn.ext hcn (e8.trans eB)) hcb ⟨by decide,by decide,by decide⟩ (qv qd).cells).ext e5⟩,hRB.ext e5,amA hGB e5⟩
theorem nqA (a b:Int) (ha:0≤a) (ha2:a<65536) (hb:0≤b):leS a 2++leS b 2=leS (a+65536*b) 4:=by
 simp only [leS,List.cons_append,List.nil_append];have h1:(a+65536*b) % 256=a % 256:=oZ;have h2:(a+65536*b) / 256 % 256=a / 256 % 256:=oZ;have h3:(a+65536*b) / 256 / 256=b:=oZ;rw [h1,h2,h3]
theorem xpA {base b at_:Nat} {w:World} {sl:Value} {xs l:List Int} (h:RdI base w b sl xs at_) (hA:AtB xs at_ l) :
 Fc Tryz.prog 87 #[.pointer (some ⟨b,0,none⟩),.int .i64 l.length] w (λ en w'=>∃ v,en=.returned v∧OwnI w.heap.size tB .u8 w' v l∧RdI base w' b sl xs (at_+l.length)∧w.grownBy w' (some b)):=by
 have hle:=hA.le;have hxl:=h.2.2.2.2.2;have hcut:=o0A hA rfl;refine Fc.of (args:=[_,_]) Tryz.func87 rfl rfl Tryz.ntmps87 nZ ?_
 repeat' (first|(refine yL ?_;first|refine a0A rfl ?_|(refine oD 7 ?_;refine a3A (hK _ _ (g0A rfl dZ rfl rfl rfl (λ sub w'=>RdI base w' b sl xs (at_+l.length)∧w.grownBy w' (some b)∧SlI .u8 w' sub l) (λ w2 e2=>(veA w2 base b sl xs at_ l.length (h.ext e2) hle).mono (λ en w' ⟨sub,h1,h2,h3,h4⟩=>⟨sub,h1,h2,aoA e2 h3,by rw [hcut] at h4;exact h4⟩)) (λ sub w3 hr=>?_)));clear hK K;obtain ⟨hr1,hr2,hr3⟩:=hr;refine abA kZ (λ K hK=>?_))|refine yO ?_|(refine yC ?_ ?_<;>intro hc)|(refine yV ?_;first|(refine oC 86 ?_;refine a1A (f:=86) rfl rfl rfl  (.pred (axA w3.heap.size tB .u8 l)) (by intro u1 w e hu1;(try obtain rfl:u1=_:=hu1);exact (mlA _ _ l (hr3.ext e) oZ).mono (a6A e.size)) ?_))|(refine yN hK ?_;clear hK K))|refine wG ?_|(refine yR ?_;intro K hK)|fail)
 refine cbA rfl (λ v5 w5 e5 h5=>?_);exact ⟨v5,rfl,Own.base h5 (Fr.grown hr2).size,hr1.ext e5,amA hr2 e5⟩
theorem r3A (f:Nat→Bool):∀ n,dtA f n=false→fB f n=0
 | 0,_=>rfl
 | n+1,h=>by
   simp only [dtA,Bool.or_eq_false_iff] at h;simp only [fB,r3A f n h.1,h.2];rfl
theorem rcA {base br bc pos:Nat} {w:World} {sl:Value} {ys:List Int} {n:Nat} {f:Nat→Bool} (h:Rdr base w br bc sl ys pos 0) (hn:n≤8) (ha:dtA f n=false) (hA:AtB ys pos (caA n f)) :
 Fc Tryz.prog 50 #[.pointer (some ⟨br,0,none⟩)] w (λ en w'=>∃ fv fl,en=.returned (.tuple #[.int .i64 n,fv,.bool true])∧OwnI w.heap.size tB .u8 w' fv fl∧fl.length=(n+7) / 8∧(0<n→fl.getD 0 0=(fB f n:Int))∧Rdr base w' br bc sl ys (pos+(caA n f).length) 0∧w.grownBy w' (some bc)):=by
 have hck:caA n f=leS 12346 4++leS n 4:=by unfold caA;rw [ha,if_neg dZ]
 rw [hck] at hA ⊢;have hA0:=hA.left;have hA1:=hA.right;rw [akA] at hA1;have hle0:=hA0.le;have hle1:=hA1.le;rw [akA] at hle0 hle1;rw [List.length_append,akA,akA];have hhas:∀ w',Ext w w'→Fc Tryz.prog 51 #[.pointer (some ⟨br,0,none⟩),.int .i64 4] w' (Ret w' (.val (.bool true))):=λ w' e=>jfA (n:=4) (h.ext e) hle0
 have hrr:=h.hr;refine Fc.of (args:=[_]) Tryz.func50 rfl rfl Tryz.ntmps50 nZ ?_
 repeat' (first|(refine yL ?_;first|refine a0A rfl ?_|(refine oNc ?_;refine a8A rfl rfl ?_)|(refine oF 0 ?_;refine a2A (a':=⟨br,0,none⟩) rfl rfl (λ _=>rfl) ?_)|(refine oD 13 ?_;refine a7A (c:=.pointer (some ⟨bc,0,none⟩)) rfl (λ _=>rfl) rfl hrr rfl ?_)|(refine oD 14 ?_;refine a3A (hK _ _ (cqA rfl dZ rfl rfl (λ v w'=>v=.int .u32 12346∧RdI base w' bc sl ys (pos+4)∧w.grownBy w' (some bc)) (λ w8 e8=>(mxA w8 base bc sl ys _ 12346 (h.rd.ext e8) h.hy hA0 dZ dZ).mono λ en w' h=>⟨_,h.1,rfl,h.2.1,aoA e8 h.2.2⟩) (λ vv wA hAA=>?_)));clear hK K;obtain ⟨rfl,hB1,hB2⟩:=hAA;dsimp only [LA.vals];have hR1:=h.step hB1 hB2;have hr1:=hR1.hr;refine abA kZ (λ K hK=>?_))|(refine oD 24 ?_;refine a7A (c:=.pointer (some ⟨bc,0,none⟩)) rfl (λ _=>rfl) rfl hr1 rfl ?_)|(refine oD 25 ?_;refine a3A (hK _ _ (cqA rfl dZ rfl rfl (λ v w'=>v=.int .u32 n∧RdI base w' bc sl ys (pos+4+4)∧wA.grownBy w' (some bc)) (λ w8 e8=>(mxA w8 base bc sl ys _ n (hR1.rd.ext e8) h.hy hA1 oZ oZ).mono λ en w' h=>⟨_,h.1,rfl,h.2.1,aoA e8 h.2.2⟩) (λ vv wB hBB=>?_)));clear hK K;obtain ⟨rfl,hC1,hC2⟩:=hBB;dsimp only [LA.vals];have hR2:=hR1.step hC1 hC2;refine abA kZ (λ K hK=>?_))|refine djA rfl rfl rfl ?_|(refine oD 35 ?_;refine d5A rfl rfl rfl oZ oZ fZ ?_;rw [show (min (n:Int) 65536+7) / 8=(((n+7) / 8:Nat):Int) by omega])|(refine oD 36 ?_;refine dkA (n:=(n+7) / 8) rfl e5A rfl rfl oZ oZ ?_)|refine yO ?_|(refine yC ?_ ?_<;>intro hc)|(refine yV ?_;first|(refine oD 8 ?_;refine oC 51 ?_;refine a5A (f:=51) rfl rfl rfl rfl  (.val (.bool true)) (by intro u1 u2 w e hu1 hu2;(try obtain rfl:u1=_:=hu1);(try obtain rfl:u2=_:=hu2);exact hhas _ e) ?_)|(refine oD 19 ?_;refine oC 51 ?_;refine a5A (f:=51) rfl rfl rfl rfl  (.val (.bool true)) (by intro u1 u2 w e hu1 hu2;(try obtain rfl:u1=_:=hu1);(try obtain rfl:u2=_:=hu2);exact jfA (n:=4) (hR1.ext e) hle1) ?_)|(refine oC 53 ?_;refine a5A (f:=53) rfl rfl rfl rfl  (.val (.bool true)) (by intro u1 u2 w e hu1 hu2;(try obtain rfl:u1=_:=hu1);(try obtain rfl:u2=_:=hu2);exact f7A (hR2.ext e)) ?_))|(refine yN hK ?_;clear hK K))|refine wG ?_|(refine yR ?_;intro K hK)|fail)
 refine mpA rfl (λ v5 v6 v7 w5 e5 h5 h6 h7=>?_);obtain rfl:v5=_:=h5;obtain rfl:v7=_:=h7;exact ⟨v6,_,rfl,Own.base h6 (Nat.le_trans (Fr.grown hB2).size (Fr.grown hC2).size),List.length_replicate,λ hp=>by rw [r3A f n ha,show (n+7) / 8=((n+7) / 8-1)+1 by omega,List.replicate_succ];rfl,hR2.ext e5,amA (coA hB2 hC2) e5⟩
theorem and16 (a:Nat) (ha:a<4294967296):bits .and .u32 (a:Int) 65535=((a % 65536:Nat):Int):=by
 have h:=u32_and_nat a 65535 ha dZ;rw [show ((65535:Nat):Int)=65535 from rfl] at h;rw [h,show (65535:Nat)=2 ^ 16-1 by decide,Nat.and_two_pow_sub_one_eq_mod]
theorem oxA {base br bc pos:Nat} {w:World} {sl:Value} {ys:List Int} {n:Nat} {f:Nat→Bool} (h:Rdr base w br bc sl ys pos 0) (hn:n≤8) (ha:dtA f n=true) (hA:AtB ys pos (caA n f)) :
 Fc Tryz.prog 50 #[.pointer (some ⟨br,0,none⟩)] w (λ en w'=>∃ fv fl,en=.returned (.tuple #[.int .i64 n,fv,.bool (decide (4≤n))])∧OwnI w.heap.size tB .u8 w' fv fl∧fl.length=(n+7) / 8∧(0<n→fl.getD 0 0=(fB f n:Int))∧Rdr base w' br bc sl ys (pos+(caA n f).length) 0∧w.grownBy w' (some bc)):=by
 have hn0:=gbA ha;have hfl:=miA f n;obtain ⟨V,hV⟩:∃ V,V=12347+65536*(n-1):=⟨_,rfl⟩;obtain ⟨F,hF⟩:∃ F,F=fB f n:=⟨_,rfl⟩;have hck:caA n f=leS V 4++[(F:Int)]:=by
  unfold caA;rw [ha,if_pos rfl,← List.append_assoc,nqA _ _ dZ dZ oZ,hV,hF,show (12347:Int)+65536*((n-1:Nat):Int)=((12347+65536*(n-1):Nat):Int) by omega]
 rw [hck] at hA ⊢;rw [← hF] at hfl ⊢;have hA0:=hA.left;have hA1:=hA.right;rw [akA] at hA1;have hle0:=hA0.le;have hle1:=hA1.le;rw [akA] at hle0;rw [List.length_singleton] at hle1;rw [List.length_append,akA,List.length_singleton];have hhas:∀ w',Ext w w'→Fc Tryz.prog 51 #[.pointer (some ⟨br,0,none⟩),.int .i64 4] w' (Ret w' (.val (.bool true))):=λ w' e=>jfA (n:=4) (h.ext e) hle0
 have hrr:=h.hr;have hand:bits .and .u32 (V:Int) 65535=12347:=by rw [and16 V oZ,show V % 65536=12347 by omega];rfl
 have hshr:(V:Int) / 2 ^ Int.toNat 16=((n-1:Nat):Int):=by rw [show (2:Int) ^ Int.toNat 16=65536 by decide];omega
 have hF0:n<8→(F:Int) / 2 ^ Int.toNat (n:Int)=0:=λ _=>by
  rw [Int.toNat_natCast];norm_cast;exact Nat.div_eq_of_lt hfl
 have hF8:F<256:=Nat.lt_of_lt_of_le hfl (Nat.pow_le_pow_right dZ hn:2 ^ n≤2 ^ 8)
 rcases Nat.lt_or_ge n 8 with hn8|hn8
 all_goals
  refine Fc.of (args:=[_]) Tryz.func50 rfl rfl Tryz.ntmps50 nZ ?_
  repeat' (first|(refine yL ?_;first|refine a0A rfl ?_|(refine oNc ?_;refine a8A rfl rfl ?_)|(refine oF 0 ?_;refine a2A (a':=⟨br,0,none⟩) rfl rfl (λ _=>rfl) ?_)|(refine oD 13 ?_;refine a7A (c:=.pointer (some ⟨bc,0,none⟩)) rfl (λ _=>rfl) rfl hrr rfl ?_)|(refine oD 14 ?_;refine a3A (hK _ _ (cqA rfl dZ rfl rfl (λ v w'=>v=.int .u32 V∧RdI base w' bc sl ys (pos+4)∧w.grownBy w' (some bc)) (λ w8 e8=>(mxA w8 base bc sl ys _ V (h.rd.ext e8) h.hy hA0 oZ oZ).mono λ en w' h=>⟨_,h.1,rfl,h.2.1,aoA e8 h.2.2⟩) (λ vv wA hAA=>?_)));clear hK K;obtain ⟨rfl,hB1,hB2⟩:=hAA;dsimp only [LA.vals];have hR1:=h.step hB1 hB2;have hr1:=hR1.hr;refine abA kZ (λ K hK=>?_))|(refine oD 40 ?_;refine chA (.inl rfl) rfl rfl rfl ?_;rw [hand])|(refine oD 45 ?_;refine jaA rfl rfl rfl ?_;rw [hshr])|(refine oD 47 ?_;refine btA rfl rfl rfl fZ ?_;rw [show ((n-1:Nat):Int)+1=(n:Int) by omega])|(refine oD 51 ?_;refine d5A rfl rfl rfl oZ oZ fZ ?_;rw [show ((n:Int)+7) / 8=((1:Nat):Int) by omega])|(refine oD 60 ?_;refine d5A rfl rfl rfl oZ oZ fZ ?_;rw [show ((n:Int)+7) / 8=((1:Nat):Int) by omega])|(refine oD 57 ?_;refine a7A (c:=.pointer (some ⟨bc,0,none⟩)) rfl (λ _=>rfl) rfl hr1 rfl ?_)|(refine oD 61 ?_;refine a3A (hK _ _ (g0A rfl dZ rfl rfl rfl (λ v w'=>OwnI w.heap.size tB .u8 w' v [(F:Int)]∧RdI base w' bc sl ys (pos+4+1)∧wA.grownBy w' (some bc)) (λ w8 e8=>(xpA (l:=[(F:Int)]) (hR1.rd.ext e8) hA1).mono λ en w' ⟨v,g1,g2,g3,g4⟩=>⟨v,g1,Own.base g2 (Nat.le_trans (Fr.grown hB2).size e8.size),g3,aoA e8 g4⟩) (λ vv wB hBB=>?_)));clear hK K;obtain ⟨hs2,hC1,hC2⟩:=hBB;dsimp only [LA.vals];have hR2:=hR1.step hC1 hC2;refine abA kZ (λ K hK=>?_))|(refine oD 64 ?_;refine feA rfl rfl rfl oZ oZ fZ ?_;first|rw [show (n:Int) % 8=(n:Int) by omega]|rw [show (n:Int) % 8=0 by omega])|(refine oD 69 ?_;refine d5A rfl rfl rfl oZ oZ fZ ?_;rw [show (n:Int) / 8=((0:Nat):Int) by omega])|(refine oD 70 ?_;refine agA rfl _ rfl (λ _=>rfl) rfl (HasI.ownV hs2) rfl (by simp) ?_;rw [List.getD_cons_zero])|(refine oD 73 ?_;refine feA rfl rfl rfl oZ oZ fZ ?_;rw [show (n:Int) % 8=(n:Int) by omega])|(refine oD 74 ?_;refine jaA rfl rfl rfl ?_;rw [hF0 hn8])|refine yO ?_|(refine yC ?_ ?_<;>intro hc)|(refine yV ?_;first|(refine oD 8 ?_;refine oC 51 ?_;refine a5A (f:=51) rfl rfl rfl rfl  (.val (.bool true)) (by intro u1 u2 w e hu1 hu2;(try obtain rfl:u1=_:=hu1);(try obtain rfl:u2=_:=hu2);exact hhas _ e) ?_)|(refine oD 42 ?_;refine oC 53 ?_;refine a5A (f:=53) rfl rfl rfl rfl  (.val (.bool true)) (by intro u1 u2 w e hu1 hu2;(try obtain rfl:u1=_:=hu1);(try obtain rfl:u2=_:=hu2);exact f7A (hR1.ext e)) ?_)|(refine oD 52 ?_;refine oC 51 ?_;refine a5A (f:=51) rfl rfl rfl rfl  (.val (.bool true)) (by intro u1 u2 w e hu1 hu2;(try obtain rfl:u1=_:=hu1);(try obtain rfl:u2=_:=hu2);exact jfA (n:=1) (hR1.ext e) hle1) ?_)|(refine oD 77 ?_;refine oC 53 ?_;refine a5A (f:=53) rfl rfl rfl rfl  (.val (.bool true)) (by intro u1 u2 w e hu1 hu2;(try obtain rfl:u1=_:=hu1);(try obtain rfl:u2=_:=hu2);exact f7A (hR2.ext e)) ?_))|(refine yN hK ?_;clear hK K))|refine wG ?_|(refine yR ?_;intro K hK)|fail)
  all_goals
   refine mpA rfl (λ v5 v6 v7 w5 e5 h5 h6 h7=>?_);obtain rfl:v5=_:=h5;obtain rfl:v6=_:=h6;obtain rfl:v7=_:=h7;exact ⟨_,[(F:Int)],by first|rw [decide_eq_true (show 4≤n by omega)]|rw [decide_eq_false (show ¬ 4≤n by omega)],hs2.ext e5,by rw [List.length_singleton];omega,λ _=>rfl,hR2.ext e5,amA (coA hB2 hC2) e5⟩
theorem u6A {base br bc pos:Nat} {w:World} {sl:Value} {ys:List Int} {n:Nat} {f:Nat→Bool} (h:Rdr base w br bc sl ys pos 0) (hn:n≤8) (hA:AtB ys pos (caA n f)) :
 Fc Tryz.prog 50 #[.pointer (some ⟨br,0,none⟩)] w (λ en w'=>∃ fv fl,en=.returned (.tuple #[.int .i64 n,fv,.bool (decide (¬ (dtA f n=true∧n<4)))])∧OwnI w.heap.size tB .u8 w' fv fl∧fl.length=(n+7) / 8∧(0<n→fl.getD 0 0=(fB f n:Int))∧Rdr base w' br bc sl ys (pos+(caA n f).length) 0∧w.grownBy w' (some bc)):=by
 cases ha:dtA f n with
 | true =>
   have hd:decide (¬ (true=true∧n<4))=decide (4≤n):=by by_cases h4:4≤n <;> simp [h4]
   rw [hd];exact oxA h hn ha hA
 | false =>
   have hd:decide (¬ (false=true∧n<4))=true:=by simp
   rw [hd];exact rcA h hn ha hA
end Go.Proofs.YtbokphkfojijoaaGreatDoor.Pt
end
