import Derived.Test.YtbokphkfojijoaaGreatDoorJ24
set_option linter.unusedSimpArgs false
set_option linter.unusedVariables false
set_option maxRecDepth 3000
set_option maxHeartbeats 16000000
section
namespace Go.Proofs.YtbokphkfojijoaaGreatDoor.Pt
open Go.LA Go.ArrP Go.RowKit
theorem tfA {base e:Nat} {q:Nat→Bool} (u:Value) (w:World) (h:(mkI base e q).p u w):u.cells=#[u]∧u.oneCell'=true:=by
 obtain ⟨b,rfl,-,-⟩:=h;exact ⟨rfl,rfl⟩
theorem shrN (a k:Nat):(a:Int) / 2 ^ ((k:Nat):Int).toNat=((a / 2 ^ k:Nat):Int):=by
 rw [Int.toNat_natCast];norm_cast
theorem pkinds_s (w:World) (hT:Tab w) {v:Value} {xs:List Sp} (h:SlP .u64 w v xs) (hx:U64 xs) {a:Nat} (ha:a<256):Fc Tryz.prog 3 #[v,.int .u8 a] w (Ret w (.val (.bool true))):=by
 have htp:=enA;have hgr:∀ w',Ext w w'→_:=λ w' e=>tyA (h.ext e) hx
 have hsp:∀ w',Ext w w'→_:=λ w' e=>t2A (h.ext e) hx
 have htop:∀ x,TOP≤x→orS xs xs.length x=false:=q2A xs xs.length;obtain ⟨gr,hgr0⟩:∃ b,b=yiA xs:=⟨_,rfl⟩;obtain ⟨p,hp⟩:∃ p,p=orS xs xs.length:=⟨_,rfl⟩;rw [← hgr0] at hgr;rw [← hp] at hsp htop;clear hgr0 hp h hx;have hkl:=bfA p;refine Fc.of (args:=[_,_]) Tryz.func3 rfl rfl Tryz.ntmps3 nZ ?_
 cases gr with
 | true =>
   repeat' (first|(refine yL ?_;first|refine a0A rfl ?_|refine yO ?_|(refine yC ?_ ?_<;>intro hc)|(refine yV ?_;first|(refine oC 8 ?_;refine a1A (f:=8) rfl rfl rfl  (.val (.bool true)) (by intro u1 w e hu1;(try obtain rfl:u1=_:=hu1);exact hgr _ e) ?_)|(refine oC 9 ?_;refine faA (f:=9) rfl rfl  (.val (.bool true)) (by intro w e;exact kcA _ (hT.ext e)) ?_))|(refine yN hK ?_;clear hK K))|refine wG ?_|(refine yR ?_;intro K hK)|fail)
   all_goals exact ajA rfl rfl (Ext.refl _) rfl
 | false =>
 by_cases h8:8<nk p
 ·skip
  repeat' (first|(refine yL ?_;first|refine a0A rfl ?_|(refine oD 24 ?_;refine azA rfl _ rfl rfl HasI.own.c ?_;rw [hkl])|refine yO ?_|(refine yC ?_ ?_<;>intro hc)|(refine yV ?_;first|(refine oC 8 ?_;refine a1A (f:=8) rfl rfl rfl  (.val (.bool false)) (by intro u1 w e hu1;(try obtain rfl:u1=_:=hu1);exact hgr _ e) ?_)|(refine oC 10 ?_;refine a1A (f:=10) rfl rfl rfl  (.pred (l7A w.heap.size tSp .u64 (spL p TOP))) (by intro u1 w e hu1;(try obtain rfl:u1=_:=hu1);exact (hsp _ e).mono (eeA e.size rfl)) ?_)|(refine oC 11 ?_;refine a1A (f:=11) rfl rfl rfl  (.pred (axA w.heap.size tK .u16 (b7A p))) (by intro u1 w e hu1;(try obtain rfl:u1=_:=hu1);exact (m6A (OwnP.slP hu1)).mono (a6A e.size)) ?_)|(refine oC 9 ?_;refine faA (f:=9) rfl rfl  (.val (.bool true)) (by intro w e;exact kcA _ (hT.ext e)) ?_))|(refine yN hK ?_;clear hK K))|refine wG ?_|(refine yR ?_;intro K hK)|fail)
  all_goals exact ajA rfl rfl (Ext.refl _) rfl
 have hn8:nk p≤8:=oZ;have hD:∀ i,i<nk p→kp p i<65536∧(b7A p).getD i 0=(kp p i:Int):=λ i hi=>by
  obtain ⟨k1,k2,k3,k4⟩:=gjA hi;exact ⟨k1,k4⟩
 obtain ⟨f,hf⟩:∃ f:Nat→Bool,f=λ i=>decide (a / 2 ^ i % 2=1):=⟨_,rfl⟩
 have hil:=qxA (f:=f) hn8;have hib:=tvA (f:=f) hn8;have hbl:=gaA p f (nk p);have hHl:e2A (nk p) (dtA f (nk p))≤1000:=by
  unfold e2A;split
  ·split <;> omega
  ·omega
 have hLl:(hnA p f).length≤1000000000:=by rw [hil];omega
 clear hil hbl hHl;obtain ⟨n,hnn⟩:∃ n,n=nk p:=⟨_,rfl⟩;rw [← hnn] at hkl hD hn8 h8
 repeat' (first|(refine yL ?_;first|refine a0A rfl ?_|(refine oD 24 ?_;refine azA rfl _ rfl rfl HasI.own.c ?_;rw [hkl])|(refine oD 27 ?_;refine a3A (hK _ _ (awA 5 rfl (λ v5 w5 e5 h5=>awA 6 rfl (λ vk w6 e6 h6=>?_))));clear hK K;replace h5:OwnP w.heap.size tSp .u64 w5 v5 (spL p TOP):=h5;replace h6:OwnI w.heap.size tK .u16 w6 vk (b7A p):=h6;have h56:=h5.ext e6;have x6:=e5.trans e6;refine abA kZ (λ K hK=>dzA rfl rfl ?_))|(refine oD 28 ?_;refine azA rfl _ rfl rfl (HasI.ownV h6).c ?_;rw [hkl])|refine yO ?_|(refine yC ?_ ?_<;>intro hc)|(refine yV ?_;first|(refine oC 8 ?_;refine a1A (f:=8) rfl rfl rfl  (.val (.bool false)) (by intro u1 w e hu1;(try obtain rfl:u1=_:=hu1);exact hgr _ e) ?_)|(refine oC 10 ?_;refine a1A (f:=10) rfl rfl rfl  (.pred (l7A w.heap.size tSp .u64 (spL p TOP))) (by intro u1 w e hu1;(try obtain rfl:u1=_:=hu1);exact (hsp _ e).mono (eeA e.size rfl)) ?_)|(refine oC 11 ?_;refine a1A (f:=11) rfl rfl rfl  (.pred (axA w.heap.size tK .u16 (b7A p))) (by intro u1 w e hu1;(try obtain rfl:u1=_:=hu1);exact (m6A (OwnP.slP hu1)).mono (a6A e.size)) ?_))|(refine yN hK ?_;clear hK K))|refine wG ?_|(refine yR ?_;intro K hK)|fail)
 refine aaA (ι:=Nat × Value × Value × List Value) (λ j=>[(1,.val (.int .u8 a)),(5,.val v5),(6,.val vk),(7,.val j.2.1),(8,.val j.2.2.1),(27,.val vk),(28,.val (.int .i64 n)),(29,.val (.int .i64 j.1))])
  (λ j w'=>j.1≤n∧Ext w w'∧OwnP w.heap.size tSp .u64 w' v5 (spL p TOP)∧MRow w.heap.size w' vk j.2.1 j.2.2.1 j.2.2.2 j.1 p f) (λ j=>n-j.1)
  (λ w5 e5=>⟨(0,nilS,nilS,[]),⟨Nat.zero_le _,x6.trans e5,h56.ext e5,⟨OwnI.ext h6 e5,Own.nil,Own.nil,λ j hj=>absurd hj (Nat.not_lt_zero _)⟩⟩,sZ⟩) ?_
 clear h6 h56 x6 h5 e5 e6 w6;rintro ⟨t,vm,va,ms⟩ w1 ⟨hti,he,hS,hM⟩;dsimp only at hti hM ⊢
 by_cases htl:t<n
 ·obtain ⟨d1,d2⟩:=hD t htl
  have hblk:∀ w',Ext w1 w'→Fc Tryz.prog 12 #[v5,.int .u16 (kp p t)] w' (Ret w' (.pred (mkI w.heap.size tM (blk p (kp p t))))):=λ w' e=>(ncA (hS.slP.ext e) d1).mono (λ en w'' ⟨u,g1,g2,g3⟩=>⟨u,g1,g2,MkI.base g3 (he.trans e).size⟩)
  have hbn:=jqA f t;have hft:f t=decide (a / 2 ^ t % 2=1):=by rw [hf]
  have hsr:(a:Int) / 2 ^ ((t:Nat):Int).toNat=((a / 2 ^ t:Nat):Int):=shrN a t;have hal:a / 2 ^ t≤a:=Nat.div_le_self _ _;obtain ⟨A0,hA0⟩:∃ q,q=a / 2 ^ t:=⟨_,rfl⟩;rw [← hA0] at hft hsr hal;obtain ⟨q,hq⟩:∃ q,q=blk p (kp p t):=⟨_,rfl⟩;rw [← hq] at hblk;obtain ⟨K0,hK0⟩:∃ c,c=kp p t:=⟨_,rfl⟩;rw [← hK0] at d1 d2 hblk;have hcs:(A0 % 2=1∧f t=true)∨(¬ A0 % 2=1∧f t=false):=by
   by_cases hc:A0 % 2=1
   ·exact .inl ⟨hc,by rw [hft,decide_eq_true hc]⟩
   ·exact .inr ⟨hc,by rw [hft,decide_eq_false hc]⟩
  clear hft hA0 hK0
  rcases hcs with ⟨hc,hw⟩|⟨hc,hw⟩
  all_goals
   rw [hw] at hbn
   repeat' (first|(refine yL ?_;first|refine yB ?_|(refine oD 32 ?_;refine agA rfl _ rfl (λ _=>rfl) rfl (HasI.ownV hM.k) rfl oZ ?_;rw [d2])|(refine oD 38 ?_;refine s3A (Nat.le_refl _) rfl r6A rfl tfA ?_)|(refine oD 43 ?_;refine jaA rfl rfl rfl ?_;rw [hsr])|(refine oD 44 ?_;refine feA rfl rfl rfl oZ oZ fZ ?_;rw [show (A0:Int) % 2=((A0 % 2:Nat):Int) by omega])|(refine oD 46 ?_;refine grA (base:=w1.heap.size) (Nat.le_refl _) rfl owA rfl rfl dZ ?_)|refine yO ?_|(refine yC ?_ ?_<;>intro hc)|(refine yV ?_;first|(refine oC 12 ?_;refine a5A (f:=12) rfl rfl rfl rfl  (.pred (mkI w.heap.size tM q)) (by intro u1 u2 w e hu1 hu2;(try obtain rfl:u1=_:=hu1);(try obtain rfl:u2=_:=hu2);exact hblk _ e) ?_))|(refine yN hK ?_;clear hK K))|(refine oCX ?_;first|refine b4A (id:=12) [5,13] kZ kZ kZ (a9A ?_))|refine wG ?_|(refine yR ?_;intro K hK)|refine wPh ?_|fail)
   refine koA 38 rfl dZ rfl (λ v38 w3 e3 h38=>?_);obtain ⟨u,hu,hu1,hu2,huo⟩:=h38
   first
   | (have hw':f t=true:=hw;refine daA rfl r6A rfl (hM.m.ext e3) rfl (HasC.ownV huo) (λ c hc'=>by rw [List.mem_singleton] at hc';subst hc';exact hu2) (by unfold maxLen;omega) oZ (λ vm' w4 w5 e4 ho hfr hl=>⟨(46,.pred (j6A w1.heap.size tBo 1 1 (Value.bool true).cells.toList))::_,λ t u _ hu=>ifA (λ u hu=>?_) bkA t u hu,a9A ?_⟩))
   | refine daA rfl r6A rfl (hM.m.ext e3) rfl (HasC.ownV huo) (λ c hc'=>by rw [List.mem_singleton] at hc';subst hc';exact hu2) (by unfold maxLen;omega) oZ (λ vm' w4 w5 e4 ho hfr hl=>⟨(46,.pred (j6A w1.heap.size tBo 1 1 (Value.bool false).cells.toList))::_,λ t u _ hu=>ifA (λ u hu=>?_) bkA t u hu,a9A ?_⟩)
   ·exact bvA hu hfr (λ k hk=>by obtain ⟨cur,hcc⟩:=asA (hM.m.ext (e3.trans e4)) hk;exact ⟨cur,_,_,hcc,by decide⟩)
   have x4:=(he.trans e3).trans e4;have hR:∀ k,vm.ownBlock=some k→∃ cur,w4.heap[k]?=some (.cells cur tPm (0,0)):=λ k hk=>asA (hM.m.ext (e3.trans e4)) hk
   have hoff:∀ {base e s n:Nat} {u:Value} {cs:List Value},LA.Own base e s w1 u n cs→e≠tPm→LA.Own base e s w5 u n cs:=λ hh hne=>bvA (hh.ext (e3.trans e4)) hfr (λ k hk=>by obtain ⟨cur,hcc⟩:=hR k hk;exact ⟨cur,_,_,hcc,hne⟩)
   have hm5:MkI w.heap.size tM w5 u q:=MkI.fr (MkI.ext (show MkI w.heap.size tM w3 u q from hu) e4) hfr (λ k hk=>by obtain ⟨cur,hcc⟩:=hR k hk;exact ⟨cur,_,_,hcc,by decide⟩);have hms5:∀ j,j<t→MkI w.heap.size tM w5 (ms.getD j undef) (blk p (kp p j)):=λ j hj=>MkI.fr ((hM.at_ j hj).ext (e3.trans e4)) hfr (λ k hk=>by obtain ⟨cur,hcc⟩:=hR k hk;exact ⟨cur,_,_,hcc,by decide⟩)
   have hk5:OwnI w.heap.size tK .u16 w5 vk (b7A p):=hoff hM.k dZ;have ha5:=hoff hM.a dZ;have hS5:OwnP w.heap.size tSp .u64 w5 v5 (spL p TOP):=hoff hS dZ;have ho5:LA.Own w.heap.size tPm 1 w5 vm' (t+1) (ms++[u]):=Own.rebase ho (hl.ge (λ k hk=>(Own.lt hM.m k hk).1) x4.size);have x5:Ext w w5:=Fr.ext x4 hfr (λ k hk=>(Own.lt hM.m k hk).1)
   repeat' (first|(refine yL ?_;first|refine yB ?_|(refine oD 43 ?_;refine jaA rfl rfl rfl ?_;rw [hsr])|(refine oD 44 ?_;refine feA rfl rfl rfl oZ oZ fZ ?_;rw [show (A0:Int) % 2=((A0 % 2:Nat):Int) by omega])|(refine oD 46 ?_;refine grA (base:=w1.heap.size) (Nat.le_trans (e3.trans e4).size hfr.size) rfl owA rfl rfl dZ ?_)|refine yO ?_|(refine yC ?_ ?_<;>intro hc)|(refine yN hK ?_;clear hK K))|refine wG ?_|(refine yR ?_;intro K hK)|refine wPh ?_|fail)
   refine daA rfl owA rfl ha5 rfl HasC.own (λ c hc'=>by simp [Value.cells] at hc';subst hc';rfl) (by unfold maxLen;omega) oZ (λ va' wA wB eA hoA hfA hlA=>⟨_,λ t u _ hu=>bkA t u hu,b3A ?_⟩);have hRA:∀ k,va.ownBlock=some k→∃ cur,wA.heap[k]?=some (.cells cur tBo (0,0)):=λ k hk=>asA (ha5.ext eA) hk
   have xA:=x5.trans eA;have xB:Ext w wB:=Fr.ext xA hfA (λ k hk=>(Own.lt ha5 k hk).1);have hoB:∀ {base e s n:Nat} {u:Value} {cs:List Value},LA.Own base e s w5 u n cs→e≠tBo→LA.Own base e s wB u n cs:=λ hh hne=>bvA (hh.ext eA) hfA (λ k hk=>by obtain ⟨cur,hcc⟩:=hRA k hk;exact ⟨cur,_,_,hcc,hne⟩)
   have hMB:MRow w.heap.size wB vk vm' va' (ms++[u]) (t+1) p f:=by
    refine ⟨hoB hk5 dZ,hoB ho5 dZ,?_,λ j hj=>MkI.fr ?_ hfA (λ k hk=>?_)⟩
    ·rw [hbn];exact Own.rebase hoA (hlA.ge (λ k hk=>(Own.lt ha5 k hk).1) xA.size)
    ·rw [glA hM.m.lenV]
     by_cases e:j<t
     ·rw [if_pos e];exact (hms5 j e).ext eA
     ·obtain rfl:j=t:=oZ
      rw [if_neg e,if_pos rfl,← hq];exact hm5.ext eA
    ·obtain ⟨cur,hcc⟩:=hRA k hk;exact ⟨cur,_,_,hcc,by decide⟩
   have hSB:OwnP w.heap.size tSp .u64 wB v5 (spL p TOP):=hoB hS5 dZ
   repeat' (first|(refine yL ?_;first|refine yB ?_|(refine oD 43 ?_;refine jaA rfl rfl rfl ?_;rw [hsr])|(refine oD 44 ?_;refine feA rfl rfl rfl oZ oZ fZ ?_;rw [show (A0:Int) % 2=((A0 % 2:Nat):Int) by omega])|(refine oD 46 ?_;refine grA (base:=w1.heap.size) (Nat.le_trans (Nat.le_trans (e3.trans e4).size hfr.size) (Nat.le_trans eA.size hfA.size)) rfl owA rfl rfl dZ ?_)|refine yO ?_|(refine yC ?_ ?_<;>intro hc)|(refine yN hK ?_;clear hK K))|refine wG ?_|(refine yR ?_;intro K hK)|refine wPh ?_|fail)
   exact a4A (t+1,vm',va',ms++[u]) (λ w8 e8=>⟨htl,xB.trans e8,hSB.ext e8,hMB.ext e8⟩) eZ sZ
 obtain rfl:t=n:=oZ;clear hD
 repeat' (first|(refine yL ?_;first|refine a0A rfl ?_|(refine oD 50 ?_;refine azA rfl _ rfl rfl (HasC.ownV hM.m) ?_)|refine yO ?_|(refine yC ?_ ?_<;>intro hc)|(refine yN hK ?_;clear hK K))|refine wG ?_|(refine yR ?_;intro K hK)|fail)
 refine aaA (ι:=Nat) (λ j=>[(1,.val (.int .u8 a)),(5,.val v5),(6,.val vk),(7,.val vm),(8,.val va),(50,.val (.int .i64 t)),(51,.val (.int .i64 j))])
  (λ j w'=>j≤t∧Ext w1 w') (λ j=>t-j) (λ w5 e5=>⟨0,⟨Nat.zero_le _,e5⟩,sZ⟩) ?_
 rintro j w2 ⟨hjt,e2⟩;have hM2:=hM.ext e2;have hS2:=hS.ext e2;have he2:=he.trans e2
 by_cases hjl:j<t
 ·have hrn:∀ w',Ext w2 w'→_:=λ w' e=>qaA w' _ _ _ ((hM2.at_ j hjl).ext e)
  have hfew:=ggA (blk p (kp p j));rw [show (alA (blk p (kp p j))).length=cnt (arA (blk p (kp p j))) 65536 from dwA _ 65536] at hfew;obtain ⟨R0,hR0⟩:∃ r,r=cnt (arA (blk p (kp p j))) 65536:=⟨_,rfl⟩;rw [← hR0] at hfew hrn;clear hR0
  repeat' (first|(refine yL ?_;first|refine a0A rfl ?_|(refine oD 56 ?_;refine dlA rfl _ rfl (λ _=>rfl) rfl (HasC.ownV hM2.m) rfl j rfl hjl hM2.m.lenV ?_)|refine yO ?_|(refine yC ?_ ?_<;>intro hc)|(refine yV ?_;first|(refine oC 13 ?_;refine a1A (f:=13) rfl rfl rfl  (.val (.int .i64 R0)) (by intro u1 w e hu1;(try obtain rfl:u1=_:=hu1);exact hrn _ e) ?_))|(refine yN hK ?_;clear hK K))|refine wG ?_|(refine yR ?_;intro K hK)|fail)
  exact a4A (j+1) (λ w5 e5=>⟨hjl,e2.trans e5⟩) oZ sZ
 have him:∀ w',Ext w2 w'→Fc Tryz.prog 14 #[vk,vm,va] w' (Ret w' (.pred (axA w.heap.size tB .u8 (hnA p f)))):=λ w' e=>by
  have hM':=hM2.ext e;rw [hnn] at hM';exact (qyA (p:=p) (f:=f) (ms:=ms) hM'.k.slI hM'.m.slC (λ i hi=>⟨_,hM'.at_ i hi⟩) hM'.a.slC oZ).mono (a6A (he2.trans e).size)
 have hrd:∀ w' u,Ext w2 w'→SlI .u8 w' u (hnA p f)→Fc Tryz.prog 15 #[u,.int .i64 (0:Nat)] w' (Ret w' (.tup3 (.pred (rsP TT TT p)) (.val (.int .i64 ((hnA p f).length:Nat))) (.val (.int .i64 0)))):=λ w' u e hu=>by
  have:=vhA (at_:=0) (f:=f) hu (hT.ext (he2.trans e)) hLl hib oZ htop ⟨[],[],by simp,rfl⟩;rw [Nat.zero_add] at this;exact this
 have hru:∀ w' u,RSet TT TT w' u p→Ext w w'→Fc Tryz.prog 17 #[u] w' (Ret w' (.pred (l7A w.heap.size tSp .u64 (spL p TOP)))):=λ w' u hu x=>(ysA (.inr hu) (hT.ext x)).mono (eeA x.size rfl)
 have hwr:∀ w' u,RSet TT TT w' u p→Ext w w'→Fc Tryz.prog 18 #[u] w' (Ret w' (.pred (axA w.heap.size tB .u8 (lfA p)))):=λ w' u hu x=>(jvA (.inr hu) oZ (hT.ext x)).mono (a6A x.size)
 have hrw:∀ w',Ext w2 w'→Fc Tryz.prog 19 #[v5] w' (Ret w' (.pred (axA w.heap.size tB .u8 (lfA p)))):=λ w' e=>(swA (hS2.slP.ext e) oZ).mono (a6A (he2.trans e).size)
 obtain ⟨S,hSS⟩:∃ S,S=spL p TOP:=⟨_,rfl⟩;rw [← hSS] at hru hS2;obtain ⟨B,hB⟩:∃ B,B=hnA p f:=⟨_,rfl⟩;rw [← hB] at him hrd;obtain ⟨D,hDD⟩:∃ D,D=lfA p:=⟨_,rfl⟩;rw [← hDD] at hwr hrw;clear hB hDD hSS hM hS hgr hsp hLl hib
 repeat' (first|(refine yL ?_;first|refine a0A rfl ?_|(refine oD 77 ?_;refine azA rfl _ rfl rfl HasI.own.c ?_)|refine kuA rfl rfl rfl rfl rfl HasI.own ?_|refine lrA rfl rfl rfl rfl rfl ?_|refine yO ?_|(refine yC ?_ ?_<;>intro hc)|(refine yV ?_;first|(refine oC 14 ?_;refine bcA (f:=14) rfl rfl rfl rfl rfl  (.pred (axA w.heap.size tB .u8 B)) (by intro u1 u2 u3 w e hu1 hu2 hu3;(try obtain rfl:u1=_:=hu1);(try obtain rfl:u2=_:=hu2);(try obtain rfl:u3=_:=hu3);exact him _ e) ?_)|(refine oC 15 ?_;refine a5A (f:=15) rfl rfl rfl rfl  (.tup3 (.pred (rsP TT TT p)) (.val (.int .i64 (B.length:Nat))) (.val (.int .i64 0))) (by intro u1 u2 w e hu1 hu2;(try obtain rfl:u1=_:=hu1);(try obtain rfl:u2=_:=hu2);exact hrd _ _ e (OwnI.slI hu1)) ?_)|(refine oC 17 ?_;refine a1A (f:=17) rfl rfl rfl  (.pred (l7A w.heap.size tSp .u64 S)) (by intro u1 w e hu1;(try obtain rfl:u1=_:=hu1);exact hru _ _ hu1 (he2.trans e)) ?_)|(refine oC 16 ?_;refine a5A (f:=16) rfl rfl rfl rfl  (.val (.bool true)) (by intro u1 u2 w e hu1 hu2;(try obtain rfl:u1=_:=hu1);(try obtain rfl:u2=_:=hu2);exact bqA (by rw [decide_eq_true rfl]) (whA _ _ _ S S (OwnP.slP hu1) (hS2.slP.ext e))) ?_)|(refine oC 18 ?_;refine a1A (f:=18) rfl rfl rfl  (.pred (axA w.heap.size tB .u8 D)) (by intro u1 w e hu1;(try obtain rfl:u1=_:=hu1);exact hwr _ _ hu1 (he2.trans e)) ?_)|(refine oC 19 ?_;refine a1A (f:=19) rfl rfl rfl  (.pred (axA w.heap.size tB .u8 D)) (by intro u1 w e hu1;(try obtain rfl:u1=_:=hu1);exact hrw _ e) ?_)|(refine oC 9 ?_;refine faA (f:=9) rfl rfl  (.val (.bool true)) (by intro w e;exact kcA _ (hT.ext (he2.trans e))) ?_))|(refine yN hK ?_;clear hK K))|refine wG ?_|(refine yR ?_;intro K hK)|fail)
 all_goals exact ajA rfl rfl he2 rfl
end Go.Proofs.YtbokphkfojijoaaGreatDoor.Pt
end
