import Derived.Test.YtlnaebejmjmepaaGreatDoorM21
import Derived.Test.YtlnaebejmjmepaaGreatDoorM22
import Derived.Test.YtlnaebejmjmepaaGreatDoorM23
set_option linter.unusedSimpArgs false
set_option linter.unusedVariables false
set_option maxRecDepth 3000
set_option maxHeartbeats 16000000
section
namespace Go.Proofs.YtlnaebejmjmepaaGreatDoor
open Go.LA Go.ArrP Go.RowKit
theorem o6A {xs:List Int} (hi:Inc xs) (hl:Low xs):cnt (buA xs) 65536=xs.length:=by rw [← baA,gvA hi hl]
theorem boB {ks:List Int} {xss:Nat→List Int} {kn:Nat→Nat} {n:Nat} (hkn:∀ t,t<n→kn t<65536∧ks.getD t 0=(kn t:Int)) (hkl:ks.length=n) (hI:∀ t,t<n→Inc (xss t)) (hl:∀ t,t<n→Low (xss t)):Dir kn (λ t=>buA (xss t)) n↔okB n n xss n=true∧Inc ks:=by
 constructor
 ·intro h
  refine ⟨(kaA n).2 ⟨rfl,λ t ht=>?_⟩,r8A λ t h1 h2=>?_⟩
  ·have:=(h t ht).1
   rw [o6A (hI t ht) (hl t ht)] at this;exact this
  ·have h3:=(h t oZ).2 oZ
   rw [(hkn t oZ).2,(hkn (t-1) oZ).2];omega
 ·rintro ⟨h1,h2⟩ t ht
  refine ⟨by rw [o6A (hI t ht) (hl t ht)];exact ((kaA n).1 h1).2 t ht,λ h0=>?_⟩;have:=h2.at (i:=t-1) (j:=t) oZ oZ;rw [(hkn t oZ).2,(hkn (t-1) oZ).2] at this;omega
theorem rjoins_s (w:World) (hT:Tab w) {kv lv dv:Value} {ks ds:List Int} {vs:List Value} {xss:Nat→List Int} {n:Nat} (hk:SlI .u16 w kv ks) (hkw:∀ x ∈ ks,0≤x∧x<65536) (hl:SlC w lv n 1 vs) (hvl:vs.length=n)
 (hx:∀ i,i<n→SlI .u16 w (vs.getD i undef) (xss i)∧∀ z ∈ xss i,0≤z∧z<65536) (hd:SlI .u8 w dv ds) (hdw:∀ z ∈ ds,0≤z∧z<256) :
 Fc Tryz.prog 3 #[kv,lv,dv] w (Ret w (.val (.bool true))):=by
 have htop:=crA;have hkn:∀ w',Ext w w'→_:=λ w' e=>r0A w' (hT.ext e)
 have hkl:=hk.len;have hll:=hl.len;obtain ⟨m,hm⟩:∃ m,m=ks.length:=⟨_,rfl⟩;rw [← hm] at hkl;have hok0:okB m n xss 0=true↔m=n:=by simp [okB]
 by_cases hbig:10<n∨20<m
 ·refine Fc.of (args:=[_,_,_]) Tryz.func3 rfl rfl Tryz.ntmps3 nZ ?_
  rcases hbig with hb|hb
  ·skip
   repeat' (first|(refine yL ?_;first|refine a0A rfl ?_|(refine oD 25 ?_;refine asA rfl _ rfl rfl (HasC.val hl) ?_)|refine yO ?_|(refine yC ?_ ?_<;>intro hc)|(refine yV ?_;first|(refine oC 5 ?_;refine cjA (f:=5) rfl rfl  (.val (.bool true)) (by intro w e;exact hkn _ e) ?_))|(refine yN hK ?_;clear hK K))|refine wG ?_|(refine yR ?_;intro K hK)|fail)
   all_goals exact a9A rfl rfl (Ext.refl _) rfl
  ·by_cases hb0:10<n
   all_goals
    skip
    repeat' (first|(refine yL ?_;first|refine a0A rfl ?_|(refine oD 25 ?_;refine asA rfl _ rfl rfl (HasC.val hl) ?_)|(refine oD 29 ?_;refine asA rfl _ rfl rfl (HasI.val hk).c ?_;rw [← hm])|refine yO ?_|(refine yC ?_ ?_<;>intro hc)|(refine yV ?_;first|(refine oC 5 ?_;refine cjA (f:=5) rfl rfl  (.val (.bool true)) (by intro w e;exact hkn _ e) ?_))|(refine yN hK ?_;clear hK K))|refine wG ?_|(refine yR ?_;intro K hK)|fail)
    all_goals exact a9A rfl rfl (Ext.refl _) rfl
 have hn10:n≤10:=oZ;have hm20:m≤20:=oZ;clear hbig;refine Fc.of (args:=[_,_,_]) Tryz.func3 rfl rfl Tryz.ntmps3 nZ ?_
 repeat' (first|(refine yL ?_;first|refine a0A rfl ?_|(refine oD 25 ?_;refine asA rfl _ rfl rfl (HasC.val hl) ?_)|(refine oD 29 ?_;refine asA rfl _ rfl rfl (HasI.val hk).c ?_;rw [← hm])|(refine oD 33 ?_;refine ghA (s:=2) tSp rfl (λ _=>by kernel_rfl) ?_)|(refine oD 35 ?_;refine asA rfl _ rfl rfl (HasI.val hk).c ?_;rw [← hm])|(refine oD 37 ?_;refine asA rfl _ rfl rfl (HasC.val hl) ?_)|(refine oD 38 ?_;refine l0A (v:=okB m n xss 0) rfl rfl rfl rfl (by dsimp only [jkA];rw [hok0];omega) ?_)|(refine oD 40 ?_;refine asA rfl _ rfl rfl (HasC.val hl) ?_)|refine yO ?_|(refine yC ?_ ?_<;>intro hc)|(refine yN hK ?_;clear hK K))|refine wG ?_|(refine yR ?_;intro K hK)|fail)
 refine e4A 8 rfl (λ v8 w8 e8 h8=>?_);replace h8:LA.Own w.heap.size tSp 2 w8 v8 0 []:=h8
 refine agA (ι:=Nat × Value × Value × List Qd × (Nat→Int)) (λ j=>[(0,.val kv),(1,.val lv),(2,.val dv),(7,.val j.2.1),(8,.val j.2.2.1),(9,.val (.bool (okB m n xss j.1))),(40,.val (.int .i64 n)),(41,.val (.int .i64 j.1))])
  (λ j w'=>j.1≤n∧Ext w w'∧DRow w.heap.size w' j.2.1 j.2.2.2.1 j.1 (λ t=>buA (xss t)) j.2.2.2.2∧OwnP w.heap.size tSp .u64 w' j.2.2.1 (wI ks xss j.1)∧(∀ t,t<j.1→Inc (xss t)∧(xss t).length≤2000)) (λ j=>n-j.1)
  (λ w5 e5=>⟨(0,nilS,v8,[],λ _=>1),⟨Nat.zero_le _,e8.trans e5,DRow.nil,h8.ext e5,λ t ht=>absurd ht (Nat.not_lt_zero _)⟩,sZ⟩) ?_
 clear h8 e8 w8 hok0;rintro ⟨i,l,want,Q,kks⟩ w1 ⟨hin,he,hQ,hW,hI⟩;dsimp only at hin hQ hW hI ⊢
 by_cases hil:i<n
 ·obtain ⟨hxi,hzi⟩:=hx i hil
  obtain ⟨vi,hvi⟩:∃ v,v=vs.getD i undef:=⟨_,rfl⟩;have hokn:okB m n xss (i+1)=(okB m n xss i && decide (0<(xss i).length)):=rfl;have hwl:(wI ks xss i).length≤i*2000:=w5A i λ j hj=>(hI j hj).2
  have hwn:wI ks xss (i+1)=if i<ks.length then wK (ks.getD i 0*65536) (xss i) (wI ks xss i) (xss i).length else wI ks xss i:=rfl
  rw [← hm] at hwn;obtain ⟨B,hB⟩:∃ B,B=okB m n xss i:=⟨_,rfl⟩;obtain ⟨B1,hB1⟩:∃ B,B=okB m n xss (i+1):=⟨_,rfl⟩;rw [← hB,← hB1] at hokn;obtain ⟨W0,hW0⟩:∃ W,W=wI ks xss i:=⟨_,rfl⟩;rw [← hW0] at hwl hwn hW;obtain ⟨xs,hxs⟩:∃ xs,xs=xss i:=⟨_,rfl⟩;rw [← hxs] at hxi hzi hokn hwn;rw [← hvi] at hxi;rw [← hB];obtain ⟨L0,hL0⟩:∃ L,L=xs.length:=⟨_,rfl⟩;rw [← hL0] at hokn hwn;have hxl:=hxi.len;rw [← hL0] at hxl
  by_cases hL:2000<L0
  ·skip
   repeat' (first|(refine yL ?_;first|refine a0A rfl ?_|(refine oD 46 ?_;refine dpA rfl _ rfl (λ _=>rfl) rfl (HasC.val (hl.ext he)) rfl i rfl hil hvl ?_;rw [← hvi])|(refine oD 48 ?_;refine asA rfl _ rfl rfl (HasI.val (hxi.ext he)).c ?_;rw [← hL0])|refine yO ?_|(refine yC ?_ ?_<;>intro hc)|(refine yV ?_;first|(refine oC 5 ?_;refine cjA (f:=5) rfl rfl  (.val (.bool true)) (by intro w e;exact hkn _ (he.trans e)) ?_))|(refine yN hK ?_;clear hK K))|refine wG ?_|(refine yR ?_;intro K hK)|fail)
   all_goals exact a9A rfl rfl he rfl
  by_cases hinc:Inc xs
  rotate_left
  ·have hno:∀ w',Ext w1 w'→_:=λ w' e=>u2A (A:=TT) ((hxi.ext he).ext e) hinc
   repeat' (first|(refine yL ?_;first|refine a0A rfl ?_|(refine oD 46 ?_;refine dpA rfl _ rfl (λ _=>rfl) rfl (HasC.val (hl.ext he)) rfl i rfl hil hvl ?_;rw [← hvi])|(refine oD 48 ?_;refine asA rfl _ rfl rfl (HasI.val (hxi.ext he)).c ?_;rw [← hL0])|(refine oD 54 ?_;refine dpA rfl _ rfl (λ _=>rfl) rfl (HasC.val (hl.ext he)) rfl i rfl hil hvl ?_;rw [← hvi])|(refine oD 11 ?_;refine a4A (hK _ _ (egA (q:=57) (φ:=cnP TT (λ _=>false) 1) (n:=4) rfl rfl dZ rfl rfl auA (λ _=>rfl) rfl (λ _=>rfl) (λ bc c5 w5 e5 hb5 hh5 hn5 hc5=>?_)));clear hK K;refine aiA kZ (λ K hK=>?_))|refine yO ?_|(refine yC ?_ ?_<;>intro hc)|(refine yV ?_;first|(refine oC 6 ?_;refine a2A (f:=6) rfl rfl rfl  (.tup2 (.pred (cnP TT (λ _=>false) 1)) (.val (.bool false))) (by intro u1 w e hu1;(try obtain rfl:u1=_:=hu1);exact hno _ e) ?_)|(refine oC 5 ?_;refine cjA (f:=5) rfl rfl  (.val (.bool true)) (by intro w e;exact hkn _ ((he.trans e5).trans e)) ?_))|(refine yN hK ?_;clear hK K))|refine wG ?_|(refine yR ?_;intro K hK)|fail)
   all_goals exact a9A rfl rfl (he.trans e5) rfl
  have hlow:Low xs:=λ z hz=>hzi z hz
  obtain ⟨q,hq⟩:∃ q,q=buA xs:=⟨_,rfl⟩;have hq65:q 65536=false:=by
   rw [hq];exact decide_eq_false λ h=>by have:=(hzi _ h).2;omega
  have hof:∀ w',Ext w1 w'→Fc Tryz.prog 6 #[vi] w' (Ret w' (.tup2 (.pred (cnP TT q 1)) (.val (.bool true)))):=λ w' e=>by
   rw [hq];exact qhA ((hxi.ext he).ext e) hinc hlow (λ _ _=>trivial)
  repeat' (first|(refine yL ?_;first|refine a0A rfl ?_|(refine oD 46 ?_;refine dpA rfl _ rfl (λ _=>rfl) rfl (HasC.val (hl.ext he)) rfl i rfl hil hvl ?_;rw [← hvi])|(refine oD 48 ?_;refine asA rfl _ rfl rfl (HasI.val (hxi.ext he)).c ?_;rw [← hL0])|(refine oD 54 ?_;refine dpA rfl _ rfl (λ _=>rfl) rfl (HasC.val (hl.ext he)) rfl i rfl hil hvl ?_;rw [← hvi])|(refine oD 11 ?_;refine a4A (hK _ _ (egA (q:=57) (φ:=cnP TT q 1) (n:=4) rfl rfl dZ rfl rfl auA (λ _=>rfl) rfl (λ _=>rfl) (λ bc c5 w5 e5 hb5 hh5 hn5 hc5=>?_)));clear hK K;refine aiA kZ (λ K hK=>?_))|refine yO ?_|(refine yC ?_ ?_<;>intro hc)|(refine yV ?_;first|(refine oC 6 ?_;refine a2A (f:=6) rfl rfl rfl  (.tup2 (.pred (cnP TT q 1)) (.val (.bool true))) (by intro u1 w e hu1;(try obtain rfl:u1=_:=hu1);exact hof _ e) ?_))|(refine yN hK ?_;clear hK K))|(refine oCX ?_;first|refine cmA (id:=14) (ι:=Array Value × Int) (λ j=>[(0,.val kv),(1,.val lv),(2,.val dv),(7,.val l),(8,.val want),(9,.val (.bool B)),(10,.val (.int .i64 i)),(11,.val (.pointer (some ⟨bc,0,none⟩))),(40,.val (.int .i64 n)),(41,.val (.int .i64 i))]) (λ j w'=>Ext w1 w'∧VarC TT w' bc j.1 q j.2) ?_ ?_)|refine wG ?_|(refine yR ?_;intro K hK)|fail)
  ·by_cases hkd:i<ds.length∧ds.getD i 0 % 3=1
   ·obtain ⟨hkd1,hkd2⟩:=hkd
    have hDb:=hdw _ (show ds.getD i 0 ∈ ds by rw [awA hkd1];exact List.getElem_mem _)
    repeat' (first|(refine yL ?_;first|refine a0A rfl ?_|(refine oD 64 ?_;refine asA rfl _ rfl rfl (HasI.val (hd.ext (he.trans e5))).c ?_)|(refine oD 69 ?_;refine ahA rfl _ rfl (λ _=>rfl) rfl (HasI.val (hd.ext (he.trans e5))) rfl hkd1 ?_)|(refine oD 71 ?_;refine jnA rfl rfl rfl oZ oZ fZ ?_;rw [hkd2])|(refine oD 75 ?_;refine bzA rfl hh5 hn5 rfl (λ _=>rfl) (λ _=>rfl) ?_)|(refine oSt ?_;refine a4A (hK _ _ (lzA (q:=78) (φ:=cnP TT q 2) (n:=4) rfl rfl rfl hh5 hn5 auA (λ _=>rfl) (λ cs' w8 e8 hcn hcs hb2=>?_)));clear hK K)|refine yO ?_|(refine yC ?_ ?_<;>intro hc)|(refine yV ?_;first|(refine oC 8 ?_;refine a2A (f:=8) rfl rfl rfl  (.pred (bnA w.heap.size 39 .u64 (wordsOf q))) (by intro u1 w e hu1;(try obtain rfl:u1=_:=hu1);exact (hvA (hc5.ext e)).mono (aaA (Nat.le_trans (he.trans e5).size e.size))) ?_)|(refine oC 7 ?_;refine a2A (f:=7) rfl rfl rfl  (.tup2 (.pred (cnP TT q 2)) (.val (.bool true))) (by intro u1 w e hu1;(try obtain rfl:u1=_:=hu1);exact y7A (OwnI.slI hu1) hq65 (λ _ _=>trivial)) ?_))|(refine yN hK ?_;clear hK K))|refine wG ?_|(refine yR ?_;intro K hK)|fail)
    exact a6A (cs',2) (λ w9 e9=>⟨((e5.trans e8).setRow hb5 _).trans e9,VarC.ext (VarC.set hb2 hcn hcs) e9⟩) oZ sZ
   ·by_cases hkd1:i<ds.length
    ·have hDb:=hdw _ (show ds.getD i 0 ∈ ds by rw [awA hkd1];exact List.getElem_mem _)
     have hkd2:ds.getD i 0 % 3≠1:=λ h=>hkd ⟨hkd1,h⟩
     repeat' (first|(refine yL ?_;first|refine a0A rfl ?_|(refine oD 64 ?_;refine asA rfl _ rfl rfl (HasI.val (hd.ext (he.trans e5))).c ?_)|(refine oD 69 ?_;refine ahA rfl _ rfl (λ _=>rfl) rfl (HasI.val (hd.ext (he.trans e5))) rfl hkd1 ?_)|(refine oD 71 ?_;refine jnA rfl rfl rfl oZ oZ fZ ?_)|(refine oD 72 ?_;refine f8A rfl rfl rfl rfl hkd2 ?_)|refine yO ?_|(refine yC ?_ ?_<;>intro hc)|(refine yN hK ?_;clear hK K))|refine wG ?_|(refine yR ?_;intro K hK)|fail)
     exact a6A (c5,1) (λ w9 e9=>⟨e5.trans e9,VarC.ext (VarC.mk hh5 hn5 hc5) e9⟩) oZ sZ
    ·skip
     repeat' (first|(refine yL ?_;first|refine a0A rfl ?_|(refine oD 64 ?_;refine asA rfl _ rfl rfl (HasI.val (hd.ext (he.trans e5))).c ?_)|refine yO ?_|(refine yC ?_ ?_<;>intro hc)|(refine yN hK ?_;clear hK K))|refine wG ?_|(refine yR ?_;intro K hK)|fail)
     exact a6A (c5,1) (λ w9 e9=>⟨e5.trans e9,VarC.ext (VarC.mk hh5 hn5 hc5) e9⟩) oZ sZ
  rintro ⟨cs6,kk6⟩ w6 ⟨x6,hV6⟩;refine cmA (id:=16) (ι:=Array Value × Int) (λ j=>[(0,.val kv),(1,.val lv),(2,.val dv),(7,.val l),(8,.val want),(9,.val (.bool B)),(10,.val (.int .i64 i)),(11,.val (.pointer (some ⟨bc,0,none⟩))),(40,.val (.int .i64 n)),(41,.val (.int .i64 i))]) (λ j w'=>Ext w1 w'∧VarC TT w' bc j.1 q j.2) ?_ ?_
  ·by_cases hkd:i<ds.length∧ds.getD i 0 % 3=2
   ·obtain ⟨hkd1,hkd2⟩:=hkd
    have hDb:=hdw _ (show ds.getD i 0 ∈ ds by rw [awA hkd1];exact List.getElem_mem _)
    repeat' (first|(refine yL ?_;first|refine a0A rfl ?_|(refine oD 82 ?_;refine asA rfl _ rfl rfl (HasI.val (hd.ext (he.trans x6))).c ?_)|(refine oD 87 ?_;refine ahA rfl _ rfl (λ _=>rfl) rfl (HasI.val (hd.ext (he.trans x6))) rfl hkd1 ?_)|(refine oD 89 ?_;refine jnA rfl rfl rfl oZ oZ fZ ?_;rw [hkd2])|(refine oD 93 ?_;refine bzA rfl hV6.hb hV6.hn rfl (λ _=>rfl) (λ _=>rfl) ?_)|(refine oSt ?_;refine a4A (hK _ _ (lzA (q:=96) (φ:=cnP TT q 3) (n:=4) rfl rfl rfl hV6.hb hV6.hn auA (λ _=>rfl) (λ cs' w8 e8 hcn hcs hb2=>?_)));clear hK K)|refine yO ?_|(refine yC ?_ ?_<;>intro hc)|(refine yV ?_;first|(refine oC 10 ?_;refine a2A (f:=10) rfl rfl rfl  (.pred (erA w.heap.size 79 (avA q))) (by intro u1 w e hu1;(try obtain rfl:u1=_:=hu1);exact (kpA (hV6.hc.ext e) (hT.ext ((he.trans x6).trans e))).mono (b1A (Nat.le_trans (he.trans x6).size e.size) rfl)) ?_)|(refine oC 9 ?_;refine a2A (f:=9) rfl rfl rfl  (.tup2 (.pred (cnP TT q 3)) (.val (.bool true))) (by intro u1 w e hu1;(try obtain rfl:u1=_:=hu1);exact y8A (OwnR.slR hu1) hq65 (λ _ _=>trivial)) ?_))|(refine yN hK ?_;clear hK K))|refine wG ?_|(refine yR ?_;intro K hK)|fail)
    exact a6A (cs',3) (λ w9 e9=>⟨((x6.trans e8).setRow hb5 _).trans e9,VarC.ext (VarC.set hb2 hcn hcs) e9⟩) oZ sZ
   ·by_cases hkd1:i<ds.length
    ·have hDb:=hdw _ (show ds.getD i 0 ∈ ds by rw [awA hkd1];exact List.getElem_mem _)
     have hkd2:ds.getD i 0 % 3≠2:=λ h=>hkd ⟨hkd1,h⟩
     repeat' (first|(refine yL ?_;first|refine a0A rfl ?_|(refine oD 82 ?_;refine asA rfl _ rfl rfl (HasI.val (hd.ext (he.trans x6))).c ?_)|(refine oD 87 ?_;refine ahA rfl _ rfl (λ _=>rfl) rfl (HasI.val (hd.ext (he.trans x6))) rfl hkd1 ?_)|(refine oD 89 ?_;refine jnA rfl rfl rfl oZ oZ fZ ?_)|(refine oD 90 ?_;refine f8A rfl rfl rfl rfl hkd2 ?_)|refine yO ?_|(refine yC ?_ ?_<;>intro hc)|(refine yN hK ?_;clear hK K))|refine wG ?_|(refine yR ?_;intro K hK)|fail)
     exact a6A (cs6,kk6) (λ w9 e9=>⟨x6.trans e9,VarC.ext hV6 e9⟩) oZ sZ
    ·skip
     repeat' (first|(refine yL ?_;first|refine a0A rfl ?_|(refine oD 82 ?_;refine asA rfl _ rfl rfl (HasI.val (hd.ext (he.trans x6))).c ?_)|refine yO ?_|(refine yC ?_ ?_<;>intro hc)|(refine yN hK ?_;clear hK K))|refine wG ?_|(refine yR ?_;intro K hK)|fail)
     exact a6A (cs6,kk6) (λ w9 e9=>⟨x6.trans e9,VarC.ext hV6 e9⟩) oZ sZ
  rintro ⟨cs7,kk7⟩ w7 ⟨x7,hV7⟩;dsimp only at hV7 ⊢;clear hV6 x6 cs6 kk6 w6
  repeat' (first|(refine yL ?_;first|refine a0A rfl ?_|(refine oD 99 ?_;refine bzA rfl hV7.hb hV7.hn rfl (λ _=>rfl) (λ _=>rfl) ?_)|(refine oD 100 ?_;refine eoA (base:=w7.heap.size) (Nat.le_refl _) rfl d8A rfl (λ v w e h=>by obtain rfl:v=_:=h;exact Cn.ext hV7.hc e) ?_)|(refine oD 101 ?_;refine a4A (hK _ _ (bkA 100 rfl (λ v26 w26 e26 h26=>?_)));clear hK K;obtain ⟨qc,r1,r2,r3⟩:=h26;refine d7A rfl dZ d8A rfl (hQ.o.ext (x7.trans e26)) rfl (HasC.ownV r1) r3 (by unfold maxLen;omega) oZ (λ l' w2 w3 e2 ho hf hlc=>?_);refine aiA kZ (λ K hK=>?_))|refine yO ?_|(refine yC ?_ ?_<;>intro hc)|(refine yN hK ?_;clear hK K))|(refine oCX ?_;first|refine zxA (id:=19) (ι:=Unit) (λ _=>⟨238,[]⟩) (λ _=>[(0,.val kv),(1,.val lv),(2,.val dv),(7,.val l'),(8,.val want),(9,.val (.bool B1)),(10,.val (.int .i64 i)),(40,.val (.int .i64 n)),(41,.val (.int .i64 i))]) (λ _ w'=>Ext w3 w') ?_ ?_)|refine wG ?_|(refine yR ?_;intro K hK)|fail)
  ·have x3:Ext w w3:=Fr.ext (he.trans ((x7.trans e26).trans e2)) hf (λ k hk=>(Own.lt hQ.o k hk).1)
   cases B with
   | false =>
     obtain rfl:B1=false:=hokn.trans rfl
     repeat' (first|(refine yL ?_;first|refine a0A rfl ?_|refine yO ?_|(refine yC ?_ ?_<;>intro hc)|(refine yN hK ?_;clear hK K))|refine wG ?_|(refine yR ?_;intro K hK)|fail)
     exact s2A () (λ w5 e5=>e5) rfl sZ
   | true =>
     obtain rfl:B1=decide (0<L0):=hokn.trans rfl
     repeat' (first|(refine yL ?_;first|refine a0A rfl ?_|(refine oD 106 ?_;refine dpA rfl _ rfl (λ _=>rfl) rfl (HasC.val (hl.ext x3)) rfl i rfl hil hvl ?_;rw [← hvi])|(refine oD 108 ?_;refine asA rfl _ rfl rfl (HasI.val (hxi.ext x3)).c ?_;rw [← hL0])|(refine oD 109 ?_;refine l0A (v:=decide (0<L0)) rfl rfl rfl rfl (by dsimp only [jkA];rw [decide_eq_true_iff];omega) ?_)|refine yO ?_|(refine yC ?_ ?_<;>intro hc)|(refine yN hK ?_;clear hK K))|refine wG ?_|(refine yR ?_;intro K hK)|fail)
     exact s2A () (λ w5 e5=>e5) rfl sZ
  rintro ⟨⟩ w4 e4;have x3:Ext w w3:=Fr.ext (he.trans ((x7.trans e26).trans e2)) hf (λ k hk=>(Own.lt hQ.o k hk).1);have hRl:∀ k,l.ownBlock=some k→∃ cur,w2.heap[k]?=some (.cells cur tC (0,0)):=λ k hk=>bxA (hQ.o.ext ((x7.trans e26).trans e2)) hk
  have hfc:∀ {v p kk},Cn TT w2 v p kk→Cn TT w3 v p kk:=λ hc=>hc.fr hf (λ j hj=>by
   obtain ⟨cur,hcur⟩:=hRl j hj;exact ⟨cur,_,_,hcur,by decide,by decide,λ _=>by decide⟩)
  have hQ4:DRow w.heap.size w4 l' (Q++[qc]) (i+1) (λ t=>buA (xss t)) (kk1 kks i kk7):=by
   refine DRow.ext (DRow.snoc hQ.l ?_ (λ j hj=>hfc ((hQ.c j hj).ext ((x7.trans e26).trans e2))) ?_) e4
   ·rw [dhA];exact Own.rebase ho (hlc.ge (λ k hk=>(Own.lt hQ.o k hk).1) (Nat.le_trans he.size ((x7.trans e26).trans e2).size))
   ·show Cn TT w3 (qv qc) (buA (xss i)) kk7
    rw [← hxs,← hq];exact hfc (r2.ext e2)
  have hW4:OwnP w.heap.size tSp .u64 w4 want W0:=OwnP.ext (show OwnP w.heap.size tSp .u64 w3 want W0 from qcA (OwnP.ext hW ((x7.trans e26).trans e2)) hf (λ k hk=>by obtain ⟨cur,hcc⟩:=hRl k hk;exact ⟨cur,_,_,hcc,by decide⟩)) e4;have x4:=x3.trans e4;have hI4:∀ t,t<i+1→Inc (xss t)∧(xss t).length≤2000:=λ t ht=>by
   by_cases e:t=i
   ·subst e;rw [← hxs,← hL0];exact ⟨hinc,by omega⟩
   ·exact hI t oZ
  clear hQ hW hV7 x3 ho hf hlc r1 r2 r3 hfc hRl hof hI
  repeat' (first|(refine yL ?_;first|refine a0A rfl ?_|(refine oD 113 ?_;refine dpA rfl _ rfl (λ _=>rfl) rfl (HasC.val (hl.ext x4)) rfl i rfl hil hvl ?_;rw [← hvi])|(refine oD 115 ?_;refine asA rfl _ rfl rfl (HasI.val (hxi.ext x4)).c ?_;rw [← hL0])|refine yO ?_|(refine yC ?_ ?_<;>intro hc)|(refine yN hK ?_;clear hK K))|refine wG ?_|(refine yR ?_;intro K hK)|fail)
  by_cases him:i<m
  rotate_left
  ·rw [if_neg him] at hwn
   refine agA (ι:=Nat) (λ k=>[(0,.val kv),(1,.val lv),(2,.val dv),(7,.val l'),(8,.val want),(9,.val (.bool B1)),(10,.val (.int .i64 i)),(40,.val (.int .i64 n)),(41,.val (.int .i64 i)),(115,.val (.int .i64 L0)),(116,.val (.int .i64 k))])
    (λ k w'=>k≤L0∧Ext w4 w') (λ k=>L0-k) (λ w5 e5=>⟨0,⟨Nat.zero_le _,e5⟩,sZ⟩) ?_
   rintro k w5 ⟨hkl',e5⟩
   by_cases hkL:k<L0
   ·skip
    repeat' (first|(refine yL ?_;first|refine a0A rfl ?_|(refine oD 121 ?_;refine asA rfl _ rfl rfl (HasI.val (hk.ext (x4.trans e5))).c ?_;rw [← hm])|refine yO ?_|(refine yC ?_ ?_<;>intro hc)|(refine yN hK ?_;clear hK K))|refine wG ?_|(refine yR ?_;intro K hK)|fail)
    exact a6A (k+1) (λ w8 e8=>⟨hkL,e5.trans e8⟩) oZ sZ
   obtain rfl:k=L0:=oZ
   repeat' (first|(refine yL ?_;first|refine a0A rfl ?_|refine yO ?_|(refine yC ?_ ?_<;>intro hc)|(refine yN hK ?_;clear hK K))|refine wG ?_|(refine yR ?_;intro K hK)|fail)
   exact a6A (i+1,l',want,Q++[qc],kk1 kks i kk7) (λ w8 e8=>⟨hil,(x4.trans e5).trans e8,(hQ4.ext e5).ext e8,by rw [hwn];exact (hW4.ext e5).ext e8,hI4⟩) eZ (by dsimp only;rw [← hB1];(repeat' (first|exact Sub.nil|(refine Sub.val rfl ?_ ?_;first|with_reducible rfl|(congr 1;omega))|refine Sub.same rfl ?_));done)
  rw [if_pos him] at hwn;obtain ⟨K0,hK0⟩:∃ K,K=ks.getD i 0:=⟨_,rfl⟩;have hKb:0≤K0∧K0<65536:=hkw _ (by rw [hK0,awA oZ];exact List.getElem_mem _);rw [← hK0] at hwn
  refine agA (ι:=Nat × Value) (λ j=>[(0,.val kv),(1,.val lv),(2,.val dv),(7,.val l'),(8,.val j.2),(9,.val (.bool B1)),(10,.val (.int .i64 i)),(40,.val (.int .i64 n)),(41,.val (.int .i64 i)),(115,.val (.int .i64 L0)),(116,.val (.int .i64 j.1))])
   (λ j w'=>j.1≤L0∧Ext w w'∧DRow w.heap.size w' l' (Q++[qc]) (i+1) (λ t=>buA (xss t)) (kk1 kks i kk7)∧OwnP w.heap.size tSp .u64 w' j.2 (wK (K0*65536) xs W0 j.1)) (λ j=>L0-j.1)
   (λ w5 e5=>⟨(0,want),⟨Nat.zero_le _,x4.trans e5,hQ4.ext e5,hW4.ext e5⟩,sZ⟩) ?_
  clear hQ4 hW4;rintro ⟨k,vw⟩ w5 ⟨hkl',x5,hQ5,hW5⟩;dsimp only at hkl' hW5 ⊢
  by_cases hkL:k<L0
  ·have hSk:wK (K0*65536) xs W0 (k+1)=stepW (wK (K0*65536) xs W0 k) (K0*65536+xs.getD k 0):=rfl
   have hSl:=pjA (K0*65536) xs W0 k;obtain ⟨X0,hX0⟩:∃ X,X=xs.getD k 0:=⟨_,rfl⟩;have hXb:0≤X0∧X0<65536:=hzi _ (by rw [hX0,awA oZ];exact List.getElem_mem _);rw [← hX0] at hSk;obtain ⟨S,hS⟩:∃ S,S=wK (K0*65536) xs W0 k:=⟨_,rfl⟩;rw [← hS] at hSk hSl hW5;obtain ⟨Y,hY⟩:∃ Y,Y=K0*65536+X0:=⟨_,rfl⟩;rw [← hY] at hSk;have hSn:S.length≤30000:=oZ
   by_cases hs:0<S.length∧(S.getD (S.length-1) (0,0)).2=Y
   ·obtain ⟨s1,s2⟩:=hs
    have hSk':wK (K0*65536) xs W0 (k+1)=S.set (S.length-1) ((S.getD (S.length-1) (0,0)).1,Y+1):=by rw [hSk];unfold stepW;rw [if_pos ⟨s1,s2⟩]
    obtain ⟨gb,cap,cur,rfl,r1,r2,r3,r4,r5,r6⟩:=hW5.row s1
    repeat' (first|(refine yL ?_;first|refine a0A rfl ?_|(refine oD 121 ?_;refine asA rfl _ rfl rfl (HasI.val (hk.ext x5)).c ?_;rw [← hm])|(refine oD 125 ?_;refine ahA rfl _ rfl (λ _=>rfl) rfl (HasI.val (hk.ext x5)) rfl oZ ?_;rw [← hK0])|(refine oD 128 ?_;refine kwA rfl rfl rfl fZ ?_)|(refine oD 131 ?_;refine dpA rfl _ rfl (λ _=>rfl) rfl (HasC.val (hl.ext x5)) rfl i rfl hil hvl ?_;rw [← hvi])|(refine oD 134 ?_;refine ahA rfl _ rfl (λ _=>rfl) rfl (HasI.val (hxi.ext x5)) rfl oZ ?_;rw [← hX0])|(refine oD 137 ?_;refine beA rfl rfl rfl fZ ?_;rw [← hY])|(refine oD 139 ?_;refine b3A rfl _ rfl rfl (HasP.ownV hW5) ?_)|(refine oD 145 ?_;refine abA rfl rfl rfl fZ ?_;rw [show ((S.length:Int)-1)=((S.length-1:Nat):Int) by omega])|(refine oD 146 ?_;refine atA rfl _ rfl (λ _=>rfl) rfl (HasP.ownV hW5) rfl oZ ?_;rw [s2])|(refine oD 147 ?_;refine acA (o:=1) rfl rfl (λ _ _=>rfl) ?_)|(refine oD 148 ?_;refine ayA rfl (λ _=>rfl) rfl rfl ?_)|(refine oD 154 ?_;refine abA rfl rfl rfl fZ ?_;rw [show ((S.length:Int)-1)=((S.length-1:Nat):Int) by omega])|(refine oD 155 ?_;refine atA rfl _ rfl (λ _=>rfl) rfl (HasP.ownV hW5) rfl oZ ?_;rw [s2])|(refine oD 156 ?_;refine acA (o:=1) rfl rfl (λ _ _=>rfl) ?_)|(refine oD 157 ?_;refine ayA rfl (λ _=>rfl) rfl rfl ?_)|(refine oD 159 ?_;refine d2A (s:=2) rfl rfl (λ _=>rfl) rfl rfl oZ oZ ?_;rw [Int.toNat_natCast,Nat.zero_add])|(refine oD 160 ?_;refine a1A (a':=⟨gb,(S.length-1)*2+1,none⟩) rfl rfl (λ _=>rfl) ?_)|(refine oSt ?_;refine a4A (hK _ _ (d1A rfl rfl rfl r2 (λ _=>rfl) oZ rfl rfl (λ w7 e7=>?_)));clear hK K)|refine yO ?_|(refine yC ?_ ?_<;>intro hc)|(refine yN hK ?_;clear hK K))|refine wG ?_|(refine yR ?_;intro K hK)|fail)
    have ho7:=OwnP.set2 r1 (e7.block r2) r3 r4 r5 r6 (S.length-1) (Y+1);have x7':=(x5.trans e7).setRow r1 (cur.setIfInBounds ((S.length-1)*2+1) (.int .u64 (Y+1)));have hQ7:DRow w.heap.size (w7.setRow gb (cur.setIfInBounds ((S.length-1)*2+1) (.int .u64 (Y+1)))) l' (Q++[qc]) (i+1) (λ t=>buA (xss t)) (kk1 kks i kk7) :=
     hQ5.fr (Fr.setRow (R:=λ k=>k=gb) (Fr.of e7) rfl _) (λ k hk=>by subst hk;exact ⟨_,r2⟩)
    exact a6A (k+1,_) (λ w8 e8=>⟨hkL,x7'.trans e8,hQ7.ext e8,by rw [hSk'];exact ho7.ext e8⟩) eZ sZ
   ·have hSk':wK (K0*65536) xs W0 (k+1)=S++[(Y,Y+1)]:=by rw [hSk];unfold stepW;rw [if_neg hs]
    by_cases s1:0<S.length
    all_goals
     have s2:0<S.length→(S.getD (S.length-1) (0,0)).2≠Y:=λ h h'=>hs ⟨h,h'⟩
     repeat' (first|(refine yL ?_;first|refine a0A rfl ?_|(refine oD 121 ?_;refine asA rfl _ rfl rfl (HasI.val (hk.ext x5)).c ?_;rw [← hm])|(refine oD 125 ?_;refine ahA rfl _ rfl (λ _=>rfl) rfl (HasI.val (hk.ext x5)) rfl oZ ?_;rw [← hK0])|(refine oD 128 ?_;refine kwA rfl rfl rfl fZ ?_)|(refine oD 131 ?_;refine dpA rfl _ rfl (λ _=>rfl) rfl (HasC.val (hl.ext x5)) rfl i rfl hil hvl ?_;rw [← hvi])|(refine oD 134 ?_;refine ahA rfl _ rfl (λ _=>rfl) rfl (HasI.val (hxi.ext x5)) rfl oZ ?_;rw [← hX0])|(refine oD 137 ?_;refine beA rfl rfl rfl fZ ?_;rw [← hY])|(refine oD 139 ?_;refine b3A rfl _ rfl rfl (HasP.ownV hW5) ?_)|(refine oD 145 ?_;refine abA rfl rfl rfl fZ ?_;rw [show ((S.length:Int)-1)=((S.length-1:Nat):Int) by omega])|(refine oD 146 ?_;refine atA rfl _ rfl (λ _=>rfl) rfl (HasP.ownV hW5) rfl oZ ?_)|(refine oD 147 ?_;refine acA (o:=1) rfl rfl (λ _ _=>rfl) ?_)|(refine oD 148 ?_;refine ayA rfl (λ _=>rfl) rfl rfl ?_)|(refine oD 150 ?_;refine f8A rfl rfl rfl rfl (s2 s1) ?_)|(refine oD 165 ?_;refine cqA (c:=spV .u64 (Y,Y+1)) rfl rfl rfl (λ w=>run_build w _ _ _ kZ) ?_)|(refine oD 166 ?_;refine e3A rfl fgA rfl rfl dZ ?_)|(refine oD 167 ?_;refine a4A (hK _ _ (cpA (base:=w.heap.size) (s:=2) (cs:=ckA .u64 S) (n:=S.length) (m:=1) (news:=(spV .u64 (Y,Y+1)).cells.toList) rfl dZ fgA rfl hW5 rfl HasC.own (by intro u hu;simp [spV,Value.cells] at hu;rcases hu with rfl|rfl <;> rfl) (by unfold maxLen;omega) oZ x5.size (λ v' w2 w3 e2 ho hg'=>?_)));clear hK K)|refine yO ?_|(refine yC ?_ ?_<;>intro hc)|(refine yN hK ?_;clear hK K))|refine wG ?_|(refine yR ?_;intro K hK)|fail)
     have xv:Ext w w3:=(x5.trans e2).grown hg' (λ q hq=>(Own.lt hW5 q hq).1);have hov:OwnP w.heap.size tSp .u64 w3 v' (S++[(Y,Y+1)]):=by
      unfold OwnP;rw [ezA,List.length_append,List.length_singleton];exact ho
     have hQ5v:DRow w.heap.size w3 l' (Q++[qc]) (i+1) (λ t=>buA (xss t)) (kk1 kks i kk7):=(hQ5.ext e2).fr (Fr.grown hg') (λ k hk=>bxA (OwnP.ext hW5 e2) hk);refine aiA kZ (λ K hK=>?_)
     repeat' (first|(refine yL ?_;first|refine a0A rfl ?_|refine yO ?_|(refine yC ?_ ?_<;>intro hc)|(refine yN hK ?_;clear hK K))|refine wG ?_|(refine yR ?_;intro K hK)|fail)
     exact a6A (k+1,v') (λ w8 e8=>⟨hkL,xv.trans e8,hQ5v.ext e8,by rw [hSk'];exact hov.ext e8⟩) eZ sZ
  obtain rfl:k=L0:=oZ
  repeat' (first|(refine yL ?_;first|refine a0A rfl ?_|refine yO ?_|(refine yC ?_ ?_<;>intro hc)|(refine yN hK ?_;clear hK K))|refine wG ?_|(refine yR ?_;intro K hK)|fail)
  exact a6A (i+1,l',vw,Q++[qc],kk1 kks i kk7) (λ w8 e8=>⟨hil,x5.trans e8,hQ5.ext e8,by rw [hwn];exact hW5.ext e8,hI4⟩) eZ (by dsimp only;rw [← hB1];(repeat' (first|exact Sub.nil|(refine Sub.val rfl ?_ ?_;first|with_reducible rfl|(congr 1;omega))|refine Sub.same rfl ?_));done)
 obtain rfl:i=n:=oZ;clear hil
 by_cases hmn:m=i
 rotate_left
 ·have hok:okB m i xss i=false:=by
   cases h:okB m i xss i with
   | false=>rfl
   | true=>exact absurd ((kaA i).1 h).1 hmn
  rw [hok];have hj:∀ w',Ext w1 w'→Fc Tryz.prog 11 #[kv,l] w' (Ret w' (uiA false (λ _=>false))):=λ w' e=>ugA (hk.ext (he.trans e)) (hQ.o.ext e).slC oZ
  repeat' (first|(refine yL ?_;first|refine a0A rfl ?_|(refine oD 184 ?_;refine blA (c:=.bool true) rfl rfl rfl (λ _=>rfl) ?_)|refine yO ?_|(refine yC ?_ ?_<;>intro hc)|(refine yV ?_;first|(refine oC 11 ?_;refine a3A (f:=11) rfl rfl rfl rfl  (.tup2 (.val (.pointer none)) (.val (.int .i64 2))) (by intro u1 u2 w e hu1 hu2;(try obtain rfl:u1=_:=hu1);(try obtain rfl:u2=_:=hu2);exact hj _ e) ?_)|(refine oC 5 ?_;refine cjA (f:=5) rfl rfl  (.val (.bool true)) (by intro w e;exact hkn _ (he.trans e)) ?_))|(refine yN hK ?_;clear hK K))|refine wG ?_|(refine yR ?_;intro K hK)|fail)
  all_goals exact a9A rfl rfl he rfl
 subst hmn;obtain ⟨kn,hkne⟩:∃ kn:Nat→Nat,kn=λ t=>(ks.getD t 0).toNat:=⟨_,rfl⟩
 have hkn2:∀ t,t<m→kn t<65536∧ks.getD t 0=(kn t:Int):=λ t ht=>by
  have:=hkw _ (show ks.getD t 0 ∈ ks by rw [awA oZ];exact List.getElem_mem _);rw [hkne];dsimp only;omega
 have hlow:∀ t,t<m→Low (xss t):=λ t ht z hz=>(hx t ht).2 z hz
 have hdok:=boB hkn2 hm.symm (λ t ht=>(hI t ht).1) hlow;have hmt:∀ t,t<m→∀ j,65536≤j→buA (xss t) j=false:=λ t ht j hj=>decide_eq_false λ h=>by have:=(hlow t ht _ h).2;omega
 have hj:∀ w' d,Ext w1 w'→(d=true↔Dir kn (λ t=>buA (xss t)) m)→Fc Tryz.prog 11 #[kv,l] w' (Ret w' (uiA d (fdA kn (λ t=>buA (xss t)) m))):=λ w' d e hd=>wlA (hk.ext (he.trans e)) (hQ.o.ext e).slC hm.symm hQ.l (hT.ext (he.trans e)) hkn2 (λ t ht=>(hQ.c t ht).ext e) hmt oZ hd
 have hmay:∀ w',Ext w1 w'→_:=λ w' e=>tmA w' kv ks (hk.ext (he.trans e))
 by_cases hdir:Dir kn (λ t=>buA (xss t)) m
 rotate_left
 ·have hj2:∀ w',Ext w1 w'→_:=λ w' e=>hj w' false e (by simp [hdir])
  cases hok:okB m m xss m with
  | false =>
    repeat' (first|(refine yL ?_;first|refine a0A rfl ?_|(refine oD 184 ?_;refine blA (c:=.bool true) rfl rfl rfl (λ _=>rfl) ?_)|refine yO ?_|(refine yC ?_ ?_<;>intro hc)|(refine yV ?_;first|(refine oC 11 ?_;refine a3A (f:=11) rfl rfl rfl rfl  (.tup2 (.val (.pointer none)) (.val (.int .i64 2))) (by intro u1 u2 w e hu1 hu2;(try obtain rfl:u1=_:=hu1);(try obtain rfl:u2=_:=hu2);exact hj2 _ e) ?_)|(refine oC 5 ?_;refine cjA (f:=5) rfl rfl  (.val (.bool true)) (by intro w e;exact hkn _ (he.trans e)) ?_))|(refine yN hK ?_;clear hK K))|refine wG ?_|(refine yR ?_;intro K hK)|fail)
    all_goals exact a9A rfl rfl he rfl
  | true =>
    have hni:decide (Inc ks)=false:=decide_eq_false λ h=>hdir (hdok.2 ⟨hok,h⟩)
    rw [hni] at hmay
    repeat' (first|(refine yL ?_;first|refine a0A rfl ?_|(refine oD 184 ?_;refine blA (c:=.bool true) rfl rfl rfl (λ _=>rfl) ?_)|refine yO ?_|(refine yC ?_ ?_<;>intro hc)|(refine yV ?_;first|(refine oC 11 ?_;refine a3A (f:=11) rfl rfl rfl rfl  (.tup2 (.val (.pointer none)) (.val (.int .i64 2))) (by intro u1 u2 w e hu1 hu2;(try obtain rfl:u1=_:=hu1);(try obtain rfl:u2=_:=hu2);exact hj2 _ e) ?_)|(refine oC 12 ?_;refine a2A (f:=12) rfl rfl rfl  (.val (.bool false)) (by intro u1 w e hu1;(try obtain rfl:u1=_:=hu1);exact hmay _ e) ?_)|(refine oC 5 ?_;refine cjA (f:=5) rfl rfl  (.val (.bool true)) (by intro w e;exact hkn _ (he.trans e)) ?_))|(refine yN hK ?_;clear hK K))|refine wG ?_|(refine yR ?_;intro K hK)|fail)
    all_goals exact a9A rfl rfl he rfl
 have hj2:∀ w',Ext w1 w'→_:=λ w' e=>hj w' true e (by simp [hdir])
 have hwsp:=wI_sp hm.symm hkn2 (λ t ht=>(hI t ht).1) hlow hdir;obtain ⟨hok,hinc⟩:=hdok.1 hdir;rw [decide_eq_true hinc] at hmay;rw [hok];obtain ⟨p,hp⟩:∃ p,p=fdA kn (λ t=>buA (xss t)) m:=⟨_,rfl⟩;rw [← hp] at hj2 hwsp;rw [hwsp] at hW;have hkl2:=brA p;obtain ⟨kq,hkq⟩:∃ k,k=nk p:=⟨_,rfl⟩;rw [← hkq] at hkl2;have hnk:=fcA p;rw [← hkq] at hnk
 repeat' (first|(refine yL ?_;first|refine a0A rfl ?_|(refine oD 192 ?_;refine a4A (hK _ _ (bkA 16 rfl (λ sv w9 e9 h9=>?_)));clear hK K;replace h9:RSet TT TT w9 sv p:=h9;obtain ⟨b9,k9,l9,rfl,h91,h92⟩:=id h9;have hS:NSet TT TT w9 (.pointer (some ⟨b9,0,none⟩)) p:=.inr h9;refine aiA kZ (λ K hK=>ddA rfl rfl ?_))|(refine oD 193 ?_;refine blA (c:=.bool false) rfl rfl rfl (λ _=>rfl) ?_)|(refine oD 206 ?_;refine asA rfl _ rfl rfl HasI.own.c ?_;rw [hkl2])|refine yO ?_|(refine yC ?_ ?_<;>intro hc)|(refine yV ?_;first|(refine oC 11 ?_;refine a3A (f:=11) rfl rfl rfl rfl  (.tup2 (.pred (rsP TT TT p)) (.val (.int .i64 0))) (by intro u1 u2 w e hu1 hu2;(try obtain rfl:u1=_:=hu1);(try obtain rfl:u2=_:=hu2);exact hj2 _ e) ?_)|(refine oC 12 ?_;refine a2A (f:=12) rfl rfl rfl  (.val (.bool true)) (by intro u1 w e hu1;(try obtain rfl:u1=_:=hu1);exact hmay _ e) ?_)|(refine oC 13 ?_;refine l1A (f:=13) rfl rfl rfl rfl rfl rfl rfl  (.val (.bool true)) (by intro u1 u2 u3 u4 u5 w e hu1 hu2 hu3 hu4 hu5;(try obtain rfl:u1=_:=hu1);(try obtain rfl:u2=_:=hu2);(try obtain rfl:u3=_:=hu3);(try obtain rfl:u4=_:=hu4);(try obtain rfl:u5=_:=hu5);exact is_t (x:=0) (at_:=70000) (k:=5) (hS.ext e) ((OwnP.slP hW).ext (e9.trans e)) (hT.ext (he.trans (e9.trans e))) oZ oZ oZ) ?_)|(refine oC 14 ?_;refine a2A (f:=14) rfl rfl rfl  (.pred (bnA w9.heap.size tK .u16 (b9A p))) (by intro u1 w e hu1;(try obtain rfl:u1=_:=hu1);exact (ikA (hS.ext e)).mono (aaA e.size)) ?_))|(refine yN hK ?_;clear hK K))|refine wG ?_|(refine yR ?_;intro K hK)|fail)
 refine agA (ι:=Nat × Value × List Qd × (Nat→Int)) (λ j=>[(0,.val kv),(1,.val lv),(2,.val dv),(16,.val (.pointer (some ⟨b9,0,none⟩))),(18,.val j.2.1),(206,.val (.int .i64 kq)),(207,.val (.int .i64 j.1))])
  (λ j w'=>j.1≤kq∧Ext w9 w'∧DRow w9.heap.size w' j.2.1 j.2.2.1 j.1 (λ t=>blk p (kp p t)) j.2.2.2) (λ j=>kq-j.1)
  (λ w5 e5=>⟨(0,nilS,[],λ _=>1),⟨Nat.zero_le _,e5,DRow.nil⟩,sZ⟩) ?_
 rintro ⟨j,u,Q2,kk2⟩ w2 ⟨hjn,e2,hD⟩;dsimp only at hjn hD ⊢;have hS2:=hS.ext e2;have x2:Ext w w2:=(he.trans e9).trans e2
 by_cases hjl:j<kq
 ·have hat:∀ w',Ext w2 w'→_:=λ w' e=>at_s (hS2.ext e) (i:=j) oZ
  obtain ⟨b,hb⟩:∃ b,b=blk p (kp p j):=⟨_,rfl⟩;obtain ⟨kk,hkk⟩:∃ k,k=aoA b:=⟨_,rfl⟩;rw [← hb] at hat;rw [← hkk] at hat
  repeat' (first|(refine yL ?_;first|refine a0A rfl ?_|(refine oD 20 ?_;refine a4A (hK _ _ (egA (q:=214) (φ:=cnP TT b kk) (n:=4) rfl rfl dZ rfl rfl auA (λ _=>rfl) rfl (λ _=>rfl) (λ b5 c5 w5 e5 hb5 hh5 hn5 hc5=>?_)));clear hK K;refine aiA kZ (λ K hK=>?_))|(refine oD 217 ?_;refine bzA rfl hh5 hn5 rfl (λ _=>rfl) (λ _=>rfl) ?_)|(refine oD 218 ?_;refine eoA (base:=w5.heap.size) (Nat.le_refl _) rfl d8A rfl (λ v w e h=>by obtain rfl:v=_:=h;exact Cn.ext hc5 e) ?_)|(refine oD 219 ?_;refine a4A (hK _ _ (bkA 218 rfl (λ v26 w26 e26 h26=>?_)));clear hK K;obtain ⟨qc,r1,r2,r3⟩:=h26;refine d7A rfl dZ d8A rfl (hD.o.ext (e5.trans e26)) rfl (HasC.ownV r1) r3 (by unfold maxLen;omega) oZ (λ l' wa w3 ea ho hf hlc=>?_))|refine yO ?_|(refine yC ?_ ?_<;>intro hc)|(refine yV ?_;first|(refine oC 15 ?_;refine a3A (f:=15) rfl rfl rfl rfl  (.tup2 (.pred (cnP TT b kk)) (.val (.bool true))) (by intro u1 u2 w e hu1 hu2;(try obtain rfl:u1=_:=hu1);(try obtain rfl:u2=_:=hu2);exact hat _ e) ?_))|(refine yN hK ?_;clear hK K))|refine wG ?_|(refine yR ?_;intro K hK)|fail)
  have x3:Ext w9 w3:=Fr.ext (e2.trans ((e5.trans e26).trans ea)) hf (λ k hk=>(Own.lt hD.o k hk).1);have hRl:∀ k,u.ownBlock=some k→∃ cur,wa.heap[k]?=some (.cells cur tC (0,0)):=λ k hk=>bxA (hD.o.ext ((e5.trans e26).trans ea)) hk
  have hfc:∀ {v p kk},Cn TT wa v p kk→Cn TT w3 v p kk:=λ hc=>hc.fr hf (λ j hj=>by
   obtain ⟨cur,hcur⟩:=hRl j hj;exact ⟨cur,_,_,hcur,by decide,by decide,λ _=>by decide⟩)
  have hQ3:DRow w9.heap.size w3 l' (Q2++[qc]) (j+1) (λ t=>blk p (kp p t)) (kk1 kk2 j kk):=by
   refine DRow.snoc hD.l ?_ (λ t ht=>hfc ((hD.c t ht).ext ((e5.trans e26).trans ea))) ?_
   ·rw [dhA];exact Own.rebase ho (hlc.ge (λ k hk=>(Own.lt hD.o k hk).1) (Nat.le_trans e2.size ((e5.trans e26).trans ea).size))
   ·show Cn TT w3 (qv qc) (blk p (kp p j)) kk
    rw [← hb];exact hfc (r2.ext ea)
  refine aiA kZ (λ K hK=>?_)
  repeat' (first|(refine yL ?_;first|refine a0A rfl ?_|refine yO ?_|(refine yC ?_ ?_<;>intro hc)|(refine yN hK ?_;clear hK K))|refine wG ?_|(refine yR ?_;intro K hK)|fail)
  exact a6A (j+1,l',Q2++[qc],kk1 kk2 j kk) (λ w8 e8=>⟨hjl,x3.trans e8,hQ3.ext e8⟩) eZ sZ
 have hjq:j=kq:=oZ;rw [hjq,hkq] at hD;rw [hkq] at hkl2;have hpt:=hrA hS;have hjk:∀ w' v1,Ext w2 w'→OwnI w9.heap.size tK .u16 w' v1 (b9A p)→Fc Tryz.prog 11 #[v1,u] w' (Ret w' (.tup2 (.pred (rsP TT TT p)) (.val (.int .i64 0)))):=λ w' v1 e hv=>by
  have h0:=wlA (d:=true) (n:=nk p) (kn:=kp p) (qs:=λ t=>blk p (kp p t)) (OwnI.slI hv) (hD.o.ext e).slC hkl2 hD.l (hT.ext (x2.trans e)) (λ t ht=>⟨(gnA ht).1,(gnA ht).2.2.2⟩) (λ t ht=>(hD.c t ht).ext e) (λ t ht j hj=>dnA oZ) oZ ⟨λ _=>rkA p,λ _=>rfl⟩;rw [uhA hpt] at h0;exact h0
 clear hjl hjn hj2 hj hmay hwsp
 repeat' (first|(refine yL ?_;first|refine a0A rfl ?_|refine yO ?_|(refine yC ?_ ?_<;>intro hc)|(refine yV ?_;first|(refine oC 14 ?_;refine a2A (f:=14) rfl rfl rfl  (.pred (bnA w9.heap.size tK .u16 (b9A p))) (by intro u1 w e hu1;(try obtain rfl:u1=_:=hu1);exact (ikA (hS2.ext e)).mono (aaA (Nat.le_trans e2.size e.size))) ?_)|(refine oC 11 ?_;refine a3A (f:=11) rfl rfl rfl rfl  (.tup2 (.pred (rsP TT TT p)) (.val (.int .i64 0))) (by intro u1 u2 w e hu1 hu2;(try obtain rfl:u1=_:=hu1);(try obtain rfl:u2=_:=hu2);exact hjk _ _ e hu1) ?_)|(refine oC 16 ?_;refine a3A (f:=16) rfl rfl rfl rfl  (.val (.bool true)) (by intro u1 u2 w e hu1 hu2;(try obtain rfl:u1=_:=hu1);(try obtain rfl:u2=_:=hu2);exact arA (by rw [decide_eq_true rfl]) (w8A (.inr (RSet.tt hu1)) (hS2.ext e) (hT.ext (x2.trans e)))) ?_)|(refine oC 5 ?_;refine cjA (f:=5) rfl rfl  (.val (.bool true)) (by intro w e;exact hkn _ (x2.trans e)) ?_))|(refine yN hK ?_;clear hK K))|refine wG ?_|(refine yR ?_;intro K hK)|fail)
 exact a9A rfl rfl x2 rfl
end Go.Proofs.YtlnaebejmjmepaaGreatDoor
end
