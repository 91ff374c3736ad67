import Derived.Test.YtlnaebejmjmepaaGreatDoorM12
import Derived.Test.YtlnaebejmjmepaaGreatDoorM14
import Derived.Test.YtlnaebejmjmepaaGreatDoorM19
import Derived.Test.YtlnaebejmjmepaaGreatDoorM20
set_option linter.unusedSimpArgs false
set_option linter.unusedVariables false
set_option maxRecDepth 3000
set_option maxHeartbeats 16000000
section
namespace Go.Proofs.YtlnaebejmjmepaaGreatDoor
open Go.LA Go.ArrP Go.RowKit
theorem xnA (lo hi:Nat):rng (λ _=>false) lo hi=itv lo hi:=by funext y;unfold rng itv;rw [Bool.false_or]
theorem ynA:b9A (itv 65535 65538)=[0,1]:=by
 refine u9A (by unfold Inc;decide) (λ z=>?_)
 constructor
 ·intro h
  simp only [List.mem_cons,List.not_mem_nil,or_false] at h
  rcases h with rfl|rfl
  ·exact ⟨0,by decide,ne_iff.2 ⟨65535,by decide,by decide⟩,rfl⟩
  ·exact ⟨1,by decide,ne_iff.2 ⟨0,by decide,by decide⟩,rfl⟩
 ·rintro ⟨i,h1,h2,rfl⟩
  obtain ⟨j,h3,h4⟩:=ne_iff.1 h2;have:=itv_iff.1 h4;simp only [List.mem_cons,List.not_mem_nil,or_false];omega
theorem biB:cnt (itv 65535 65538) TOP=3:=by rw [mpA,crA];decide
theorem ymA:cnt (itv 65535 65538) (min 65537 TOP)=2:=by rw [mpA,crA];decide
theorem kn_sp:spL (l5A 4 (buA [5,1])) TOP=[(0,1),(2,4)]:=by
 have hm:∀ x,l5A 4 (buA [5,1]) x=true↔x=0∨x=2∨x=3:=λ x=>by
  unfold l5A buA;rw [Bool.and_eq_true,Bool.not_eq_true',decide_eq_true_iff,decide_eq_false_iff_not,crA];simp only [List.mem_cons,List.not_mem_nil,or_false];omega
 have hf:∀ x,¬ (x=0∨x=2∨x=3)→l5A 4 (buA [5,1]) x=false:=λ x h=>by
  cases h1:l5A 4 (buA [5,1]) x
  ·rfl
  ·exact absurd ((hm x).1 h1) h
 have h1:=m7A (p:=l5A 4 (buA [5,1])) (a:=0) (lo:=0) (hi:=1) (b:=1) (l:=[]) (e8A _) (.inr ⟨rfl,rfl⟩) dZ dZ (λ x _ h=>by omega) (λ x _ h=>(hm x).2 oZ) (λ x h1 h2=>by omega);exact m7A (lo:=2) (hi:=4) h1 (.inl dZ) dZ (by rw [crA];decide) (λ x h1 h2=>hf x oZ) (λ x h1 h2=>(hm x).2 oZ) (λ x h1 h2=>hf x oZ)
theorem r0A (w:World) (hT:Tab w):Fc Tryz.prog 5 #[] w (Ret w (.val (.bool true))):=by
 have htop:=crA;refine Fc.of (args:=[]) Tryz.func5 rfl rfl Tryz.ntmps5 nZ ?_
 repeat' (first|(refine yL ?_;first|refine a0A rfl ?_|(refine oD 5 ?_;refine a4A (hK _ _ (bkA 1 rfl (λ v1 w1 e1 h1=>?_)));clear hK K;obtain ⟨b,kv0,lv0,rfl,hS0,hB0⟩:=h1;refine aiA kZ (λ K hK=>ddA rfl rfl ?_))|(refine oD 6 ?_;refine a4A (hK _ _ (cbA rfl dZ rfl rfl rfl rfl (λ v w'=>v=.tuple #[]∧∃ wz,Ext w1 wz∧Mut TT wz b kv0 lv0 (itv 65535 65538) w') (λ w8 e8=>?_) (λ v w2 hm=>?_)));clear hK K)|refine yO ?_|(refine yC ?_ ?_<;>intro hc)|(refine yV ?_;first|(refine oC 17 ?_;refine cjA (f:=17) rfl rfl  (.pred (rsP (λ k=>w.heap.size≤k) TT (λ _=>false))) (by intro w e;exact new_c _ (λ k hk=>Nat.le_trans e.size hk)) ?_))|(refine yN hK ?_;clear hK K))|refine wG ?_|(refine yR ?_;intro K hK)|fail)
 ·have:=g2A (e1.trans e8) hT hB0 (hS0.ext e8) tt (lo:=65535) (hi:=65538) dZ dZ
  rw [xnA,show min 65538 TOP=65538 by omega] at this;exact this.mono λ en w' h=>⟨_,h.1,rfl,_,e8,h.2⟩
 obtain ⟨rfl,wz,ez,kv,lv,hS,hF,hl1,hl2⟩:=hm;have x2:=Fr.ext (e1.trans ez) hF hB0;have hN:NSet TT TT w2 (.pointer (some ⟨b,0,none⟩)) (itv 65535 65538):=.inr ⟨b,kv,lv,rfl,hS,λ _ _=>trivial⟩;have hT2:=hT.ext x2;have hkeys:∀ w',Ext w2 w'→_:=λ w' e=>ikA (hN.ext e)
 have hlen:∀ w',Ext w2 w'→_:=λ w' e=>yjA (hN.ext e)
 have hrank:∀ w',Ext w2 w'→_:=λ w' e=>wcA (x:=65537) (hN.ext e) dZ
 have hruns:∀ w',Ext w2 w'→∀ u,RSet TT TT w' u (l5A 4 (buA [5,1]))→_:=λ w' e u hu=>lbA (B:=TT) (A:=TT) (.inr hu) (hT2.ext e)
 rw [ynA] at hkeys;rw [biB] at hlen;rw [ymA] at hrank;rw [kn_sp] at hruns;clear hS hF htop
 repeat' (first|(refine yL ?_;first|refine a0A rfl ?_|(refine oD 9 ?_;refine oiA rfl wpA rfl rfl rfl rfl ?_)|(refine oD 23 ?_;refine ahA (j:=1) rfl _ rfl (λ _=>rfl) rfl HasI.own rfl dZ ?_)|(refine oD 18 ?_;refine asA (n:=2) rfl _ rfl rfl HasI.own.c ?_)|(refine oD 24 ?_;refine esA (c:=.int .u16 1) rfl (λ _=>rfl) rfl ?_)|(refine oD 36 ?_;refine znA rfl feA rfl rfl ?_)|(refine oD 34 ?_;refine cqA (c:=spV .u64 (0,1)) rfl rfl rfl (λ w=>run_build w _ _ _ kZ) ?_)|(refine oD 35 ?_;refine cqA (c:=spV .u64 (2,4)) rfl rfl rfl (λ w=>run_build w _ _ _ kZ) ?_)|refine yO ?_|(refine yC ?_ ?_<;>intro hc)|(refine yV ?_;first|(refine oC 14 ?_;refine a2A (f:=14) rfl rfl rfl  (.pred (bnA w2.heap.size tK .u16 [0,1])) (by intro u1 w e hu1;(try obtain rfl:u1=_:=hu1);exact (hkeys _ e).mono (aaA e.size)) ?_)|(refine oC 35 ?_;refine a2A (f:=35) rfl rfl rfl  (.pred (rsP TT TT (buA [5,1]))) (by intro u1 w e hu1;(try obtain rfl:u1=_:=hu1);exact of_s (ys:=[5,1]) (Own.slC hu1) (by intro x hx;simp only [List.mem_cons,List.not_mem_nil,or_false] at hx;omega) dZ (hT2.ext e) tt tt) ?_)|(refine oC 31 ?_;refine a3A (f:=31) rfl rfl rfl rfl  (.pred (rsP TT TT (l5A 4 (buA [5,1])))) (by intro u1 u2 w e hu1 hu2;(try obtain rfl:u1=_:=hu1);(try obtain rfl:u2=_:=hu2);exact b6B (n:=4) (B1:=TT) (.inr hu1) dZ (hT2.ext e) tt tt) ?_)|(refine oC 34 ?_;refine a2A (f:=34) rfl rfl rfl  (.pred (etA w2.heap.size tSp .u64 [(0,1),(2,4)])) (by intro u1 w e hu1;(try obtain rfl:u1=_:=hu1);exact (hruns _ e _ hu1).mono (biA e.size rfl)) ?_)|(refine oC 36 ?_;refine a2A (f:=36) rfl rfl rfl  (.val (.int .i64 3)) (by intro u1 w e hu1;(try obtain rfl:u1=_:=hu1);exact hlen _ e) ?_)|(refine oC 37 ?_;refine a3A (f:=37) rfl rfl rfl rfl  (.val (.int .i64 2)) (by intro u1 u2 w e hu1 hu2;(try obtain rfl:u1=_:=hu1);(try obtain rfl:u2=_:=hu2);exact hrank _ e) ?_)|(refine oC 33 ?_;refine a3A (f:=33) rfl rfl rfl rfl  (.val (.bool true)) (by intro u1 u2 w e hu1 hu2;(try obtain rfl:u1=_:=hu1);(try obtain rfl:u2=_:=hu2);exact arA (by rw [decide_eq_true rfl]) (jyA _ _ _ [(0,1),(2,4)] [(0,1),(2,4)] (OwnP.slP hu1) (Own.slC hu2))) ?_))|(refine yN hK ?_;clear hK K))|refine wG ?_|(refine yR ?_;intro K hK)|fail)
 all_goals exact a9A rfl rfl x2 rfl
theorem fgA:El Tryz.prog 28 42 (.agg #[.int .u64 0,.int .u64 0]) 2 16:=⟨rfl,rfl,rfl,by decide⟩
theorem i8A (w:World) {lo hi:Nat} (hlo:lo<18446744073709551616) (hhi:hi<18446744073709551616):Fc Tryz.prog 26 #[.int .u64 lo,.int .u64 hi] w (Ret w (.pred (etA w.heap.size tSp .u64 (spL (itv lo (min hi TOP)) TOP)))):=by
 rw [aiB _ _ _ (Nat.min_le_right _ _)];have htop:=crA;obtain ⟨H,hH⟩:∃ H,H=min hi TOP:=⟨_,rfl⟩;rw [← hH]
 by_cases h1:hi≤4294967296
 ·obtain rfl:H=hi:=oZ
  clear hH htop
  by_cases h2:lo<H
  ·rw [if_pos h2]
   refine Fc.of (args:=[_,_]) Tryz.func26 rfl rfl Tryz.ntmps26 nZ ?_
   repeat' (first|(refine yL ?_;first|refine a0A rfl ?_|(refine oD 12 ?_;refine cqA (c:=spV .u64 (lo,H)) rfl rfl rfl (λ w=>run_build w _ _ _ kZ) ?_)|(refine oD 13 ?_;refine e3A rfl fgA rfl rfl dZ ?_)|refine yO ?_|(refine yC ?_ ?_<;>intro hc)|(refine yN hK ?_;clear hK K))|refine wG ?_|(refine yR ?_;intro K hK)|fail)
   exact ajA rfl rfl (Ext.refl _) (λ _ _ _ hv=>hv)
  ·rw [if_neg h2]
   refine Fc.of (args:=[_,_]) Tryz.func26 rfl rfl Tryz.ntmps26 nZ ?_
   repeat' (first|(refine yL ?_;first|refine a0A rfl ?_|refine yO ?_|(refine yC ?_ ?_<;>intro hc)|(refine yN hK ?_;clear hK K))|refine wG ?_|(refine yR ?_;intro K hK)|fail)
   exact ajA rfl rfl (Ext.refl _) (λ v _ _ hv=>by obtain rfl:v=_:=hv;exact OwnP.nil)
 ·have hHe:H=4294967296:=oZ
  subst hHe;clear hH htop
  by_cases h2:lo<4294967296
  ·rw [if_pos h2]
   refine Fc.of (args:=[_,_]) Tryz.func26 rfl rfl Tryz.ntmps26 nZ ?_
   repeat' (first|(refine yL ?_;first|refine a0A rfl ?_|(refine oD 12 ?_;refine cqA (c:=spV .u64 (lo,(4294967296:Nat))) rfl rfl rfl (λ w=>run_build w _ _ _ kZ) ?_)|(refine oD 13 ?_;refine e3A rfl fgA rfl rfl dZ ?_)|refine yO ?_|(refine yC ?_ ?_<;>intro hc)|(refine yN hK ?_;clear hK K))|refine wG ?_|(refine yR ?_;intro K hK)|fail)
   exact ajA rfl rfl (Ext.refl _) (λ _ _ _ hv=>hv)
  ·rw [if_neg h2]
   refine Fc.of (args:=[_,_]) Tryz.func26 rfl rfl Tryz.ntmps26 nZ ?_
   repeat' (first|(refine yL ?_;first|refine a0A rfl ?_|refine yO ?_|(refine yC ?_ ?_<;>intro hc)|(refine yN hK ?_;clear hK K))|refine wG ?_|(refine yR ?_;intro K hK)|fail)
   exact ajA rfl rfl (Ext.refl _) (λ v _ _ hv=>by obtain rfl:v=_:=hv;exact OwnP.nil)
def kk (x:Sp):Int:=if x.1<x.2∧x.1<4294967296 then min x.2 4294967296-x.1 else 0
def rdA (xs:List Sp):Nat→Int
 | 0=>0
 | i+1=>if (xs.getD i (0,0)).1<(xs.getD i (0,0)).2∧(xs.getD i (0,0)).1<4294967296 then IntKind.u64.wrap (rdA xs i+kk (xs.getD i (0,0))) else rdA xs i
theorem rcA (xs:List Sp) (i:Nat):rdA xs (i+1)=if (xs.getD i (0,0)).1<(xs.getD i (0,0)).2∧(xs.getD i (0,0)).1<4294967296 then IntKind.u64.wrap (rdA xs i+kk (xs.getD i (0,0))) else rdA xs i:=rfl
noncomputable def grt (xs:List Sp):Bool:=cdec (∃ j,j<xs.length∧200000<kk (xs.getD j (0,0))) || (decide (60<xs.length) || decide (300000<rdA xs xs.length))
theorem ysA {w:World} {v:Value} {xs:List Sp} (h:SlP .u64 w v xs) (hx:U64 xs):Fc Tryz.prog 18 #[v] w (Ret w (.val (.bool (grt xs)))):=by
 have hlen:=h.len;refine Fc.of (args:=[_]) Tryz.func18 rfl rfl Tryz.ntmps18 nZ ?_
 repeat' (first|(refine yL ?_;first|refine a0A rfl ?_|(refine c7A ?_;refine b3A rfl _ rfl rfl (HasP.val h) ?_)|refine yO ?_|(refine yC ?_ ?_<;>intro hc)|(refine yN hK ?_;clear hK K))|refine wG ?_|(refine yR ?_;intro K hK)|fail)
 refine b5A (ι:=Nat) (λ i=>[(0,.val v),(3,.val (.int .u64 (rdA xs i))),(7,.val (.int .i64 xs.length)),(8,.val (.int .i64 i))]) (λ i=>i≤xs.length∧∀ j,j<i→kk (xs.getD j (0,0))≤200000) (λ i=>xs.length-i) 0 ⟨Nat.zero_le _,λ j hj=>absurd hj (Nat.not_lt_zero j)⟩ sZ ?_
 rintro i ⟨hi,hk0⟩
 by_cases hil:i<xs.length
 ·obtain ⟨u1,u2,u3,u4⟩:=hx _ (iqA hil)
  have hg:=rcA xs i;have hb:200000<kk (xs.getD i (0,0))→grt xs=true:=λ h=>by unfold grt;rw [cdec_iff.2 ⟨i,hil,h⟩];rfl
  have hk1:kk (xs.getD i (0,0))≤200000→∀ j,j<i+1→kk (xs.getD j (0,0))≤200000:=λ h j hj=>by
   by_cases e:j<i
   ·exact hk0 j e
   ·obtain rfl:j=i:=oZ
    exact h
  have hkk:kk (xs.getD i (0,0))=if (xs.getD i (0,0)).1<(xs.getD i (0,0)).2∧(xs.getD i (0,0)).1<4294967296 then min (xs.getD i (0,0)).2 4294967296-(xs.getD i (0,0)).1 else 0:=rfl
  obtain ⟨k,hk⟩:∃ k,k=kk (xs.getD i (0,0)):=⟨_,rfl⟩;rw [← hk] at hg hb hk1 hkk;obtain ⟨lo,hlo⟩:∃ lo,(xs.getD i (0,0)).1=lo:=⟨_,rfl⟩;obtain ⟨hi',hhi⟩:∃ hi,(xs.getD i (0,0)).2=hi:=⟨_,rfl⟩;rw [hlo,hhi] at hg hkk;rw [hlo] at u1 u2;rw [hhi] at u3 u4;obtain ⟨s0,hs0⟩:∃ s,s=rdA xs i:=⟨_,rfl⟩;obtain ⟨s1,hs1⟩:∃ s,s=rdA xs (i+1):=⟨_,rfl⟩;rw [← hs0,← hs1] at hg;rw [← hs0];clear hs0 hk hk0
  by_cases c1:lo<hi'
  ·by_cases c2:lo<4294967296
   ·rw [if_pos ⟨c1,c2⟩] at hg hkk
    by_cases c3:200000<k
    ·rw [hb c3]
     clear hg hb hk1 hs1 hx
     repeat' (first|(refine yL ?_;first|refine a0A rfl ?_|(refine oI ?_;refine atA rfl _ rfl (λ _=>rfl) rfl (HasP.val h) rfl hil ?_;rw [hlo,hhi])|(refine oF 0 ?_;refine acA (f:=0) (o:=0) rfl rfl (λ _ _=>rfl) ?_)|(refine oF 1 ?_;refine acA (f:=1) (o:=1) rfl rfl (λ _ _=>rfl) ?_)|(refine oL ?_;refine ayA rfl (λ _=>rfl) rfl rfl ?_)|(refine cwA rfl rfl rfl ?_)|(refine oD 41 ?_;refine abA rfl rfl rfl fZ ?_;rw [← hkk])|refine yO ?_|(refine yC ?_ ?_<;>intro hc)|(refine yN hK ?_;clear hK K))|refine wG ?_|(refine yR ?_;intro K hK)|fail)
     exact a9A rfl rfl (Ext.refl _) rfl
    ·replace hk1:=hk1 oZ
     clear hb hx
     repeat' (first|(refine yL ?_;first|refine a0A rfl ?_|(refine oI ?_;refine atA rfl _ rfl (λ _=>rfl) rfl (HasP.val h) rfl hil ?_;rw [hlo,hhi])|(refine oF 0 ?_;refine acA (f:=0) (o:=0) rfl rfl (λ _ _=>rfl) ?_)|(refine oF 1 ?_;refine acA (f:=1) (o:=1) rfl rfl (λ _ _=>rfl) ?_)|(refine oL ?_;refine ayA rfl (λ _=>rfl) rfl rfl ?_)|(refine cwA rfl rfl rfl ?_)|(refine oD 41 ?_;refine abA rfl rfl rfl fZ ?_;rw [← hkk])|(refine oD 46 ?_;refine l3A rfl rfl rfl ?_;rw [← hg])|refine yO ?_|(refine yC ?_ ?_<;>intro hc)|(refine yN hK ?_;clear hK K))|refine wG ?_|(refine yR ?_;intro K hK)|fail)
     exact bpA (i+1) ⟨hil,hk1⟩ oZ (by rw [← hs1];(repeat' (first|exact Sub.nil|(refine Sub.val rfl ?_ ?_;first|with_reducible rfl|(congr 1;omega))|refine Sub.same rfl ?_));done)
   ·rw [if_neg (λ h=>c2 h.2)] at hg hkk
    replace hk1:=hk1 oZ;clear hb hx;subst hg
    repeat' (first|(refine yL ?_;first|refine a0A rfl ?_|(refine oI ?_;refine atA rfl _ rfl (λ _=>rfl) rfl (HasP.val h) rfl hil ?_;rw [hlo,hhi])|(refine oF 0 ?_;refine acA (f:=0) (o:=0) rfl rfl (λ _ _=>rfl) ?_)|(refine oF 1 ?_;refine acA (f:=1) (o:=1) rfl rfl (λ _ _=>rfl) ?_)|(refine oL ?_;refine ayA rfl (λ _=>rfl) rfl rfl ?_)|(refine cwA rfl rfl rfl ?_)|(refine oD 41 ?_;refine abA rfl rfl rfl fZ ?_;rw [← hkk])|refine yO ?_|(refine yC ?_ ?_<;>intro hc)|(refine yN hK ?_;clear hK K))|refine wG ?_|(refine yR ?_;intro K hK)|fail)
    exact bpA (i+1) ⟨hil,hk1⟩ oZ (by rw [← hs1];(repeat' (first|exact Sub.nil|(refine Sub.val rfl ?_ ?_;first|with_reducible rfl|(congr 1;omega))|refine Sub.same rfl ?_));done)
  ·rw [if_neg (λ h=>c1 h.1)] at hg hkk
   replace hk1:=hk1 oZ;clear hb hx;subst hg
   repeat' (first|(refine yL ?_;first|refine a0A rfl ?_|(refine oI ?_;refine atA rfl _ rfl (λ _=>rfl) rfl (HasP.val h) rfl hil ?_;rw [hlo,hhi])|(refine oF 0 ?_;refine acA (f:=0) (o:=0) rfl rfl (λ _ _=>rfl) ?_)|(refine oF 1 ?_;refine acA (f:=1) (o:=1) rfl rfl (λ _ _=>rfl) ?_)|(refine oL ?_;refine ayA rfl (λ _=>rfl) rfl rfl ?_)|(refine cwA rfl rfl rfl ?_)|(refine oD 41 ?_;refine abA rfl rfl rfl fZ ?_;rw [← hkk])|refine yO ?_|(refine yC ?_ ?_<;>intro hc)|(refine yN hK ?_;clear hK K))|refine wG ?_|(refine yR ?_;intro K hK)|fail)
   exact bpA (i+1) ⟨hil,hk1⟩ oZ (by rw [← hs1];(repeat' (first|exact Sub.nil|(refine Sub.val rfl ?_ ?_;first|with_reducible rfl|(congr 1;omega))|refine Sub.same rfl ?_));done)
 ·obtain rfl:i=xs.length:=oZ
  have hno:cdec (∃ j,j<xs.length∧200000<kk (xs.getD j (0,0)))=false:=by
   rw [Bool.eq_false_iff];intro hc;obtain ⟨j,h1,h2⟩:=cdec_iff.1 hc;have:=hk0 j h1;omega
  have hgr:grt xs=(decide (60<xs.length) || decide (300000<rdA xs xs.length)):=by unfold grt;rw [hno,Bool.false_or]
  obtain ⟨s,hs⟩:∃ s,s=rdA xs xs.length:=⟨_,rfl⟩;rw [← hs] at hgr ⊢;clear hno hs hk0
  by_cases c1:60<xs.length
  ·rw [decide_eq_true c1,Bool.true_or] at hgr
   rw [hgr]
   repeat' (first|(refine yL ?_;first|refine a0A rfl ?_|(refine c7A ?_;refine b3A rfl _ rfl rfl (HasP.val h) ?_)|refine yO ?_|(refine yC ?_ ?_<;>intro hc)|(refine yN hK ?_;clear hK K))|refine wG ?_|(refine yR ?_;intro K hK)|fail)
   exact a9A rfl rfl (Ext.refl _) rfl
  ·rw [decide_eq_false c1,Bool.false_or] at hgr
   rw [hgr]
   by_cases c2:300000<s
   ·rw [decide_eq_true c2]
    repeat' (first|(refine yL ?_;first|refine a0A rfl ?_|(refine c7A ?_;refine b3A rfl _ rfl rfl (HasP.val h) ?_)|refine yO ?_|(refine yC ?_ ?_<;>intro hc)|(refine yN hK ?_;clear hK K))|refine wG ?_|(refine yR ?_;intro K hK)|fail)
    exact a9A rfl rfl (Ext.refl _) rfl
   ·rw [decide_eq_false c2]
    repeat' (first|(refine yL ?_;first|refine a0A rfl ?_|(refine c7A ?_;refine b3A rfl _ rfl rfl (HasP.val h) ?_)|refine yO ?_|(refine yC ?_ ?_<;>intro hc)|(refine yN hK ?_;clear hK K))|refine wG ?_|(refine yR ?_;intro K hK)|fail)
    exact a9A rfl rfl (Ext.refl _) rfl
theorem wqA {w:World} {v:Value} {S:List Sp} {lo hi:Nat→Nat} (h:SlP .u64 w v S) (hS:∀ i,i<S.length→S.getD i (0,0)=((lo i:Int),(hi i:Int))) (i:Nat) (b:Bool) :
 Fc Tryz.prog 66 #[v,.int .i64 i,.bool b] w (Ret w (.val (.int .u64 (ciA S.length lo hi i b)))):=by
 have hlen:=h.len
 by_cases h1:S.length≤i
 ·have he:ciA S.length lo hi i b=4611686018427387904:=by unfold ciA;rw [if_pos h1]
  rw [he];refine Fc.of (args:=[_,_,_]) Tryz.func66 rfl rfl Tryz.ntmps66 nZ ?_
  repeat' (first|(refine yL ?_;first|refine a0A rfl ?_|(refine c7A ?_;refine b3A rfl _ rfl rfl (HasP.val h) ?_)|refine yO ?_|(refine yC ?_ ?_<;>intro hc)|(refine yN hK ?_;clear hK K))|refine wG ?_|(refine yR ?_;intro K hK)|fail)
  exact a9A rfl rfl (Ext.refl _) rfl
 ·have hSi:=hS i oZ
  cases b with
  | true =>
    have he:ciA S.length lo hi i true=hi i:=by unfold ciA;rw [if_neg h1];rfl
    rw [he];refine Fc.of (args:=[_,_,_]) Tryz.func66 rfl rfl Tryz.ntmps66 nZ ?_
    repeat' (first|(refine yL ?_;first|refine a0A rfl ?_|(refine c7A ?_;refine b3A rfl _ rfl rfl (HasP.val h) ?_)|(refine oI ?_;refine atA rfl _ rfl (λ _=>rfl) rfl (HasP.val h) rfl oZ ?_;rw [hSi])|(refine oF 1 ?_;refine acA (f:=1) (o:=1) rfl rfl (λ _ _=>rfl) ?_)|(refine oL ?_;refine ayA rfl (λ _=>rfl) rfl rfl ?_)|refine yO ?_|(refine yC ?_ ?_<;>intro hc)|(refine yN hK ?_;clear hK K))|refine wG ?_|(refine yR ?_;intro K hK)|fail)
    exact a9A rfl rfl (Ext.refl _) rfl
  | false =>
    have he:ciA S.length lo hi i false=lo i:=by unfold ciA;rw [if_neg h1];rfl
    rw [he];refine Fc.of (args:=[_,_,_]) Tryz.func66 rfl rfl Tryz.ntmps66 nZ ?_
    repeat' (first|(refine yL ?_;first|refine a0A rfl ?_|(refine c7A ?_;refine b3A rfl _ rfl rfl (HasP.val h) ?_)|(refine oI ?_;refine atA rfl _ rfl (λ _=>rfl) rfl (HasP.val h) rfl oZ ?_;rw [hSi])|(refine oF 0 ?_;refine acA (f:=0) (o:=0) rfl rfl (λ _ _=>rfl) ?_)|(refine oL ?_;refine ayA rfl (λ _=>rfl) rfl rfl ?_)|refine yO ?_|(refine yC ?_ ?_<;>intro hc)|(refine yN hK ?_;clear hK K))|refine wG ?_|(refine yR ?_;intro K hK)|fail)
    exact a9A rfl rfl (Ext.refl _) rfl
def opF (what:Int) (x y:Bool):Bool:=if what=1 then x && y else if what=2 then x || y else if what=3 then x && !y else !(x == y)
theorem u0A (what:Int):opF what false false=false:=by
 unfold opF
 split
 ·rfl
 ·split
  ·rfl
  ·split <;> rfl
theorem in_c (w:World) (x y:Bool) (what:Int):Fc Tryz.prog 67 #[.bool x,.bool y,.int .i64 what] w (Ret w (.val (.bool (opF what x y)))):=by
 by_cases h1:what=1
 ·have hop:opF what x y=(x && y):=by unfold opF;rw [if_pos h1]
  rw [hop];cases x <;> cases y
  all_goals
   refine Fc.of (args:=[_,_,_]) Tryz.func67 rfl rfl Tryz.ntmps67 nZ ?_
   repeat' (first|(refine yL ?_;first|refine a0A rfl ?_|refine yO ?_|(refine yC ?_ ?_<;>intro hc)|(refine yN hK ?_;clear hK K))|refine wG ?_|(refine yR ?_;intro K hK)|fail)
   exact a9A rfl rfl (Ext.refl _) rfl
 ·by_cases h2:what=2
  ·have hop:opF what x y=(x || y):=by unfold opF;rw [if_neg h1,if_pos h2]
   rw [hop];cases x <;> cases y
   all_goals
    refine Fc.of (args:=[_,_,_]) Tryz.func67 rfl rfl Tryz.ntmps67 nZ ?_
    repeat' (first|(refine yL ?_;first|refine a0A rfl ?_|refine yO ?_|(refine yC ?_ ?_<;>intro hc)|(refine yN hK ?_;clear hK K))|refine wG ?_|(refine yR ?_;intro K hK)|fail)
    exact a9A rfl rfl (Ext.refl _) rfl
  ·by_cases h3:what=3
   ·have hop:opF what x y=(x && !y):=by unfold opF;rw [if_neg h1,if_neg h2,if_pos h3]
    rw [hop];cases x <;> cases y
    all_goals
     refine Fc.of (args:=[_,_,_]) Tryz.func67 rfl rfl Tryz.ntmps67 nZ ?_
     repeat' (first|(refine yL ?_;first|refine a0A rfl ?_|refine yO ?_|(refine yC ?_ ?_<;>intro hc)|(refine yN hK ?_;clear hK K))|refine wG ?_|(refine yR ?_;intro K hK)|fail)
     exact a9A rfl rfl (Ext.refl _) rfl
   ·have hop:opF what x y=!(x == y):=by unfold opF;rw [if_neg h1,if_neg h2,if_neg h3]
    rw [hop];cases x <;> cases y
    all_goals
     refine Fc.of (args:=[_,_,_]) Tryz.func67 rfl rfl Tryz.ntmps67 nZ ?_
     repeat' (first|(refine yL ?_;first|refine a0A rfl ?_|refine yO ?_|(refine yC ?_ ?_<;>intro hc)|(refine yN hK ?_;clear hK K))|refine wG ?_|(refine yR ?_;intro K hK)|fail)
     exact a9A rfl rfl (Ext.refl _) rfl
theorem eqA (w:World) {va vb:Value} {p q:Nat→Bool} (what:Int) (ha:SlP .u64 w va (spL p TOP)) (hb:SlP .u64 w vb (spL q TOP)) :
 Fc Tryz.prog 23 #[va,vb,.int .i64 what] w (Ret w (.pred (etA w.heap.size tSp .u64 (spL (two (opF what) p q) TOP)))):=by
 have htop:=crA;obtain ⟨lo,hi,W,hS⟩:=ffA p TOP;obtain ⟨lo',hi',W',hS'⟩:=ffA q TOP;have hed:∀ w',Ext w w'→∀ (i:Nat) (b:Bool),_:=λ w' e i b=>wqA (ha.ext e) hS i b
 have hed':∀ w',Ext w w'→∀ (i:Nat) (b:Bool),_:=λ w' e i b=>wqA (hb.ext e) hS' i b
 have hsl:∀ t,t≤TOP→(spL (two (opF what) p q) t).length≤4294967296:=λ t ht=>by
  have h1:=n5A (two (opF what) p q) t;have h2:=cnt_le (two (opF what) p q) t;omega
 have hstep:∀ {i k:Nat} {x y:Bool} {last next:Nat},EdgeOK p TOP (spL p TOP).length lo hi i x last→EdgeOK q TOP (spL q TOP).length lo' hi' k y last→next≤ciA (spL p TOP).length lo hi i x→next≤ciA (spL q TOP).length lo' hi' k y→next≤TOP→∀ t,last≤t→t<next→two (opF what) p q t=opF what x y :=
  λ h h' h1 h2 h3=>ryA h h' h1 h2 h3
 have hal:=ha.len;have hbl:=hb.len;obtain ⟨S,hSd⟩:∃ S,S=spL p TOP:=⟨_,rfl⟩;obtain ⟨S',hSd'⟩:∃ S',S'=spL q TOP:=⟨_,rfl⟩;rw [← hSd] at ha W hed hal hstep;rw [← hSd'] at hb W' hed' hbl hstep;obtain ⟨r,hr⟩:∃ r,r=two (opF what) p q:=⟨_,rfl⟩;rw [← hr] at hsl hstep ⊢;clear hr hSd hSd' hS hS';refine Fc.of (args:=[_,_,_]) Tryz.func23 rfl rfl Tryz.ntmps23 nZ ?_
 repeat' (first|(refine yL ?_;first|refine a0A rfl ?_|refine yO ?_|(refine yC ?_ ?_<;>intro hc)|(refine yN hK ?_;clear hK K))|refine wG ?_|(refine yR ?_;intro K hK)|fail)
 refine agA (ι:=Nat × Nat × Bool × Bool × Nat × Value) (λ j=>[(0,.val va),(1,.val vb),(2,.val (.int .i64 what)),(7,.val j.2.2.2.2.2),(8,.val (.int .i64 j.1)),(9,.val (.int .i64 j.2.1)),(10,.val (.bool j.2.2.1)),(11,.val (.bool j.2.2.2.1)),(12,.val (.int .u64 j.2.2.2.2.1))])
  (λ j w'=>Ext w w'∧EdgeOK p TOP S.length lo hi j.1 j.2.2.1 j.2.2.2.2.1∧EdgeOK q TOP S'.length lo' hi' j.2.1 j.2.2.2.1 j.2.2.2.2.1∧j.2.2.2.2.1≤TOP∧OwnP w.heap.size tSp .u64 w' j.2.2.2.2.2 (spL r j.2.2.2.2.1))
  (λ j=>(2*(S.length-j.1)+(if j.2.2.1 then 0 else 1))+(2*(S'.length-j.2.1)+(if j.2.2.2.1 then 0 else 1)))
  (λ w2 e2=>⟨(0,0,false,false,0,.slice none 0 0),⟨e2,jjA W,jjA W',Nat.zero_le _,by dsimp only;rw [e8A];exact OwnP.nil⟩,sZ⟩) ?_
 rintro ⟨i,k,x,y,last,v⟩ w1 ⟨he,hE,hE',hT,ho⟩;dsimp only at hE hE' hT ho ⊢;have hin':=hE.le;have hkn':=hE'.le
 by_cases hend:S.length≤i∧S'.length≤k
 ·have hx:x=false:=by
   cases hx:x with
   | false=>rfl
   | true=>have:=hE.inn hx;omega
  have hy:y=false:=by
   cases hy:y with
   | false=>rfl
   | true=>have:=hE'.inn hy;omega
  have hfl:spL r TOP=spL r last:=deA hT (λ t h1 h2=>by
   have e1:ciA S.length lo hi i x=4611686018427387904:=by unfold ciA;rw [if_pos hend.1]
   have e2:ciA S'.length lo' hi' k y=4611686018427387904:=by unfold ciA;rw [if_pos hend.2]
   have:=hstep hE hE' (next:=TOP) oZ oZ (Nat.le_refl _) t h1 h2;rw [this,hx,hy];exact u0A what)
  rw [hfl];clear hstep hsl
  repeat' (first|(refine yL ?_;first|refine a0A rfl ?_|(refine oD 19 ?_;refine b3A rfl _ rfl rfl (HasP.val (ha.ext he)) ?_)|(refine oD 24 ?_;refine b3A rfl _ rfl rfl (HasP.val (hb.ext he)) ?_)|refine yO ?_|(refine yC ?_ ?_<;>intro hc)|(refine yN hK ?_;clear hK K))|refine wG ?_|(refine yR ?_;intro K hK)|fail)
  exact ajA rfl rfl he (λ u w5 e5 hu=>by obtain rfl:u=_:=hu;exact ho.ext e5)
 ·have hP1:=hE.ge
  have hQ1:=hE'.ge;have hin2:¬ ciA S.length lo hi i x=4611686018427387904→i<S.length:=λ h=>by
   by_cases e:i<S.length
   ·exact e
   ·exact absurd (by unfold ciA;rw [if_pos oZ]) h
  have hkn2:¬ ciA S'.length lo' hi' k y=4611686018427387904→k<S'.length:=λ h=>by
   by_cases e:k<S'.length
   ·exact e
   ·exact absurd (by unfold ciA;rw [if_pos oZ]) h
  have hb1:i<S.length→ciA S.length lo hi i x≤TOP:=λ h=>rjA W h
  have hb2:k<S'.length→ciA S'.length lo' hi' k y≤TOP:=λ h=>rjA W' h
  have hst:=λ next=>hstep hE hE' (next:=next)
  have hA:=λ next=>lrA hE (next:=next)
  have hC:=λ next=>lrA hE' (next:=next)
  have hAt:x=true→EdgeOK p TOP S.length lo hi (i+1) false (ciA S.length lo hi i x):=λ h=>by subst h;exact nyA W oZ hE
  have hAf:x=false→i<S.length→EdgeOK p TOP S.length lo hi i true (ciA S.length lo hi i x):=λ h h'=>by subst h;exact riA W hE h'
  have hCt:y=true→EdgeOK q TOP S'.length lo' hi' (k+1) false (ciA S'.length lo' hi' k y):=λ h=>by subst h;exact nyA W' oZ hE'
  have hCf:y=false→k<S'.length→EdgeOK q TOP S'.length lo' hi' k true (ciA S'.length lo' hi' k y):=λ h h'=>by subst h;exact riA W' hE' h'
  have hq1:∀ w',Ext w w'→Fc Tryz.prog 66 #[va,.int .i64 i,.bool x] w' (Ret w' (.val (.int .u64 (ciA S.length lo hi i x)))):=λ w' e=>hed w' e i x
  have hq2:∀ w',Ext w w'→Fc Tryz.prog 66 #[vb,.int .i64 k,.bool y] w' (Ret w' (.val (.int .u64 (ciA S'.length lo' hi' k y)))):=λ w' e=>hed' w' e k y
  obtain ⟨P0,hP0⟩:∃ P0,P0=ciA S.length lo hi i x:=⟨_,rfl⟩;obtain ⟨Q0,hQ0⟩:∃ Q0,Q0=ciA S'.length lo' hi' k y:=⟨_,rfl⟩;rw [← hP0] at hP1 hin2 hb1 hst hA hAt hAf hq1;rw [← hQ0] at hQ1 hkn2 hb2 hst hC hCt hCf hq2;clear hed hed' hstep hE hE' hP0 hQ0;obtain ⟨N,hN⟩:∃ N,N=min P0 Q0:=⟨_,rfl⟩;have hNT:N≤TOP:=by
   by_cases e:i<S.length
   ·have:=hb1 e;omega
   ·have:=hb2 oZ;omega
  have hin:P0=N→i<S.length:=λ h=>hin2 oZ
  have hkn:Q0=N→k<S'.length:=λ h=>hkn2 oZ
  have hlN:last≤N:=oZ;have hst':=hst N oZ oZ hNT;have hA0:=hA N hlN oZ;have hC0:=hC N hlN oZ;have hAt':x=true→P0=N→EdgeOK p TOP S.length lo hi (i+1) false N:=λ h h'=>h'▸hAt h
  have hAf':x=false→P0=N→EdgeOK p TOP S.length lo hi i true N:=λ h h'=>h'▸hAf h (hin h')
  have hCt':y=true→Q0=N→EdgeOK q TOP S'.length lo' hi' (k+1) false N:=λ h h'=>h'▸hCt h
  have hCf':y=false→Q0=N→EdgeOK q TOP S'.length lo' hi' k true N:=λ h h'=>h'▸hCf h (hkn h')
  have hsl1:=hsl last hT;clear hst hA hC hAt hAf hCt hCf hb1 hb2 hin2 hkn2 hsl
  repeat' (first|(refine yL ?_;first|refine a0A rfl ?_|(refine oD 19 ?_;refine b3A rfl _ rfl rfl (HasP.val (ha.ext he)) ?_)|(refine oD 24 ?_;refine b3A rfl _ rfl rfl (HasP.val (hb.ext he)) ?_)|refine yO ?_|(refine yC ?_ ?_<;>intro hc)|(refine yN hK ?_;clear hK K))|(refine oCX ?_;first|refine cmA (id:=5) (ι:=Unit) (λ _=>[(0,.val va),(1,.val vb),(2,.val (.int .i64 what)),(7,.val v),(8,.val (.int .i64 i)),(9,.val (.int .i64 k)),(10,.val (.bool x)),(11,.val (.bool y)),(12,.val (.int .u64 last))]) (λ _ w'=>Ext w1 w') ?_ ?_)|refine wG ?_|(refine yR ?_;intro K hK)|fail)
  ·exact a6A () (λ w5 e5=>e5) oZ sZ
  ·exact a6A () (λ w5 e5=>e5) oZ sZ
  rintro ⟨⟩ w2 e2;replace he:=he.trans e2;replace ho:=ho.ext e2
  repeat' (first|(refine yL ?_;first|refine a0A rfl ?_|refine yO ?_|(refine yC ?_ ?_<;>intro hc)|(refine yV ?_;first|(refine oD 30 ?_;refine oC 66 ?_;refine alA (f:=66) rfl rfl rfl rfl rfl  (.val (.int .u64 P0)) (by intro u1 u2 u3 w e hu1 hu2 hu3;(try obtain rfl:u1=_:=hu1);(try obtain rfl:u2=_:=hu2);(try obtain rfl:u3=_:=hu3);exact hq1 _ (he.trans e)) ?_)|(refine oD 34 ?_;refine oC 66 ?_;refine alA (f:=66) rfl rfl rfl rfl rfl  (.val (.int .u64 Q0)) (by intro u1 u2 u3 w e hu1 hu2 hu3;(try obtain rfl:u1=_:=hu1);(try obtain rfl:u2=_:=hu2);(try obtain rfl:u3=_:=hu3);exact hq2 _ (he.trans e)) ?_))|(refine yN hK ?_;clear hK K))|(refine oCX ?_;first|refine cmA (id:=8) (ι:=Unit) (λ _=>[(0,.val va),(1,.val vb),(2,.val (.int .i64 what)),(7,.val v),(8,.val (.int .i64 i)),(9,.val (.int .i64 k)),(10,.val (.bool x)),(11,.val (.bool y)),(12,.val (.int .u64 last)),(13,.val (.int .u64 P0)),(14,.val (.int .u64 Q0)),(15,.val (.int .u64 N))]) (λ _ w'=>Ext w2 w') ?_ ?_)|refine wG ?_|(refine yR ?_;intro K hK)|fail)
  ·exact a6A () (λ w5 e5=>e5) oZ sZ
  ·exact a6A () (λ w5 e5=>e5) oZ sZ
  rintro ⟨⟩ w4 e4;replace he:=he.trans e4;replace ho:=ho.ext e4;refine cmA (id:=10) (ι:=Value) (λ v'=>[(0,.val va),(1,.val vb),(2,.val (.int .i64 what)),(7,.val v'),(8,.val (.int .i64 i)),(9,.val (.int .i64 k)),(10,.val (.bool x)),(11,.val (.bool y)),(12,.val (.int .u64 last)),(13,.val (.int .u64 P0)),(14,.val (.int .u64 Q0)),(15,.val (.int .u64 N))]) (λ v' w'=>Ext w w'∧OwnP w.heap.size tSp .u64 w' v' (spL r N)) ?_ ?_
  ·have hop:∀ w',_:=λ w'=>in_c w' x y what
   obtain ⟨F0,hF0⟩:∃ F0,F0=opF what x y:=⟨_,rfl⟩;rw [← hF0] at hop hst';have hnew:∀ hlt:last<N,F0=true→_:=λ hlt h=>m6A (p:=r) hlt (λ t h1 h2=>by rw [hst' t h1 h2,h])
   have hold:F0=false∨¬ last<N→spL r N=spL r last:=λ h=>by
    rcases h with h|h
    ·exact deA hlN (λ t h1 h2=>by rw [hst' t h1 h2,h])
    ·rw [show N=last by omega]
   obtain ⟨SN,hSN⟩:∃ SN,SN=spL r N:=⟨_,rfl⟩;obtain ⟨SL,hSL⟩:∃ SL,SL=spL r last:=⟨_,rfl⟩;rw [← hSN,← hSL] at hold;rw [← hSL] at ho hsl1;rw [← hSN];cases F0 with
   | false =>
     replace hold:=hold (.inl rfl);clear hnew hst'
     repeat' (first|(refine yL ?_;first|refine a0A rfl ?_|refine yO ?_|(refine yC ?_ ?_<;>intro hc)|(refine yV ?_;first|(refine oC 67 ?_;refine alA (f:=67) rfl rfl rfl rfl rfl  (.val (.bool false)) (by intro u1 u2 u3 w e hu1 hu2 hu3;(try obtain rfl:u1=_:=hu1);(try obtain rfl:u2=_:=hu2);(try obtain rfl:u3=_:=hu3);exact hop _) ?_))|(refine yN hK ?_;clear hK K))|refine wG ?_|(refine yR ?_;intro K hK)|fail)
     exact a6A v (λ w5 e5=>⟨he.trans e5,by rw [hold];exact ho.ext e5⟩) oZ sZ
   | true =>
     by_cases hlt:last<N
     ·replace hnew:=hnew hlt rfl
      rw [← hSN,← hSL] at hnew;clear hold hst'
      rcases hnew with ⟨s1,s2,s3⟩|⟨s1,s3⟩
      ·obtain ⟨gb,cap,cur,rfl,r1,r2,r3,r4,r5,r6⟩:=ho.row s1
       repeat' (first|(refine yL ?_;first|refine a0A rfl ?_|(refine c7A ?_;refine b3A rfl _ rfl rfl (HasP.ownV ho) ?_)|(refine oD 56 ?_;refine abA rfl rfl rfl fZ ?_;rw [show ((SL.length:Int)-1)=((SL.length-1:Nat):Int) by omega])|(refine oD 57 ?_;refine atA rfl _ rfl (λ _=>rfl) rfl (HasP.ownV ho) rfl oZ ?_;rw [s2])|(refine oD 58 ?_;refine acA (o:=1) rfl rfl (λ _ _=>rfl) ?_)|(refine oD 59 ?_;refine ayA rfl (λ _=>rfl) rfl rfl ?_)|(refine oD 65 ?_;refine abA rfl rfl rfl fZ ?_;rw [show ((SL.length:Int)-1)=((SL.length-1:Nat):Int) by omega])|(refine oD 67 ?_;refine d2A (s:=2) rfl rfl (λ _=>rfl) rfl rfl oZ oZ ?_;rw [Int.toNat_natCast,Nat.zero_add])|(refine oD 68 ?_;refine a1A (a':=⟨gb,(SL.length-1)*2+1,none⟩) rfl rfl (λ _=>rfl) ?_)|(refine oSt ?_;refine a4A (hK _ _ (d1A rfl rfl rfl r2 (λ _=>rfl) oZ rfl rfl (λ w7 e7=>?_)));clear hK K)|refine yO ?_|(refine yC ?_ ?_<;>intro hc)|(refine yV ?_;first|(refine oC 67 ?_;refine alA (f:=67) rfl rfl rfl rfl rfl  (.val (.bool true)) (by intro u1 u2 u3 w e hu1 hu2 hu3;(try obtain rfl:u1=_:=hu1);(try obtain rfl:u2=_:=hu2);(try obtain rfl:u3=_:=hu3);exact hop _) ?_))|(refine yN hK ?_;clear hK K))|refine wG ?_|(refine yR ?_;intro K hK)|fail)
       have ho7:=OwnP.set2 r1 (e7.block r2) r3 r4 r5 r6 (SL.length-1) (N:Int);have x7:=(he.trans e7).setRow r1 (cur.setIfInBounds ((SL.length-1)*2+1) (.int .u64 (N:Int)));exact a6A _ (λ w5 e5=>⟨x7.trans e5,by rw [s3];exact ho7.ext e5⟩) oZ sZ
      ·by_cases h0:SL.length=0
       ·skip
        repeat' (first|(refine yL ?_;first|refine a0A rfl ?_|(refine c7A ?_;refine b3A rfl _ rfl rfl (HasP.ownV ho) ?_)|(refine oD 72 ?_;refine cqA (c:=spV .u64 ((last:Int),(N:Int))) rfl rfl rfl (λ w=>run_build w _ _ _ kZ) ?_)|(refine oD 73 ?_;refine e3A rfl fgA rfl rfl dZ ?_)|(refine oD 74 ?_;refine a4A (hK _ _ (jmA (w0:=w) rfl dZ fgA rfl ho rfl oZ oZ he (λ v' wv xv hov=>?_)));clear hK K;refine aiA kZ (λ K hK=>?_))|refine yO ?_|(refine yC ?_ ?_<;>intro hc)|(refine yV ?_;first|(refine oC 67 ?_;refine alA (f:=67) rfl rfl rfl rfl rfl  (.val (.bool true)) (by intro u1 u2 u3 w e hu1 hu2 hu3;(try obtain rfl:u1=_:=hu1);(try obtain rfl:u2=_:=hu2);(try obtain rfl:u3=_:=hu3);exact hop _) ?_))|(refine yN hK ?_;clear hK K))|refine wG ?_|(refine yR ?_;intro K hK)|fail)
        exact a6A v' (λ w5 e5=>⟨xv.trans e5,by rw [s3];exact hov.ext e5⟩) oZ sZ
       ·have s1':(SL.getD (SL.length-1) (0,0)).2≠((last:Nat):Int):=s1.resolve_left h0
        repeat' (first|(refine yL ?_;first|refine a0A rfl ?_|(refine c7A ?_;refine b3A rfl _ rfl rfl (HasP.ownV ho) ?_)|(refine oD 72 ?_;refine cqA (c:=spV .u64 ((last:Int),(N:Int))) rfl rfl rfl (λ w=>run_build w _ _ _ kZ) ?_)|(refine oD 73 ?_;refine e3A rfl fgA rfl rfl dZ ?_)|(refine oD 74 ?_;refine a4A (hK _ _ (jmA (w0:=w) rfl dZ fgA rfl ho rfl oZ oZ he (λ v' wv xv hov=>?_)));clear hK K;refine aiA kZ (λ K hK=>?_))|(refine oD 56 ?_;refine abA rfl rfl rfl fZ ?_;rw [show ((SL.length:Int)-1)=((SL.length-1:Nat):Int) by omega])|(refine oD 57 ?_;refine atA rfl _ rfl (λ _=>rfl) rfl (HasP.ownV ho) rfl oZ ?_)|(refine oD 58 ?_;refine acA (o:=1) rfl rfl (λ _ _=>rfl) ?_)|(refine oD 59 ?_;refine ayA rfl (λ _=>rfl) rfl rfl ?_)|refine yO ?_|(refine yC ?_ ?_<;>intro hc)|(refine yV ?_;first|(refine oC 67 ?_;refine alA (f:=67) rfl rfl rfl rfl rfl  (.val (.bool true)) (by intro u1 u2 u3 w e hu1 hu2 hu3;(try obtain rfl:u1=_:=hu1);(try obtain rfl:u2=_:=hu2);(try obtain rfl:u3=_:=hu3);exact hop _) ?_))|(refine yN hK ?_;clear hK K))|refine wG ?_|(refine yR ?_;intro K hK)|fail)
        exact a6A v' (λ w5 e5=>⟨xv.trans e5,by rw [s3];exact hov.ext e5⟩) oZ sZ
     ·replace hold:=hold (.inr hlt)
      clear hnew hst'
      repeat' (first|(refine yL ?_;first|refine a0A rfl ?_|refine yO ?_|(refine yC ?_ ?_<;>intro hc)|(refine yV ?_;first|(refine oC 67 ?_;refine alA (f:=67) rfl rfl rfl rfl rfl  (.val (.bool true)) (by intro u1 u2 u3 w e hu1 hu2 hu3;(try obtain rfl:u1=_:=hu1);(try obtain rfl:u2=_:=hu2);(try obtain rfl:u3=_:=hu3);exact hop _) ?_))|(refine yN hK ?_;clear hK K))|refine wG ?_|(refine yR ?_;intro K hK)|fail)
      exact a6A v (λ w5 e5=>⟨he.trans e5,by rw [hold];exact ho.ext e5⟩) oZ sZ
  rintro v' w3 ⟨x3,ho3⟩;clear hst' ho hq1 hq2;cases x with
  | false =>
    have hA1:=hAf' rfl;cases y with
    | false =>
      have hC1:=hCf' rfl
      repeat' (first|(refine yL ?_;first|refine a0A rfl ?_|refine yO ?_|(refine yC ?_ ?_<;>intro hc)|(refine yN hK ?_;clear hK K))|refine wG ?_|(refine yR ?_;intro K hK)|fail)
      all_goals first
       | exact a6A (i,k,true,true,N,v') (λ w5 e5=>⟨x3.trans e5,hA1 oZ,hC1 oZ,hNT,ho3.ext e5⟩) (by have:=hin oZ;have:=hkn oZ;dsimp only;simp only [if_true,if_false,Bool.false_eq_true];omega) sZ
       | exact a6A (i,k,true,false,N,v') (λ w5 e5=>⟨x3.trans e5,hA1 oZ,hC0,hNT,ho3.ext e5⟩) (by have:=hin oZ;dsimp only;simp only [if_true,if_false,Bool.false_eq_true];omega) sZ
       | exact a6A (i,k,false,true,N,v') (λ w5 e5=>⟨x3.trans e5,hA0,hC1 oZ,hNT,ho3.ext e5⟩) (by have:=hkn oZ;dsimp only;simp only [if_true,if_false,Bool.false_eq_true];omega) sZ
       | (exfalso;omega)
    | true =>
      have hC1:=hCt' rfl
      repeat' (first|(refine yL ?_;first|refine a0A rfl ?_|refine yO ?_|(refine yC ?_ ?_<;>intro hc)|(refine yN hK ?_;clear hK K))|refine wG ?_|(refine yR ?_;intro K hK)|fail)
      all_goals first
       | exact a6A (i,k+1,true,false,N,v') (λ w5 e5=>⟨x3.trans e5,hA1 oZ,hC1 oZ,hNT,ho3.ext e5⟩) (by have:=hin oZ;have:=hkn oZ;dsimp only;simp only [if_true,if_false,Bool.false_eq_true];omega) sZ
       | exact a6A (i,k,true,true,N,v') (λ w5 e5=>⟨x3.trans e5,hA1 oZ,hC0,hNT,ho3.ext e5⟩) (by have:=hin oZ;dsimp only;simp only [if_true,if_false,Bool.false_eq_true];omega) sZ
       | exact a6A (i,k+1,false,false,N,v') (λ w5 e5=>⟨x3.trans e5,hA0,hC1 oZ,hNT,ho3.ext e5⟩) (by have:=hkn oZ;dsimp only;simp only [if_true,if_false,Bool.false_eq_true];omega) sZ
       | (exfalso;omega)
  | true =>
    have hA1:=hAt' rfl;cases y with
    | false =>
      have hC1:=hCf' rfl
      repeat' (first|(refine yL ?_;first|refine a0A rfl ?_|refine yO ?_|(refine yC ?_ ?_<;>intro hc)|(refine yN hK ?_;clear hK K))|refine wG ?_|(refine yR ?_;intro K hK)|fail)
      all_goals first
       | exact a6A (i+1,k,false,true,N,v') (λ w5 e5=>⟨x3.trans e5,hA1 oZ,hC1 oZ,hNT,ho3.ext e5⟩) (by have:=hin oZ;have:=hkn oZ;dsimp only;simp only [if_true,if_false,Bool.false_eq_true];omega) sZ
       | exact a6A (i+1,k,false,false,N,v') (λ w5 e5=>⟨x3.trans e5,hA1 oZ,hC0,hNT,ho3.ext e5⟩) (by have:=hin oZ;dsimp only;simp only [if_true,if_false,Bool.false_eq_true];omega) sZ
       | exact a6A (i,k,true,true,N,v') (λ w5 e5=>⟨x3.trans e5,hA0,hC1 oZ,hNT,ho3.ext e5⟩) (by have:=hkn oZ;dsimp only;simp only [if_true,if_false,Bool.false_eq_true];omega) sZ
       | (exfalso;omega)
    | true =>
      have hC1:=hCt' rfl
      repeat' (first|(refine yL ?_;first|refine a0A rfl ?_|refine yO ?_|(refine yC ?_ ?_<;>intro hc)|(refine yN hK ?_;clear hK K))|refine wG ?_|(refine yR ?_;intro K hK)|fail)
      all_goals first
       | exact a6A (i+1,k+1,false,false,N,v') (λ w5 e5=>⟨x3.trans e5,hA1 oZ,hC1 oZ,hNT,ho3.ext e5⟩) (by have:=hin oZ;have:=hkn oZ;dsimp only;simp only [if_true,if_false,Bool.false_eq_true];omega) sZ
       | exact a6A (i+1,k,false,true,N,v') (λ w5 e5=>⟨x3.trans e5,hA1 oZ,hC0,hNT,ho3.ext e5⟩) (by have:=hin oZ;dsimp only;simp only [if_true,if_false,Bool.false_eq_true];omega) sZ
       | exact a6A (i,k+1,true,false,N,v') (λ w5 e5=>⟨x3.trans e5,hA0,hC1 oZ,hNT,ho3.ext e5⟩) (by have:=hkn oZ;dsimp only;simp only [if_true,if_false,Bool.false_eq_true];omega) sZ
       | (exfalso;omega)
theorem q1A {w:World} {v:Value} {p:Nat→Bool} (h:SlP .u64 w v (spL p TOP)) {x:Nat} (hx:x<18446744073709551616):Fc Tryz.prog 54 #[v,.int .u64 x] w (Ret w (.val (.int .i64 (cnt p (min x TOP))))):=by
 have htop:=crA;obtain ⟨lo,hi,W,hS⟩:=ffA p TOP;have hlen:=h.len;obtain ⟨S,hSd⟩:∃ S,S=spL p TOP:=⟨_,rfl⟩;rw [← hSd] at h W hS hlen;clear hSd;have hz:cnt p (min x (iaA TOP S.length lo 0))=0:=by
  have h1:=k4A W;have h2:=cnt_mono p (m:=min x (iaA TOP S.length lo 0)) (iaA TOP S.length lo 0) (Nat.min_le_right _ _);omega
 refine Fc.of (args:=[_,_]) Tryz.func54 rfl rfl Tryz.ntmps54 nZ ?_
 repeat' (first|(refine yL ?_;first|refine a0A rfl ?_|refine yO ?_|(refine yC ?_ ?_<;>intro hc)|(refine yN hK ?_;clear hK K))|refine wG ?_|(refine yR ?_;intro K hK)|fail)
 refine b5A (ι:=Nat) (λ i=>[(0,.val v),(1,.val (.int .u64 x)),(5,.val (.int .u64 (cnt p (min x (iaA TOP S.length lo i))))),(6,.val (.int .i64 i))]) (λ i=>i≤S.length) (λ i=>S.length-i) 0 (Nat.zero_le _) (by rw [hz];(repeat' (first|exact Sub.nil|(refine Sub.val rfl ?_ ?_;first|with_reducible rfl|(congr 1;omega))|refine Sub.same rfl ?_));done) ?_
 intro i hi'
 by_cases hil:i<S.length
 ·have hSi:=hS i hil
  have f1:=trA W hil x;have f2:=W.lt i hil;have b1:=cnt_le p (min x (iaA TOP S.length lo i));rw [fhA hil] at b1 ⊢;obtain ⟨c0,hc0⟩:∃ c,c=cnt p (min x (lo i)):=⟨_,rfl⟩;obtain ⟨c1,hc1⟩:∃ c,c=cnt p (min x (iaA TOP S.length lo (i+1))):=⟨_,rfl⟩;rw [← hc0] at b1 f1 ⊢;rw [← hc1] at f1;have b2:min x (lo i)≤lo i:=Nat.min_le_right _ _;clear hc0 hz W hS;obtain ⟨L,hL⟩:∃ L,L=lo i:=⟨_,rfl⟩;obtain ⟨H,hH⟩:∃ H,H=hi i:=⟨_,rfl⟩;rw [← hL,← hH] at hSi f1 f2;rw [← hL] at b1 b2;clear hL hH
  repeat' (first|(refine yL ?_;first|refine a0A rfl ?_|(refine c7A ?_;refine b3A rfl _ rfl rfl (HasP.val h) ?_)|(refine oI ?_;refine atA rfl _ rfl (λ _=>rfl) rfl (HasP.val h) rfl hil ?_;rw [hSi])|(refine oF 0 ?_;refine acA (f:=0) (o:=0) rfl rfl (λ _ _=>rfl) ?_)|(refine oF 1 ?_;refine acA (f:=1) (o:=1) rfl rfl (λ _ _=>rfl) ?_)|(refine oL ?_;refine ayA rfl (λ _=>rfl) rfl rfl ?_;try dsimp only)|refine yO ?_|(refine yC ?_ ?_<;>intro hc)|(refine yN hK ?_;clear hK K))|refine wG ?_|(refine yR ?_;intro K hK)|fail)
  all_goals exact bpA (i+1) hil oZ (by rw [← hc1];(repeat' (first|exact Sub.nil|(refine Sub.val rfl ?_ ?_;first|with_reducible rfl|(congr 1;omega))|refine Sub.same rfl ?_));done)
 ·obtain rfl:i=S.length:=oZ
  rw [fiA hil];have b1:=cnt_le p (min x TOP);have b2:min x TOP≤TOP:=Nat.min_le_right _ _;obtain ⟨c0,hc0⟩:∃ c,c=cnt p (min x TOP):=⟨_,rfl⟩;rw [← hc0] at b1 ⊢
  repeat' (first|(refine yL ?_;first|refine a0A rfl ?_|(refine c7A ?_;refine b3A rfl _ rfl rfl (HasP.val h) ?_)|refine yO ?_|(refine yC ?_ ?_<;>intro hc)|(refine yN hK ?_;clear hK K))|refine wG ?_|(refine yR ?_;intro K hK)|fail)
  exact a9A rfl rfl (Ext.refl _) rfl
theorem wbA {w:World} {v:Value} {p:Nat→Bool} (h:SlP .u64 w v (spL p TOP)):Fc Tryz.prog 32 #[v] w (Ret w (.val (.int .i64 (cnt p TOP)))):=by
 have hr:∀ w',Ext w w'→_:=λ w' e=>q1A (x:=4294967296) (h.ext e) dZ
 rw [show min 4294967296 TOP=TOP by rw [crA];rfl] at hr;refine Fc.of (args:=[_]) Tryz.func32 rfl rfl Tryz.ntmps32 nZ ?_
 repeat' (first|(refine yL ?_;first|refine a0A rfl ?_|refine yO ?_|(refine yC ?_ ?_<;>intro hc)|(refine yV ?_;first|(refine oC 54 ?_;refine a3A (f:=54) rfl rfl rfl rfl  (.val (.int .i64 (cnt p TOP))) (by intro u1 u2 w e hu1 hu2;(try obtain rfl:u1=_:=hu1);(try obtain rfl:u2=_:=hu2);exact hr _ e) ?_))|(refine yN hK ?_;clear hK K))|refine wG ?_|(refine yR ?_;intro K hK)|fail)
 exact a9A rfl rfl (Ext.refl _) rfl
theorem asB {w:World} {v:Value} {p:Nat→Bool} (h:SlP .u64 w v (spL p TOP)) {x:Nat} (hx:x<4294967296):Fc Tryz.prog 53 #[v,.int .u64 x] w (Ret w (.val (.bool (p x)))):=by
 have htop:=crA;obtain ⟨lo,hi,W,hS⟩:=ffA p TOP;have hlen:=h.len;obtain ⟨S,hSd⟩:∃ S,S=spL p TOP:=⟨_,rfl⟩;rw [← hSd] at h W hS hlen;clear hSd;refine Fc.of (args:=[_,_]) Tryz.func53 rfl rfl Tryz.ntmps53 nZ ?_
 repeat' (first|(refine yL ?_;first|refine a0A rfl ?_|refine yO ?_|(refine yC ?_ ?_<;>intro hc)|(refine yN hK ?_;clear hK K))|refine wG ?_|(refine yR ?_;intro K hK)|fail)
 refine b5A (ι:=Nat) (λ i=>[(0,.val v),(1,.val (.int .u64 x)),(5,.val (.int .i64 i))]) (λ i=>i≤S.length∧∀ j,j<i→¬ (lo j≤x∧x<hi j)) (λ i=>S.length-i) 0 ⟨Nat.zero_le _,λ j hj=>absurd hj (Nat.not_lt_zero j)⟩ sZ ?_
 rintro i ⟨hi',hno⟩
 by_cases hil:i<S.length
 ·have hSi:=hS i hil
  have hon:=W.on i hil x;have hnx:¬ (lo i≤x∧x<hi i)→∀ j,j<i+1→¬ (lo j≤x∧x<hi j):=λ hn j hj=>by
   by_cases e:j=i
   ·subst e;exact hn
   ·exact hno j oZ
  obtain ⟨L,hL⟩:∃ L,L=lo i:=⟨_,rfl⟩;obtain ⟨H,hH⟩:∃ H,H=hi i:=⟨_,rfl⟩;rw [← hL,← hH] at hSi hon hnx;clear hL hH hno W hS
  by_cases hin:L≤x∧x<H
  ·rw [hon hin.1 hin.2]
   repeat' (first|(refine yL ?_;first|refine a0A rfl ?_|(refine c7A ?_;refine b3A rfl _ rfl rfl (HasP.val h) ?_)|(refine oI ?_;refine atA rfl _ rfl (λ _=>rfl) rfl (HasP.val h) rfl hil ?_;rw [hSi])|(refine oF 0 ?_;refine acA (f:=0) (o:=0) rfl rfl (λ _ _=>rfl) ?_)|(refine oF 1 ?_;refine acA (f:=1) (o:=1) rfl rfl (λ _ _=>rfl) ?_)|(refine oL ?_;refine ayA rfl (λ _=>rfl) rfl rfl ?_;try dsimp only)|refine yO ?_|(refine yC ?_ ?_<;>intro hc)|(refine yN hK ?_;clear hK K))|refine wG ?_|(refine yR ?_;intro K hK)|fail)
   exact a9A rfl rfl (Ext.refl _) rfl
  ·skip
   repeat' (first|(refine yL ?_;first|refine a0A rfl ?_|(refine c7A ?_;refine b3A rfl _ rfl rfl (HasP.val h) ?_)|(refine oI ?_;refine atA rfl _ rfl (λ _=>rfl) rfl (HasP.val h) rfl hil ?_;rw [hSi])|(refine oF 0 ?_;refine acA (f:=0) (o:=0) rfl rfl (λ _ _=>rfl) ?_)|(refine oF 1 ?_;refine acA (f:=1) (o:=1) rfl rfl (λ _ _=>rfl) ?_)|(refine oL ?_;refine ayA rfl (λ _=>rfl) rfl rfl ?_;try dsimp only)|refine yO ?_|(refine yC ?_ ?_<;>intro hc)|(refine yN hK ?_;clear hK K))|refine wG ?_|(refine yR ?_;intro K hK)|fail)
   all_goals first
    | exact bpA (i+1) ⟨hil,hnx hin⟩ oZ sZ
    | (exfalso;omega)
 ·obtain rfl:i=S.length:=oZ
  have hp:p x=false:=by
   cases hp:p x with
   | false=>rfl
   | true =>
     obtain ⟨j,g1,g2,g3⟩:=raA W hp S.length (Nat.le_refl _) (by rw [fiA hil];omega);exact absurd ⟨g2,g3⟩ (hno j g1)
  rw [hp]
  repeat' (first|(refine yL ?_;first|refine a0A rfl ?_|(refine c7A ?_;refine b3A rfl _ rfl rfl (HasP.val h) ?_)|refine yO ?_|(refine yC ?_ ?_<;>intro hc)|(refine yN hK ?_;clear hK K))|refine wG ?_|(refine yR ?_;intro K hK)|fail)
  exact a9A rfl rfl (Ext.refl _) rfl
theorem apB {w:World} {v:Value} {p:Nat→Bool} (h:SlP .u64 w v (spL p TOP)) {k:Int} (hk:-9223372036854775808≤k∧k<9223372036854775808) :
 Fc Tryz.prog 50 #[v,.int .i64 k] w (Ret w (.tup2 (.val (.int .u32 (paA p TOP k).1)) (.val (.bool (paA p TOP k).2)))):=by
 have htop:=crA;obtain ⟨lo,hi,W,hS⟩:=ffA p TOP;have hlen:=h.len;obtain ⟨S,hSd⟩:∃ S,S=spL p TOP:=⟨_,rfl⟩;rw [← hSd] at h W hS hlen;clear hSd
 by_cases hk0:k<0
 ·rw [jvA (.inl hk0)]
  refine Fc.of (args:=[_,_]) Tryz.func50 rfl rfl Tryz.ntmps50 nZ ?_
  repeat' (first|(refine yL ?_;first|refine a0A rfl ?_|refine yO ?_|(refine yC ?_ ?_<;>intro hc)|(refine yN hK ?_;clear hK K))|refine wG ?_|(refine yR ?_;intro K hK)|fail)
  exact bgA rfl rfl rfl (Ext.refl _) rfl rfl
 ·obtain ⟨m,rfl⟩:=Int.eq_ofNat_of_zero_le (show 0≤k by omega)
  refine Fc.of (args:=[_,_]) Tryz.func50 rfl rfl Tryz.ntmps50 nZ ?_
  repeat' (first|(refine yL ?_;first|refine a0A rfl ?_|refine yO ?_|(refine yC ?_ ?_<;>intro hc)|(refine yN hK ?_;clear hK K))|refine wG ?_|(refine yR ?_;intro K hK)|fail)
  refine b5A (ι:=Nat) (λ i=>[(0,.val v),(6,.val (.int .u64 ((m:Int)-cnt p (iaA TOP S.length lo i)))),(7,.val (.int .i64 i))]) (λ i=>i≤S.length∧cnt p (iaA TOP S.length lo i)≤m) (λ i=>S.length-i) 0 ⟨Nat.zero_le _,by rw [k4A W];exact Nat.zero_le _⟩ (by rw [k4A W];(repeat' (first|exact Sub.nil|(refine Sub.val rfl ?_ ?_;first|with_reducible rfl|(congr 1;omega))|refine Sub.same rfl ?_));done) ?_
  rintro i ⟨hi',hle⟩
  by_cases hil:i<S.length
  ·have hSi:=hS i hil
   have f1:=y0A W hil;have f2:=W.lt i hil;have b1:=cnt_le p (lo i);rw [fhA hil] at hle ⊢;have hat:m-cnt p (lo i)<hi i-lo i→paA p TOP (m:Int)=(((lo i+(m-cnt p (lo i)):Nat):Int),true):=λ hlt =>
    pvA oZ (W.on i hil _ oZ oZ) (by
     rw [krA _ (λ y g1 g2=>W.on i hil y g1 oZ)];omega)
   obtain ⟨c0,hc0⟩:∃ c,c=cnt p (lo i):=⟨_,rfl⟩;obtain ⟨c1,hc1⟩:∃ c,c=cnt p (iaA TOP S.length lo (i+1)):=⟨_,rfl⟩;rw [← hc0] at b1 f1 hle hat ⊢;rw [← hc1] at f1;clear hc0 W hS;obtain ⟨L,hL⟩:∃ L,L=lo i:=⟨_,rfl⟩;obtain ⟨H,hH⟩:∃ H,H=hi i:=⟨_,rfl⟩;rw [← hL,← hH] at hSi f1 f2 hat;rw [← hL] at b1;clear hL hH
   by_cases hlt:m-c0<H-L
   ·rw [hat hlt]
    clear hat
    repeat' (first|(refine yL ?_;first|refine a0A rfl ?_|(refine c7A ?_;refine b3A rfl _ rfl rfl (HasP.val h) ?_)|(refine oI ?_;refine atA rfl _ rfl (λ _=>rfl) rfl (HasP.val h) rfl hil ?_;rw [hSi])|(refine oF 0 ?_;refine acA (f:=0) (o:=0) rfl rfl (λ _ _=>rfl) ?_)|(refine oF 1 ?_;refine acA (f:=1) (o:=1) rfl rfl (λ _ _=>rfl) ?_)|(refine oL ?_;refine ayA rfl (λ _=>rfl) rfl rfl ?_;try dsimp only)|refine yO ?_|(refine yC ?_ ?_<;>intro hc)|(refine yN hK ?_;clear hK K))|refine wG ?_|(refine yR ?_;intro K hK)|fail)
    exact bgA rfl rfl rfl (Ext.refl _) (by congr 1;omega) rfl
   ·clear hat
    repeat' (first|(refine yL ?_;first|refine a0A rfl ?_|(refine c7A ?_;refine b3A rfl _ rfl rfl (HasP.val h) ?_)|(refine oI ?_;refine atA rfl _ rfl (λ _=>rfl) rfl (HasP.val h) rfl hil ?_;rw [hSi])|(refine oF 0 ?_;refine acA (f:=0) (o:=0) rfl rfl (λ _ _=>rfl) ?_)|(refine oF 1 ?_;refine acA (f:=1) (o:=1) rfl rfl (λ _ _=>rfl) ?_)|(refine oL ?_;refine ayA rfl (λ _=>rfl) rfl rfl ?_;try dsimp only)|refine yO ?_|(refine yC ?_ ?_<;>intro hc)|(refine yN hK ?_;clear hK K))|refine wG ?_|(refine yR ?_;intro K hK)|fail)
    exact bpA (i+1) ⟨hil,by rw [← hc1];omega⟩ oZ (by rw [← hc1];(repeat' (first|exact Sub.nil|(refine Sub.val rfl ?_ ?_;first|with_reducible rfl|(congr 1;omega))|refine Sub.same rfl ?_));done)
  ·obtain rfl:i=S.length:=oZ
   rw [fiA hil] at hle;rw [jvA (.inr oZ)]
   repeat' (first|(refine yL ?_;first|refine a0A rfl ?_|(refine c7A ?_;refine b3A rfl _ rfl rfl (HasP.val h) ?_)|refine yO ?_|(refine yC ?_ ?_<;>intro hc)|(refine yN hK ?_;clear hK K))|refine wG ?_|(refine yR ?_;intro K hK)|fail)
   exact bgA rfl rfl rfl (Ext.refl _) rfl rfl
theorem oyA {e:Nat→Bool} {k:Nat} (h:e k=true):adA e (k+1)=adA e k++[(k:Int)]:=by
 simp only [adA,h,if_true]
theorem dgA {e:Nat→Bool} {a:Nat}:∀ b,a≤b→(∀ k,a≤k→k<b→e k=false)→adA e b=adA e a
 | 0,h,_=>by obtain rfl:a=0:=oZ
             rfl
 | b+1,h,hf=>by
   by_cases e0:a=b+1
   ·rw [e0]
   ·rw [← dgA b oZ (λ k h1 h2=>hf k h1 oZ)]
    simp only [adA,hf b oZ (Nat.lt_succ_self b),Bool.false_eq_true,if_false,List.append_nil]
theorem ozA {e:Nat→Bool} {k:Nat} (h:0<(adA e k).length):(adA e k).getD ((adA e k).length-1) 0<(k:Int):=by
 have hm:(adA e k).getD ((adA e k).length-1) 0 ∈ adA e k:=by
  rw [List.getD_eq_getElem?_getD,List.getElem?_eq_getElem oZ];exact List.getElem_mem _
 obtain ⟨i,h1,_,h3⟩:=(c9A e _ k).1 hm;omega
theorem whA {p:Nat→Bool} {k y:Nat} (h:p y=true) (h1:k*65536≤y) (h2:y<(k+1)*65536):ne p k=true :=
 ne_iff.2 ⟨y-k*65536,by rw [e9A] at h2;omega,by rw [show k*65536+(y-k*65536)=y by omega];exact h⟩
theorem qlA {p:Nat→Bool} {k:Nat} (h:∀ y,k*65536≤y→y<(k+1)*65536→p y=false):ne p k=false:=by
 cases hn:ne p k with
 | false=>rfl
 | true =>
   obtain ⟨i,h1,h2⟩:=ne_iff.1 hn;rw [h _ oZ (by rw [e9A];omega)] at h2;cases h2
def cK (hi:Nat→Nat) (i:Nat):Nat:=if i=0 then 0 else (hi (i-1)-1) / 65536+1
theorem r2A {p:Nat→Bool} {T n:Nat} {lo hi:Nat→Nat} (W:SpW p T n lo hi) {i:Nat} (h:i<n) :
 adA (ne p) (cK hi i)=adA (ne p) (lo i / 65536)∨adA (ne p) (cK hi i)=adA (ne p) (lo i / 65536+1):=by
 have h2:=W.lt i h
 by_cases e0:i=0
 ·subst e0
  left
  refine (dgA _ (Nat.zero_le _) (λ k _ h4=>qlA (λ y h5 h6=>W.pre y (λ _=>?_) ?_))).symm
  ·omega
  ·omega
 ·have h3:=W.up (i-1) oZ
  have h4:=W.lt (i-1) oZ;rw [show i-1+1=i by omega] at h3;have hc:cK hi i=(hi (i-1)-1) / 65536+1:=if_neg e0
  by_cases e1:cK hi i=lo i / 65536+1
  ·right;rw [e1]
  ·left
   refine (dgA _ oZ (λ k h5 h6=>qlA (λ y h7 h8=>?_))).symm;have:=W.off (i-1) oZ y oZ (by rw [show i-1+1=i by omega];omega);exact this
theorem bjB {p:Nat→Bool} {T n:Nat} {lo hi:Nat→Nat} (W:SpW p T n lo hi) {i k:Nat} (h:i<n) (h1:lo i / 65536≤k) (h2:k≤(hi i-1) / 65536):ne p k=true:=by
 have h3:=W.lt i h
 by_cases e:lo i≤k*65536
 ·exact whA (W.on i h (k*65536) e oZ) (Nat.le_refl _) oZ
 ·exact whA (W.on i h (lo i) (Nat.le_refl _) h3.1) oZ oZ
theorem ufA {p:Nat→Bool} {n:Nat} {lo hi:Nat→Nat} (W:SpW p TOP n lo hi):adA (ne p) (cK hi n)=b9A p:=by
 have htop:=crA;have hle:cK hi n≤65536:=by
  unfold cK
  split
  ·omega
  ·have:=W.lt (n-1) oZ;omega
 refine (dgA _ hle (λ k h5 h6=>qlA (λ y h7 h8=>?_))).symm
 by_cases e0:n=0
 ·exact W.pre y (λ h0=>by omega) oZ
 ·have hc:cK hi n=(hi (n-1)-1) / 65536+1:=if_neg e0
  exact W.post oZ y oZ oZ
theorem xsA {w:World} {v:Value} {p:Nat→Bool} (h:SlP .u64 w v (spL p TOP)):Fc Tryz.prog 51 #[v] w (Ret w (.pred (bnA w.heap.size tK .u16 (b9A p)))):=by
 have htop:=crA;obtain ⟨lo,hi,W,hS⟩:=ffA p TOP;have hlen:=h.len;obtain ⟨S,hSd⟩:∃ S,S=spL p TOP:=⟨_,rfl⟩;rw [← hSd] at h W hS hlen;clear hSd;have hll:∀ k,k≤65536→(adA (ne p) k).length≤65536:=λ k hk=>by rw [baA];have:=cnt_le (ne p) k;omega
 refine Fc.of (args:=[_]) Tryz.func51 rfl rfl Tryz.ntmps51 nZ ?_
 repeat' (first|(refine yL ?_;first|refine a0A rfl ?_|refine yO ?_|(refine yC ?_ ?_<;>intro hc)|(refine yN hK ?_;clear hK K))|refine wG ?_|(refine yR ?_;intro K hK)|fail)
 refine agA (ι:=Nat × Value) (λ j=>[(0,.val v),(3,.val j.2),(4,.val (.int .i64 j.1))]) (λ j w'=>Ext w w'∧j.1≤S.length∧OwnI w.heap.size tK .u16 w' j.2 (adA (ne p) (cK hi j.1))) (λ j=>S.length-j.1)
  (λ w2 e2=>⟨(0,.slice none 0 0),⟨e2,Nat.zero_le _,OwnI.nil⟩,sZ⟩) ?_
 rintro ⟨i,out⟩ w1 ⟨he,hi',ho⟩;dsimp only at hi' ho ⊢;have h1:=h.ext he
 by_cases hil:i<S.length
 ·have hSi:=hS i hil
  have f2:=W.lt i hil;have hen:=r2A W hil;have hin:∀ {k:Nat},lo i / 65536≤k→k≤(hi i-1) / 65536→ne p k=true:=λ h1 h2=>bjB W hil h1 h2
  have hcs:cK hi (i+1)=(hi i-1) / 65536+1:=if_neg (Nat.succ_ne_zero i);obtain ⟨L,hL⟩:∃ L,L=lo i:=⟨_,rfl⟩;obtain ⟨H,hH⟩:∃ H,H=hi i:=⟨_,rfl⟩;rw [← hL,← hH] at hSi f2;rw [← hL] at hen;rw [← hH] at hcs;have hin':∀ {k:Nat},L / 65536≤k→k≤(H-1) / 65536→ne p k=true:=λ h1 h2=>hin oZ oZ
  clear hin hL hH W hS;obtain ⟨k0,hk0⟩:∃ k,k=L / 65536:=⟨_,rfl⟩;obtain ⟨k1,hk1⟩:∃ k,k=(H-1) / 65536:=⟨_,rfl⟩;have hq0:(L:Int) / 65536=(k0:Int):=oZ;have hs1:(H:Int)-1=((H-1:Nat):Int):=oZ;have hq1:((H-1:Nat):Int) / 65536=(k1:Int):=oZ;rw [← hk0] at hen;rw [← hk1] at hcs;have hle01:k0≤k1:=oZ;have hk1b:k1<65536:=oZ;have hin2:∀ {k:Nat},k0≤k→k≤k1→ne p k=true:=λ h1 h2=>hin' oZ oZ
  clear hin' hk0
  repeat' (first|(refine yL ?_;first|refine a0A rfl ?_|(refine oI ?_;refine atA rfl _ rfl (λ _=>rfl) rfl (HasP.val h1) rfl hil ?_;rw [hSi])|(refine oF 0 ?_;refine acA (f:=0) (o:=0) rfl rfl (λ _ _=>rfl) ?_)|(refine oL ?_;refine ayA rfl (λ _=>rfl) rfl rfl ?_;try dsimp only)|(refine c7A ?_;refine b3A rfl _ rfl rfl (HasP.val h1) ?_)|(refine oD 17 ?_;refine joA rfl rfl rfl oZ oZ fZ ?_;rw [hq0])|refine yO ?_|(refine yC ?_ ?_<;>intro hc)|(refine yN hK ?_;clear hK K))|refine wG ?_|(refine yR ?_;intro K hK)|fail)
  refine agA (ι:=Nat × Value) (λ j=>[(0,.val v),(3,.val j.2),(4,.val (.int .i64 i)),(5,.val (.int .u64 j.1))]) (λ j w'=>Ext w w'∧k0≤j.1∧j.1≤k1+1∧∃ xs,OwnI w.heap.size tK .u16 w' j.2 xs∧(xs=adA (ne p) j.1∨(j.1≤k1∧xs=adA (ne p) (j.1+1)))) (λ j=>k1+1-j.1)
   (λ w2 e2=>⟨(k0,out),⟨he.trans e2,Nat.le_refl _,by dsimp only;omega,_,ho.ext e2,hen.imp id (λ h=>⟨hle01,h⟩)⟩,sZ⟩) ?_
  rintro ⟨k,out⟩ w2 ⟨he2,g1,g2,xs,ho2,hks⟩;dsimp only at g1 g2 ho2 hks ⊢;have h2:=h.ext he2
  by_cases hkl:k≤k1
  ·have hnk:=hin2 g1 hkl
   have hnx:=oyA hnk;have hlb:=hll k oZ;have hcv:IntKind.u16.wrap (k:Int)=(k:Int):=daA .u16 _ fZ
   rcases hks with hks|⟨-,hks⟩
   ·have hlast:0<xs.length→xs.getD (xs.length-1) 0≠(k:Int):=λ h=>by
     rw [hks] at h ⊢;have:=ozA h;omega
    rw [← hks] at hlb hnx
    by_cases h0:xs.length=0
    ·skip
     repeat' (first|(refine yL ?_;first|refine a0A rfl ?_|(refine oD 21 ?_;refine atA rfl _ rfl (λ _=>rfl) rfl (HasP.val h2) rfl hil ?_;rw [hSi])|(refine oF 1 ?_;refine acA (f:=1) (o:=1) rfl rfl (λ _ _=>rfl) ?_)|(refine oD 23 ?_;refine ayA rfl (λ _=>rfl) rfl rfl ?_;try dsimp only)|(refine oD 24 ?_;refine abA rfl rfl rfl fZ ?_;rw [hs1])|(refine oD 25 ?_;refine joA rfl rfl rfl oZ oZ fZ ?_;rw [hq1])|(refine c7A ?_;refine asA rfl _ rfl rfl (HasI.ownV ho2).c ?_)|(refine oD 36 ?_;refine abA rfl rfl rfl fZ ?_;rw [show ((xs.length:Int)-1)=((xs.length-1:Nat):Int) by omega])|(refine oD 37 ?_;refine ahA rfl _ rfl (λ _=>rfl) rfl (HasI.ownV ho2) rfl oZ ?_;try rw [hgl])|(refine oV ?_;refine dwA rfl rfl rfl rfl ?_;rw [hcv])|(refine oD 46 ?_;refine hiA rfl c8A rfl rfl ?_)|(refine oD 47 ?_;refine a4A (hK _ _ (duA (w0:=w) rfl dZ c8A rfl ho2 rfl oZ oZ he2 (λ v' wv xv hov=>?_)));clear hK K;refine aiA kZ (λ K hK=>?_))|refine yO ?_|(refine yC ?_ ?_<;>intro hc)|(refine yN hK ?_;clear hK K))|refine wG ?_|(refine yR ?_;intro K hK)|fail)
     exact a6A (k+1,v') (λ w5 e5=>⟨xv.trans e5,by dsimp only;omega,by dsimp only;omega,_,hov.ext e5,.inl hnx.symm⟩) eZ sZ
    ·have hlast':=hlast oZ
     repeat' (first|(refine yL ?_;first|refine a0A rfl ?_|(refine oD 21 ?_;refine atA rfl _ rfl (λ _=>rfl) rfl (HasP.val h2) rfl hil ?_;rw [hSi])|(refine oF 1 ?_;refine acA (f:=1) (o:=1) rfl rfl (λ _ _=>rfl) ?_)|(refine oD 23 ?_;refine ayA rfl (λ _=>rfl) rfl rfl ?_;try dsimp only)|(refine oD 24 ?_;refine abA rfl rfl rfl fZ ?_;rw [hs1])|(refine oD 25 ?_;refine joA rfl rfl rfl oZ oZ fZ ?_;rw [hq1])|(refine c7A ?_;refine asA rfl _ rfl rfl (HasI.ownV ho2).c ?_)|(refine oD 36 ?_;refine abA rfl rfl rfl fZ ?_;rw [show ((xs.length:Int)-1)=((xs.length-1:Nat):Int) by omega])|(refine oD 37 ?_;refine ahA rfl _ rfl (λ _=>rfl) rfl (HasI.ownV ho2) rfl oZ ?_;try rw [hgl])|(refine oV ?_;refine dwA rfl rfl rfl rfl ?_;rw [hcv])|(refine oD 46 ?_;refine hiA rfl c8A rfl rfl ?_)|(refine oD 47 ?_;refine a4A (hK _ _ (duA (w0:=w) rfl dZ c8A rfl ho2 rfl oZ oZ he2 (λ v' wv xv hov=>?_)));clear hK K;refine aiA kZ (λ K hK=>?_))|refine yO ?_|(refine yC ?_ ?_<;>intro hc)|(refine yN hK ?_;clear hK K))|refine wG ?_|(refine yR ?_;intro K hK)|fail)
     exact a6A (k+1,v') (λ w5 e5=>⟨xv.trans e5,by dsimp only;omega,by dsimp only;omega,_,hov.ext e5,.inl hnx.symm⟩) eZ sZ
   ·have hln:xs.length-1=(adA (ne p) k).length:=by rw [hks,hnx,List.length_append,List.length_singleton];omega
    have hpos:0<xs.length:=by rw [hks,hnx,List.length_append,List.length_singleton];omega
    have hgl:xs.getD (xs.length-1) 0=(k:Int):=by
     rw [hln,hks,hnx,dmA (Nat.le_refl _),Nat.sub_self];rfl
    have hlb2:xs.length≤65537:=by rw [hks,hnx,List.length_append,List.length_singleton];omega
    clear hln
    repeat' (first|(refine yL ?_;first|refine a0A rfl ?_|(refine oD 21 ?_;refine atA rfl _ rfl (λ _=>rfl) rfl (HasP.val h2) rfl hil ?_;rw [hSi])|(refine oF 1 ?_;refine acA (f:=1) (o:=1) rfl rfl (λ _ _=>rfl) ?_)|(refine oD 23 ?_;refine ayA rfl (λ _=>rfl) rfl rfl ?_;try dsimp only)|(refine oD 24 ?_;refine abA rfl rfl rfl fZ ?_;rw [hs1])|(refine oD 25 ?_;refine joA rfl rfl rfl oZ oZ fZ ?_;rw [hq1])|(refine c7A ?_;refine asA rfl _ rfl rfl (HasI.ownV ho2).c ?_)|(refine oD 36 ?_;refine abA rfl rfl rfl fZ ?_;rw [show ((xs.length:Int)-1)=((xs.length-1:Nat):Int) by omega])|(refine oD 37 ?_;refine ahA rfl _ rfl (λ _=>rfl) rfl (HasI.ownV ho2) rfl oZ ?_;try rw [hgl])|(refine oV ?_;refine dwA rfl rfl rfl rfl ?_;rw [hcv])|(refine oD 46 ?_;refine hiA rfl c8A rfl rfl ?_)|(refine oD 47 ?_;refine a4A (hK _ _ (duA (w0:=w) rfl dZ c8A rfl ho2 rfl oZ oZ he2 (λ v' wv xv hov=>?_)));clear hK K;refine aiA kZ (λ K hK=>?_))|refine yO ?_|(refine yC ?_ ?_<;>intro hc)|(refine yN hK ?_;clear hK K))|refine wG ?_|(refine yR ?_;intro K hK)|fail)
    exact a6A (k+1,out) (λ w5 e5=>⟨he2.trans e5,by dsimp only;omega,by dsimp only;omega,_,ho2.ext e5,.inl hks⟩) eZ sZ
  ·obtain rfl:k=k1+1:=oZ
   have hxs:xs=adA (ne p) (cK hi (i+1)):=by
    rw [hcs]
    rcases hks with h|⟨h,-⟩
    ·exact h
    ·omega
   rw [hxs] at ho2
   repeat' (first|(refine yL ?_;first|refine a0A rfl ?_|(refine oD 21 ?_;refine atA rfl _ rfl (λ _=>rfl) rfl (HasP.val h2) rfl hil ?_;rw [hSi])|(refine oF 1 ?_;refine acA (f:=1) (o:=1) rfl rfl (λ _ _=>rfl) ?_)|(refine oD 23 ?_;refine ayA rfl (λ _=>rfl) rfl rfl ?_;try dsimp only)|(refine oD 24 ?_;refine abA rfl rfl rfl fZ ?_;rw [hs1])|(refine oD 25 ?_;refine joA rfl rfl rfl oZ oZ fZ ?_;rw [hq1])|(refine c7A ?_;refine asA rfl _ rfl rfl (HasI.ownV ho2).c ?_)|(refine oD 36 ?_;refine abA rfl rfl rfl fZ ?_;rw [show ((xs.length:Int)-1)=((xs.length-1:Nat):Int) by omega])|(refine oD 37 ?_;refine ahA rfl _ rfl (λ _=>rfl) rfl (HasI.ownV ho2) rfl oZ ?_;try rw [hgl])|(refine oV ?_;refine dwA rfl rfl rfl rfl ?_;rw [hcv])|(refine oD 46 ?_;refine hiA rfl c8A rfl rfl ?_)|(refine oD 47 ?_;refine a4A (hK _ _ (duA (w0:=w) rfl dZ c8A rfl ho2 rfl oZ oZ he2 (λ v' wv xv hov=>?_)));clear hK K;refine aiA kZ (λ K hK=>?_))|refine yO ?_|(refine yC ?_ ?_<;>intro hc)|(refine yN hK ?_;clear hK K))|refine wG ?_|(refine yR ?_;intro K hK)|fail)
   exact a6A (i+1,out) (λ w5 e5=>⟨he2.trans e5,hil,ho2.ext e5⟩) eZ sZ
 ·obtain rfl:i=S.length:=oZ
  rw [ufA W] at ho
  repeat' (first|(refine yL ?_;first|refine a0A rfl ?_|(refine c7A ?_;refine b3A rfl _ rfl rfl (HasP.val h1) ?_)|refine yO ?_|(refine yC ?_ ?_<;>intro hc)|(refine yN hK ?_;clear hK K))|refine wG ?_|(refine yR ?_;intro K hK)|fail)
  exact ajA rfl rfl he (λ u w5 e5 hu=>by obtain rfl:u=_:=hu;exact ho.ext e5)
def mkT (r:Nat→Bool) (F c j:Nat):Bool:=decide (F+j<c) && r (F+j)
theorem u4A {r:Nat→Bool} {F a b:Nat} (hab:a≤b) (h:∀ y,a≤y→y<b→r y=false):mkT r F b=mkT r F a:=by
 funext j
 unfold mkT
 by_cases e1:F+j<a
 ·rw [decide_eq_true e1,decide_eq_true (show F+j<b by omega)]
 ·by_cases e2:F+j<b
  ·rw [h _ oZ e2,Bool.and_false,Bool.and_false]
  ·rw [decide_eq_false e1,decide_eq_false e2]
theorem u3A {r:Nat→Bool} {F x:Nat} (h1:F≤x) (h:r x=true) (j:Nat):(if j=0+(x-F)*1 then true else mkT r F x j)=mkT r F (x+1) j:=by
 unfold mkT
 by_cases e:j=0+(x-F)*1
 ·rw [if_pos e,show F+j=x by omega,h,decide_eq_true (Nat.lt_succ_self x)];rfl
 ·rw [if_neg e]
  congr 1;exact decide_eq_decide.2 oZ
theorem ydA {p c:Nat→Bool} {key F:Nat} (hF:F=key*65536) (hc:c=itv F (F+65536)) {T:Nat} (hT:F+65536≤T):mkT (two (opF 1) p c) F T=blk p key:=by
 funext j
 have h1:two (opF 1) p c (F+j)=(p (F+j) && c (F+j)):=rfl;unfold mkT;rw [h1]
 by_cases e:j<65536
 ·rw [coA e,hc,r6A oZ oZ,Bool.and_true,decide_eq_true (show F+j<T by omega),hF];rfl
 ·rw [dnA e,hc,imA (.inr oZ),Bool.and_false,Bool.and_false]
theorem tqA {w:World} {v:Value} {p:Nat→Bool} (h:SlP .u64 w v (spL p TOP)) {key:Nat} (hk:key<65536):Fc Tryz.prog 56 #[v,.int .u16 key] w (Ret w (.pred (mkI w.heap.size tM (blk p key)))):=by
 have htop:=crA;obtain ⟨F,hF⟩:∃ F,F=key*65536:=⟨_,rfl⟩;have hFb:F+65536≤TOP:=oZ;have eF:(key:Int)*65536=(F:Int):=oZ;have eF2:(F:Int)+65536=((F+65536:Nat):Int):=oZ;have hsp:∀ w',Ext w w'→_:=λ w' e=>i8A w' (lo:=F) (hi:=F+65536) oZ oZ
 rw [Nat.min_eq_left hFb] at hsp;obtain ⟨c,hc⟩:∃ c,c=itv F (F+65536):=⟨_,rfl⟩;have hall:=ydA (p:=p) hF hc hFb;rw [← hc] at hsp;have hbo:∀ w',Ext w w'→∀ u,OwnP w.heap.size tSp .u64 w' u (spL c TOP)→_:=λ w' e u hu=>eqA w' 1 (p:=p) (q:=c) (h.ext e) hu.slP
 have hrc:∀ y,two (opF 1) p c y=true→F≤y∧y<F+65536:=λ y hy=>by
  have h1:two (opF 1) p c y=(p y && c y):=rfl;rw [h1,Bool.and_eq_true,hc,itv_iff] at hy;exact hy.2
 obtain ⟨r,hr⟩:∃ r,r=two (opF 1) p c:=⟨_,rfl⟩;rw [← hr] at hbo hrc hall;rw [← hall];obtain ⟨lo,hi,W,hS⟩:=ffA r TOP;obtain ⟨S,hSd⟩:∃ S,S=spL r TOP:=⟨_,rfl⟩;obtain ⟨C,hCd⟩:∃ C,C=spL c TOP:=⟨_,rfl⟩;have hsl:(spL r TOP).length≤4294967296:=by
  have h1:=n5A r TOP;have h2:=cnt_le r TOP;omega
 rw [← hSd] at hbo W hS hsl;rw [← hCd] at hsp hbo;clear hr hc hall hSd hCd;refine Fc.of (args:=[_,_]) Tryz.func56 rfl rfl Tryz.ntmps56 nZ ?_
 repeat' (first|(refine yL ?_;first|refine a0A rfl ?_|refine ejA rfl v7A ?_|refine j3A rfl rfl ?_|(refine oD 14 ?_;refine kwA rfl rfl rfl fZ ?_;rw [eF])|(refine oD 18 ?_;refine beA rfl rfl rfl fZ ?_;rw [eF2])|refine yO ?_|(refine yC ?_ ?_<;>intro hc)|(refine yV ?_;first|(refine oC 26 ?_;refine a3A (f:=26) rfl rfl rfl rfl  (.pred (etA w.heap.size tSp .u64 C)) (by intro u1 u2 w e hu1 hu2;(try obtain rfl:u1=_:=hu1);(try obtain rfl:u2=_:=hu2);exact (hsp _ e).mono (biA e.size rfl)) ?_)|(refine oC 23 ?_;refine alA (f:=23) rfl rfl rfl rfl rfl  (.pred (etA w.heap.size tSp .u64 S)) (by intro u1 u2 u3 w e hu1 hu2 hu3;(try obtain rfl:u1=_:=hu1);(try obtain rfl:u2=_:=hu2);(try obtain rfl:u3=_:=hu3);exact (hbo _ e _ hu2).mono (biA e.size rfl)) ?_))|(refine yN hK ?_;clear hK K))|refine wG ?_|(refine yR ?_;intro K hK)|fail)
 refine e4A 7 rfl (λ v7 w7 e7 h7=>?_);refine e4A 5 rfl (λ v5 w5 e5 h5=>?_);obtain ⟨b,hb0,rfl,hb⟩:=h5;have hT:∀ {i:Nat},¬ i<S.length→iaA TOP S.length lo i=TOP:=λ h=>fiA h
 refine agA (ι:=Nat) (λ i=>[(5,.val (.pointer (some ⟨b,0,none⟩))),(6,.val (.int .u64 F)),(7,.val v7),(8,.val (.int .i64 i))]) (λ i w'=>Ext w w'∧i≤S.length∧OwnP w.heap.size tSp .u64 w' v7 S∧w'.heap[b]?=some (.cells (marks (mkT r F (iaA TOP S.length lo i))) tM (0,0))) (λ i=>S.length-i)
  (λ w2 e2=>⟨0,⟨(e7.trans e5).trans e2,Nat.zero_le _,(OwnP.ext h7 e5).ext e2,?_⟩,sZ⟩) ?_
 ·have h0:∀ y,y<iaA TOP S.length lo 0→r y=false:=λ y hy=>W.pre y (λ h0=>by rwa [fhA h0] at hy) (by
   by_cases e:0<S.length
   ·rw [fhA e] at hy;have:=W.lt 0 e;omega
   ·rwa [fiA e] at hy)
  have:marks (mkT r F (iaA TOP S.length lo 0))=marks (λ _=>false):=ifA (λ j _=>by
   unfold mkT
   by_cases e:F+j<iaA TOP S.length lo 0
   ·rw [h0 _ e,Bool.and_false]
   ·rw [decide_eq_false e,Bool.false_and])
  rw [this];exact e2.block hb
 rintro i w1 ⟨he,hi',ho,hbl⟩
 by_cases hil:i<S.length
 ·have hSi:=hS i hil
  have f2:=W.lt i hil;obtain ⟨f3,f4⟩:=k3A W hil;have hon:=W.on i hil;have hfl:mkT r F (iaA TOP S.length lo (i+1))=mkT r F (hi i):=u4A f3 f4;rw [fhA hil] at hbl;obtain ⟨L,hL⟩:∃ L,L=lo i:=⟨_,rfl⟩;obtain ⟨H,hH⟩:∃ H,H=hi i:=⟨_,rfl⟩;rw [← hL,← hH] at hSi hon f2;rw [← hL] at hbl;rw [← hH] at hfl;clear f3 f4 hL hH W hS
  repeat' (first|(refine yL ?_;first|refine a0A rfl ?_|(refine oI ?_;refine atA rfl _ rfl (λ _=>rfl) rfl (HasP.ownV ho) rfl hil ?_;rw [hSi])|(refine oF 0 ?_;refine acA (f:=0) (o:=0) rfl rfl (λ _ _=>rfl) ?_)|(refine oL ?_;refine ayA rfl (λ _=>rfl) rfl rfl ?_;try dsimp only)|(refine c7A ?_;refine b3A rfl _ rfl rfl (HasP.ownV ho) ?_)|refine yO ?_|(refine yC ?_ ?_<;>intro hc)|(refine yN hK ?_;clear hK K))|refine wG ?_|(refine yR ?_;intro K hK)|fail)
  refine agA (ι:=Nat) (λ x=>[(5,.val (.pointer (some ⟨b,0,none⟩))),(6,.val (.int .u64 F)),(7,.val v7),(8,.val (.int .i64 i)),(9,.val (.int .u64 x))]) (λ x w'=>Ext w w'∧L≤x∧x≤H∧OwnP w.heap.size tSp .u64 w' v7 S∧w'.heap[b]?=some (.cells (marks (mkT r F x)) tM (0,0))) (λ x=>H-x)
   (λ w2 e2=>⟨L,⟨he.trans e2,Nat.le_refl _,Nat.le_of_lt f2.1,ho.ext e2,e2.block hbl⟩,sZ⟩) ?_
  rintro x w2 ⟨he2,g1,g2,ho2,hbl2⟩
  by_cases hxh:x<H
  ·have hrx:=hon x g1 hxh
   obtain ⟨d1,d2⟩:=hrc x hrx;have eX:(x:Int)-F=((x-F:Nat):Int):=oZ;have hnx:=u3A d1 hrx
   repeat' (first|(refine yL ?_;first|refine a0A rfl ?_|(refine oD 35 ?_;refine atA rfl _ rfl (λ _=>rfl) rfl (HasP.ownV ho2) rfl hil ?_;rw [hSi])|(refine oF 1 ?_;refine acA (f:=1) (o:=1) rfl rfl (λ _ _=>rfl) ?_)|(refine oL ?_;refine ayA rfl (λ _=>rfl) rfl rfl ?_;try dsimp only)|(refine oD 44 ?_;refine abA rfl rfl rfl fZ ?_;rw [eX])|refine afA rfl rfl ?_|refine dvA (n:=65536) (s:=1) rfl rfl (λ _=>rfl) rfl rfl (x-F) oZ oZ ?_|(refine a4A (hK _ _ rfl (d1A rfl rfl rfl hbl2 (λ _=>rfl) (by rw [e6A];omega) rfl rfl (λ w4 e4=>?_)));clear hK K;dsimp only [vals];refine aiA kZ (λ K hK=>?_))|(refine a4A (hK _ _ (d1A rfl rfl rfl hbl2 (λ _=>rfl) (by rw [e6A];omega) rfl rfl (λ w4 e4=>?_)));clear hK K;dsimp only [vals];refine aiA kZ (λ K hK=>?_))|refine yO ?_|(refine yC ?_ ?_<;>intro hc)|(refine yN hK ?_;clear hK K))|(refine oCX ?_;first|refine dxA 6 kZ kZ dZ (λ K hK=>?_))|refine wG ?_|(refine yR ?_;intro K hK)|fail)
   have h6:=setRow_heap w4 b _ ((marks (mkT r F x)).setIfInBounds (0+(x-F)*1) (.bool true)) _ (0,0) (e4.block hbl2);have ho4:=Own.setRow (ho2.ext e4) ((marks (mkT r F x)).setIfInBounds (0+(x-F)*1) (.bool true)) (Own.apart (ho2.ext e4) (e4.block hbl2) dZ)
   conv at h6=>rhs;rw [qvA _ _ oZ,ifA (q:=mkT r F (x+1)) (λ j _=>hnx j)]
   exact a6A (x+1) (λ w6 e6=>⟨((he2.trans e4).setRow hb0 _).trans e6,by omega,by omega,Own.ext ho4 e6,e6.block h6⟩) oZ sZ
  ·obtain rfl:x=H:=oZ
   repeat' (first|(refine yL ?_;first|refine a0A rfl ?_|(refine oD 35 ?_;refine atA rfl _ rfl (λ _=>rfl) rfl (HasP.ownV ho2) rfl hil ?_;rw [hSi])|(refine oF 1 ?_;refine acA (f:=1) (o:=1) rfl rfl (λ _ _=>rfl) ?_)|(refine oL ?_;refine ayA rfl (λ _=>rfl) rfl rfl ?_;try dsimp only)|refine yO ?_|(refine yC ?_ ?_<;>intro hc)|(refine yN hK ?_;clear hK K))|refine wG ?_|(refine yR ?_;intro K hK)|fail)
   exact a6A (i+1) (λ w6 e6=>⟨he2.trans e6,hil,ho2.ext e6,by rw [hfl];exact e6.block hbl2⟩) oZ sZ
 ·obtain rfl:i=S.length:=oZ
  rw [hT hil] at hbl
  repeat' (first|(refine yL ?_;first|refine a0A rfl ?_|(refine c7A ?_;refine b3A rfl _ rfl rfl (HasP.ownV ho) ?_)|refine yO ?_|(refine yC ?_ ?_<;>intro hc)|(refine yN hK ?_;clear hK K))|refine wG ?_|(refine yR ?_;intro K hK)|fail)
  exact ajA rfl rfl he (λ u w6 e6 hu=>by obtain rfl:u=_:=hu;exact ⟨b,rfl,hb0,e6.block hbl⟩)
end Go.Proofs.YtlnaebejmjmepaaGreatDoor
end
