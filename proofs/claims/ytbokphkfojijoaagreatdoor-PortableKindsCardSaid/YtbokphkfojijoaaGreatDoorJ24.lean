import Derived.Test.YtbokphkfojijoaaGreatDoorJ12
import Derived.Test.YtbokphkfojijoaaGreatDoorJ15
import Derived.Test.YtbokphkfojijoaaGreatDoorJ17
import Derived.Test.YtbokphkfojijoaaGreatDoorJ18
import Derived.Test.YtbokphkfojijoaaGreatDoorJ19
import Derived.Test.YtbokphkfojijoaaGreatDoorJ20
import Derived.Test.YtbokphkfojijoaaGreatDoorJ22
import Derived.Test.YtbokphkfojijoaaGreatDoorJ23
set_option linter.unusedSimpArgs false
set_option linter.unusedVariables false
set_option maxRecDepth 3000
set_option maxHeartbeats 16000000
section
namespace Go.Proofs.YtbokphkfojijoaaGreatDoor.Pt
open Go.LA Go.ArrP Go.RowKit
theorem o7A {w w1 wu wv:World} {v v':Value} {a b:List Int} (h:OwnI w.heap.size tB .u8 w1 v a) (x:Ext w w1) (eu:Ext w1 wu) (ho:LA.Own 0 tB 1 wv v' (a.length+b.length) (a.map (Value.int .u8)++b.map (Value.int .u8))) (hfr:Fr (λ k=>v.ownBlock=some k) wu wv) (hlc:LocR wu v v') :
 Ext w wv∧OwnI w.heap.size tB .u8 wv v' (a++b):=by
 have hx:=x.trans eu;refine ⟨Fr.ext hx hfr (λ k hk=>(Own.lt h k hk).1),?_⟩;unfold OwnI;rw [List.map_append,List.length_append];exact Own.rebase ho (hlc.ge (λ k hk=>(Own.lt h k hk).1) hx.size)
theorem j8A (w:World) {n:Int} (h0:0≤n) (hn:n<4611686018427387904):Fc Tryz.prog 45 #[.int .i64 n] w (Ret w (.pred (axA w.heap.size tB .u8 (leS n 2)))):=by
 have h1:0≤n % 256∧n % 256<256:=oZ;have h2:0≤n / 256 % 256∧n / 256 % 256<256:=oZ;have hl:leS n 2=[n % 256,n / 256 % 256]:=rfl;rw [hl];refine Fc.of (args:=[_]) Tryz.func45 rfl rfl Tryz.ntmps45 nZ ?_
 repeat' (first|(refine yL ?_;first|refine a0A rfl ?_|(refine oD 10 ?_;refine obA rfl e5A rfl rfl rfl rfl ?_)|refine yO ?_|(refine yC ?_ ?_<;>intro hc)|(refine yN hK ?_;clear hK K))|refine wG ?_|(refine yR ?_;intro K hK)|fail)
 exact aiA rfl rfl (Ext.refl _) (λ u w5 e5 hu=>hu)
theorem r1A (w:World) {n:Int} (h0:0≤n) (hn:n<4611686018427387904):Fc Tryz.prog 46 #[.int .i64 n] w (Ret w (.pred (axA w.heap.size tB .u8 (leS n 4)))):=by
 have hj:=nqA (n % 65536) (n / 65536) oZ oZ oZ;rw [show n % 65536+65536*(n / 65536)=n by omega] at hj;rw [← hj];refine Fc.of (args:=[_]) Tryz.func46 rfl rfl Tryz.ntmps46 nZ ?_
 repeat' (first|(refine yL ?_;first|refine a0A rfl ?_|(refine oD 9 ?_;refine a3A (hK _ _ (awA 5 rfl (λ va wa ea ha=>awA 8 rfl (λ vb wb eb hb=>?_))));clear hK K;replace ha:OwnI w.heap.size tB .u8 wa va (leS (n % 65536) 2):=ha;replace hb:OwnI w.heap.size tB .u8 wb vb (leS (n / 65536) 2):=hb;refine anA rfl dZ e5A rfl (OwnI.ext ha eb) rfl (HasI.ownV hb).c buA (by unfold maxLen;simp only [akA];omega) (by simp only [akA];omega) (λ v' wu wv eu ho hfr hlc=>?_);refine abA kZ (λ K hK=>?_))|refine yO ?_|(refine yC ?_ ?_<;>intro hc)|(refine yV ?_;first|(refine oD 5 ?_;refine oC 45 ?_;refine a1A (f:=45) rfl rfl rfl  (.pred (axA w.heap.size tB .u8 (leS (n % 65536) 2))) (by intro u1 w e hu1;(try obtain rfl:u1=_:=hu1);exact (j8A _ oZ oZ).mono (a6A e.size)) ?_)|(refine oD 8 ?_;refine oC 45 ?_;refine a1A (f:=45) rfl rfl rfl  (.pred (axA w.heap.size tB .u8 (leS (n / 65536) 2))) (by intro u1 w e hu1;(try obtain rfl:u1=_:=hu1);exact (j8A _ oZ oZ).mono (a6A e.size)) ?_))|(refine yN hK ?_;clear hK K))|refine wG ?_|(refine yR ?_;intro K hK)|fail)
 obtain ⟨x3,hn3⟩:=o7A (OwnI.ext ha eb) (ea.trans eb) eu ho hfr hlc;exact aiA rfl rfl x3 (λ u w5 e5 hu=>by obtain rfl:u=_:=hu;exact OwnI.ext hn3 e5)
theorem npA (n:Int):∀ k,leS n (k+1)=leS n k++[n / 256 ^ k % 256]
 | 0=>by simp [leS]
 | k+1=>by
   have ih:=npA (n / 256) k;show (n % 256)::leS (n / 256) (k+1)=_;rw [ih,Int.ediv_ediv_of_nonneg (by omega:(0:Int)≤256),Int.pow_succ,Int.mul_comm (256 ^ k) 256];rfl
theorem wrapK (x:Int) (k:Nat):IntKind.u8.wrap (x / 2 ^ ((8*k:Nat):Int).toNat)=x / 256 ^ k % 256:=by
 rw [Int.toNat_natCast,Int.pow_mul];rfl
def kdF (q:Nat→Bool) (f:Bool):Int:=if f then 3 else if cnt q 65536≤4096 then 1 else 2
theorem wnA {w:World} {v:Value} {q:Nat→Bool} {base:Nat} (h:MkI base tM w v q) (f:Bool):Fc Tryz.prog 48 #[v,.int .u8 (kdF q f)] w (Ret w (.pred (axA w.heap.size tB .u8 (cfA q f)))):=by
 cases f with
 | true =>
   have hk:kdF q true=3:=rfl;have hr:∀ w',Ext w w'→_:=λ w' e=>pvA w' v base q (h.ext e)
   have hfew:=ggA q;have hu:=dvA q;have hbf:cfA q true=leS (alA q).length 2++flG luA (alA q):=by unfold cfA;rw [if_pos rfl]
   rw [hbf,hk];obtain ⟨rs,hrs⟩:∃ rs,rs=alA q:=⟨_,rfl⟩;rw [← hrs] at hr hfew hu ⊢;clear hrs hbf hk;refine Fc.of (args:=[_,_]) Tryz.func48 rfl rfl Tryz.ntmps48 nZ ?_
   repeat' (first|(refine yL ?_;first|refine a0A rfl ?_|(refine oD 44 ?_;refine c8A rfl _ rfl rfl HasR.own ?_)|(refine oD 46 ?_;refine a3A (hK _ _ (awA 6 rfl (λ v6 w6 e6 h6=>awA 45 rfl (λ vb wb eb hb=>?_))));clear hK K;replace hb:OwnI w.heap.size tB .u8 wb vb (leS rs.length 2):=hb;refine anA (v:=nilS) (cs:=[]) (n:=0) rfl dZ e5A rfl (base:=w.heap.size) Own.nil rfl (HasI.ownV hb).c buA (by unfold maxLen;simp only [akA];omega) (by simp only [akA];omega) (λ v' wu wv eu ho hfr hlc=>?_);refine abA kZ (λ K hK=>?_))|refine yO ?_|(refine yC ?_ ?_<;>intro hc)|(refine yV ?_;first|(refine oC 84 ?_;refine a1A (f:=84) rfl rfl rfl  (.pred (euA w.heap.size tRn rs)) (by intro u1 w e hu1;(try obtain rfl:u1=_:=hu1);exact (hr _ e).mono (avA e.size rfl)) ?_)|(refine oC 45 ?_;refine a1A (f:=45) rfl rfl rfl  (.pred (axA w.heap.size tB .u8 (leS rs.length 2))) (by intro u1 w e hu1;(try obtain rfl:u1=_:=hu1);exact (j8A _ oZ oZ).mono (a6A e.size)) ?_))|(refine yN hK ?_;clear hK K))|refine wG ?_|(refine yR ?_;intro K hK)|fail)
   obtain ⟨x3,hn3⟩:=o7A (a:=[]) (b:=leS rs.length 2) OwnI.nil (e6.trans eb) eu ho hfr hlc;rw [List.nil_append] at hn3;replace h6:OwnR w.heap.size tRn w6 v6 rs:=h6;have h6v:OwnR w.heap.size tRn wv v6 rs:=bvA (OwnR.ext h6 (eb.trans eu)) hfr (λ k hk=>by cases hk)
   refine aaA (ι:=Nat × Value) (λ j=>[(5,.val j.2),(6,.val v6),(7,.val (.int .i64 j.1))])
    (λ j w'=>Ext w w'∧OwnR w.heap.size tRn w' v6 rs∧j.1≤rs.length∧OwnI w.heap.size tB .u8 w' j.2 (leS rs.length 2++flG luA (rs.take j.1))) (λ j=>rs.length-j.1)
    (λ w4 e4=>⟨(0,v'),⟨x3.trans e4,OwnR.ext h6v e4,Nat.zero_le _,by rw [List.take_zero];show OwnI _ _ _ _ _ (_++[]);rw [List.append_nil];exact OwnI.ext hn3 e4⟩,sZ⟩) ?_
   rintro ⟨i,v4⟩ w4 ⟨he,hR,hi,h4⟩;dsimp only at hi h4 ⊢
   by_cases hil:i<rs.length
   ·have hl4:(leS rs.length 2++flG luA (rs.take i)).length≤200000:=by rw [List.length_append,akA,csA _ ghA,List.length_take];omega
    obtain ⟨g1,g2,g3,g4⟩:=hu _ (show rs.getD i (0,0) ∈ rs by rw [List.getD_eq_getElem?_getD,List.getElem?_eq_getElem hil];exact List.getElem_mem hil);have htk:=f5A luA (0,0) hil;obtain ⟨⟨fx,mx⟩,hfm⟩:∃ r,r=rs.getD i (0,0):=⟨_,rfl⟩;rw [← hfm] at g1 g2 g3 g4 htk;have hf1:fst rs i=fx:=by show (rs.getD i (0,0)).1=fx;rw [← hfm]
    have hm1:mor rs i=mx:=by show (rs.getD i (0,0)).2=mx;rw [← hfm]
    dsimp only at g1 g2 g3 g4;obtain ⟨ys,hys⟩:∃ ys,ys=leS rs.length 2++flG luA (rs.take i):=⟨_,rfl⟩;rw [← hys] at h4 hl4
    repeat' (first|(refine yL ?_;first|refine a0A rfl ?_|(refine oD 49 ?_;refine c8A rfl _ rfl rfl (HasR.ownV hR) ?_)|(refine oD 56 ?_;refine boA rfl _ rfl (λ _=>rfl) rfl (HasR.ownV hR) rfl hil ?_;rw [hf1,hm1])|(refine oD 65 ?_;refine boA rfl _ rfl (λ _=>rfl) rfl (HasR.ownV hR1) rfl hil ?_;rw [hf1,hm1])|(refine oF 0 ?_;refine adA (f:=0) (o:=0) rfl rfl (λ _ _=>rfl) ?_)|(refine oF 1 ?_;refine adA (f:=1) (o:=1) rfl rfl (λ _ _=>rfl) ?_)|(refine oL ?_;refine b9A rfl (λ _=>rfl) rfl rfl ?_)|(refine oD 61 ?_;refine a3A (hK _ _ (awA 60 rfl (λ vb1 wb1 eb1 hb1=>?_)));clear hK K;replace hb1:OwnI w.heap.size tB .u8 wb1 vb1 (leS fx 2):=hb1;refine anA rfl dZ e5A rfl (OwnI.ext h4 eb1) rfl (HasI.ownV hb1).c buA (by unfold maxLen;simp only [List.length_append,akA];omega) (by simp only [List.length_append,akA];omega) (λ v1 wu1 wv1 eu1 ho1 hfr1 hlc1=>?_);obtain ⟨x1,hn1⟩:=o7A (OwnI.ext h4 eb1) (he.trans eb1) eu1 ho1 hfr1 hlc1;have hR1:OwnR w.heap.size tRn wv1 v6 rs:=bvA (OwnR.ext hR (eb1.trans eu1)) hfr1 (λ k hk=>by obtain ⟨cur,hc⟩:=asA (OwnI.ext h4 (eb1.trans eu1)) hk;exact ⟨cur,_,_,hc,by decide⟩);refine abA kZ (λ K hK=>?_))|(refine oD 70 ?_;refine a3A (hK _ _ (awA 69 rfl (λ vb2 wb2 eb2 hb2=>?_)));clear hK K;replace hb2:OwnI w.heap.size tB .u8 wb2 vb2 (leS mx 2):=hb2;refine anA rfl dZ e5A rfl (OwnI.ext hn1 eb2) rfl (HasI.ownV hb2).c buA (by unfold maxLen;simp only [List.length_append,akA];omega) (by simp only [List.length_append,akA];omega) (λ v2 wu2 wv2 eu2 ho2 hfr2 hlc2=>?_);obtain ⟨x2,hn2⟩:=o7A (OwnI.ext hn1 eb2) (x1.trans eb2) eu2 ho2 hfr2 hlc2;have hR2:OwnR w.heap.size tRn wv2 v6 rs:=bvA (OwnR.ext hR1 (eb2.trans eu2)) hfr2 (λ k hk=>by obtain ⟨cur,hc⟩:=asA (OwnI.ext hn1 (eb2.trans eu2)) hk;exact ⟨cur,_,_,hc,by decide⟩);refine abA kZ (λ K hK=>?_))|refine yO ?_|(refine yC ?_ ?_<;>intro hc)|(refine yV ?_;first|(refine oD 60 ?_;refine oC 45 ?_;refine a1A (f:=45) rfl rfl rfl  (.pred (axA w.heap.size tB .u8 (leS fx 2))) (by intro u1 w e hu1;(try obtain rfl:u1=_:=hu1);exact (j8A _ oZ oZ).mono (a6A (he.trans e).size)) ?_)|(refine oD 69 ?_;refine oC 45 ?_;refine a1A (f:=45) rfl rfl rfl  (.pred (axA w.heap.size tB .u8 (leS mx 2))) (by intro u1 w e hu1;(try obtain rfl:u1=_:=hu1);exact (j8A _ oZ oZ).mono (a6A (x1.trans e).size)) ?_))|(refine yN hK ?_;clear hK K))|refine wG ?_|(refine yR ?_;intro K hK)|fail)
    exact a4A (i+1,v2) (λ w6 e6=>⟨x2.trans e6,OwnR.ext hR2 e6,hil,by rw [htk,← List.append_assoc,← hys];unfold luA;rw [← List.append_assoc];exact OwnI.ext hn2 e6⟩) eZ sZ
   ·obtain rfl:i=rs.length:=oZ
    rw [List.take_length] at h4
    repeat' (first|(refine yL ?_;first|refine a0A rfl ?_|(refine oD 49 ?_;refine c8A rfl _ rfl rfl (HasR.ownV hR) ?_)|refine yO ?_|(refine yC ?_ ?_<;>intro hc)|(refine yN hK ?_;clear hK K))|refine wG ?_|(refine yR ?_;intro K hK)|fail)
    exact aiA rfl rfl he (λ u w5 e5 hu=>by obtain rfl:u=_:=hu;exact OwnI.ext h4 e5)
 | false =>
   by_cases h4096:cnt q 65536≤4096
   ·have hk:kdF q false=1:=by unfold kdF;rw [if_neg dZ,if_pos h4096]
    have hr:∀ w',Ext w w'→_:=λ w' e=>m9A w' v base q (h.ext e)
    have hbf:cfA q false=flG (λ x=>leS x 2) (aeA q 65536):=by unfold cfA;rw [if_neg dZ,if_pos h4096]
    have hln:(aeA q 65536).length≤4096:=by rw [ayA];exact h4096
    have hu:∀ x ∈ aeA q 65536,0≤x∧x<65536:=λ x hx=>by
     obtain ⟨i,g1,-,g3⟩:=(byA _ _ _).1 hx;omega
    rw [hbf,hk];obtain ⟨rs,hrs⟩:∃ rs,rs=aeA q 65536:=⟨_,rfl⟩;rw [← hrs] at hr hln hu ⊢;clear hrs hbf hk h4096;refine Fc.of (args:=[_,_]) Tryz.func48 rfl rfl Tryz.ntmps48 nZ ?_
    repeat' (first|(refine yL ?_;first|refine a0A rfl ?_|refine yO ?_|(refine yC ?_ ?_<;>intro hc)|(refine yV ?_;first|(refine oC 47 ?_;refine a1A (f:=47) rfl rfl rfl  (.pred (axA w.heap.size tK .u16 rs)) (by intro u1 w e hu1;(try obtain rfl:u1=_:=hu1);exact (hr _ e).mono (a6A e.size)) ?_))|(refine yN hK ?_;clear hK K))|refine wG ?_|(refine yR ?_;intro K hK)|fail)
    refine bwA 8 rfl (λ v6 w6 e6 h6=>?_);replace h6:OwnI w.heap.size tK .u16 w6 v6 rs:=h6
    refine aaA (ι:=Nat × Value) (λ j=>[(5,.val j.2),(8,.val v6),(9,.val (.int .i64 j.1))])
     (λ j w'=>Ext w w'∧OwnI w.heap.size tK .u16 w' v6 rs∧j.1≤rs.length∧OwnI w.heap.size tB .u8 w' j.2 (flG (λ x=>leS x 2) (rs.take j.1))) (λ j=>rs.length-j.1)
     (λ w4 e4=>⟨(0,nilS),⟨e6.trans e4,OwnI.ext h6 e4,Nat.zero_le _,by rw [List.take_zero];exact OwnI.nil⟩,sZ⟩) ?_
    rintro ⟨i,v4⟩ w4 ⟨he,hR,hi,h4⟩;dsimp only at hi h4 ⊢
    by_cases hil:i<rs.length
    ·have hl4:(flG (λ x=>leS x 2) (rs.take i)).length≤200000:=by rw [csA _ (λ x=>akA x 2),List.length_take];omega
     obtain ⟨g1,g2⟩:=hu _ (show rs.getD i 0 ∈ rs by rw [List.getD_eq_getElem?_getD,List.getElem?_eq_getElem hil];exact List.getElem_mem hil);have htk:=f5A (λ x=>leS x 2) (0:Int) hil;obtain ⟨fx,hfm⟩:∃ r,r=rs.getD i 0:=⟨_,rfl⟩;rw [← hfm] at g1 g2 htk;obtain ⟨ys,hys⟩:∃ ys,ys=flG (λ x=>leS x 2) (rs.take i):=⟨_,rfl⟩;rw [← hys] at h4 hl4 htk
     repeat' (first|(refine yL ?_;first|refine a0A rfl ?_|(refine d3A ?_;refine azA rfl _ rfl rfl (HasI.ownV hR).c ?_)|(refine oD 84 ?_;refine agA rfl _ rfl (λ _=>rfl) rfl (HasI.ownV hR) rfl hil ?_;rw [← hfm])|(refine oD 88 ?_;refine a3A (hK _ _ (awA 87 rfl (λ vb1 wb1 eb1 hb1=>?_)));clear hK K;replace hb1:OwnI w.heap.size tB .u8 wb1 vb1 (leS fx 2):=hb1;refine anA rfl dZ e5A rfl (OwnI.ext h4 eb1) rfl (HasI.ownV hb1).c buA (by unfold maxLen;simp only [List.length_append,akA];omega) (by simp only [List.length_append,akA];omega) (λ v1 wu1 wv1 eu1 ho1 hfr1 hlc1=>?_);obtain ⟨x1,hn1⟩:=o7A (OwnI.ext h4 eb1) (he.trans eb1) eu1 ho1 hfr1 hlc1;have hR1:OwnI w.heap.size tK .u16 wv1 v6 rs:=bvA (OwnI.ext hR (eb1.trans eu1)) hfr1 (λ k hk=>by obtain ⟨cur,hc⟩:=asA (OwnI.ext h4 (eb1.trans eu1)) hk;exact ⟨cur,_,_,hc,by decide⟩);refine abA kZ (λ K hK=>?_))|refine yO ?_|(refine yC ?_ ?_<;>intro hc)|(refine yV ?_;first|(refine oD 87 ?_;refine oC 45 ?_;refine a1A (f:=45) rfl rfl rfl  (.pred (axA w.heap.size tB .u8 (leS fx 2))) (by intro u1 w e hu1;(try obtain rfl:u1=_:=hu1);exact (j8A _ oZ oZ).mono (a6A (he.trans e).size)) ?_))|(refine yN hK ?_;clear hK K))|refine wG ?_|(refine yR ?_;intro K hK)|fail)
     exact a4A (i+1,v1) (λ w6 e6=>⟨x1.trans e6,OwnI.ext hR1 e6,hil,by dsimp only;rw [htk];exact OwnI.ext hn1 e6⟩) eZ sZ
    ·obtain rfl:i=rs.length:=oZ
     rw [List.take_length] at h4
     repeat' (first|(refine yL ?_;first|refine a0A rfl ?_|(refine d3A ?_;refine azA rfl _ rfl rfl (HasI.ownV hR).c ?_)|refine yO ?_|(refine yC ?_ ?_<;>intro hc)|(refine yN hK ?_;clear hK K))|refine wG ?_|(refine yR ?_;intro K hK)|fail)
     exact aiA rfl rfl he (λ u w5 e5 hu=>by obtain rfl:u=_:=hu;exact OwnI.ext h4 e5)
   ·have hk:kdF q false=2:=by unfold kdF;rw [if_neg dZ,if_neg h4096]
    have hr:∀ w',Ext w w'→_:=λ w' e=>sxA w' v base q (h.ext e)
    have hbf:cfA q false=flG (λ x=>leS x 8) (wordsOf q):=by unfold cfA;rw [if_neg dZ,if_neg h4096]
    have hln:(wordsOf q).length=1024:=aqA q;have hu:∀ x ∈ wordsOf q,0≤x∧x<18446744073709551616:=λ x hx=>bnA q x hx
    rw [hbf,hk];obtain ⟨rs,hrs⟩:∃ rs,rs=wordsOf q:=⟨_,rfl⟩;rw [← hrs] at hr hln hu ⊢;clear hrs hbf hk h4096;refine Fc.of (args:=[_,_]) Tryz.func48 rfl rfl Tryz.ntmps48 nZ ?_
    repeat' (first|(refine yL ?_;first|refine a0A rfl ?_|refine yO ?_|(refine yC ?_ ?_<;>intro hc)|(refine yV ?_;first|(refine oC 85 ?_;refine a1A (f:=85) rfl rfl rfl  (.pred (axA w.heap.size 61 .u64 rs)) (by intro u1 w e hu1;(try obtain rfl:u1=_:=hu1);exact (hr _ e).mono (a6A e.size)) ?_))|(refine yN hK ?_;clear hK K))|refine wG ?_|(refine yR ?_;intro K hK)|fail)
    refine bwA 10 rfl (λ v6 w6 e6 h6=>?_);replace h6:OwnI w.heap.size 61 .u64 w6 v6 rs:=h6
    refine aaA (ι:=Nat × Value) (λ j=>[(5,.val j.2),(10,.val v6),(11,.val (.int .i64 j.1))])
     (λ j w'=>Ext w w'∧OwnI w.heap.size 61 .u64 w' v6 rs∧j.1≤rs.length∧OwnI w.heap.size tB .u8 w' j.2 (flG (λ x=>leS x 8) (rs.take j.1))) (λ j=>rs.length-j.1)
     (λ w4 e4=>⟨(0,nilS),⟨e6.trans e4,OwnI.ext h6 e4,Nat.zero_le _,by rw [List.take_zero];exact OwnI.nil⟩,sZ⟩) ?_
    rintro ⟨i,v4⟩ w4 ⟨he,hR,hi,h4⟩;dsimp only at hi h4 ⊢
    by_cases hil:i<rs.length
    ·have hl4:(flG (λ x=>leS x 8) (rs.take i)).length≤20000:=by rw [csA _ (λ x=>akA x 8),List.length_take];omega
     obtain ⟨g1,g2⟩:=hu _ (show rs.getD i 0 ∈ rs by rw [List.getD_eq_getElem?_getD,List.getElem?_eq_getElem hil];exact List.getElem_mem hil);have htk:=f5A (λ x=>leS x 8) (0:Int) hil;obtain ⟨fx,hfm⟩:∃ r,r=rs.getD i 0:=⟨_,rfl⟩;rw [← hfm] at g1 g2 htk;obtain ⟨ys,hys⟩:∃ ys,ys=flG (λ x=>leS x 8) (rs.take i):=⟨_,rfl⟩;rw [← hys] at h4 hl4 htk
     repeat' (first|(refine yL ?_;first|refine a0A rfl ?_|(refine d3A ?_;refine azA rfl _ rfl rfl (HasI.ownV hR).c ?_)|refine yO ?_|(refine yC ?_ ?_<;>intro hc)|(refine yN hK ?_;clear hK K))|refine wG ?_|(refine yR ?_;intro K hK)|fail)
     refine aaA (ι:=Nat × Value) (λ j=>[(5,.val j.2),(10,.val v6),(11,.val (.int .i64 i)),(12,.val (.int .i64 j.1))])
      (λ j w'=>Ext w w'∧OwnI w.heap.size 61 .u64 w' v6 rs∧j.1≤8∧OwnI w.heap.size tB .u8 w' j.2 (ys++leS fx j.1)) (λ j=>8-j.1)
      (λ w5 e5=>⟨(0,v4),⟨he.trans e5,OwnI.ext hR e5,Nat.zero_le _,by show OwnI _ _ _ _ _ (_++[]);rw [List.append_nil];exact OwnI.ext h4 e5⟩,sZ⟩) ?_
     clear he hR h4 w4;rintro ⟨k,v4⟩ w4 ⟨he,hR,hk8,h4⟩;dsimp only at hk8 h4 ⊢
     by_cases hk:k<8
     ·have hsn:=npA fx k
      have hll:=akA fx k;have hwr:=wrapK fx k;obtain ⟨zs,hzs⟩:∃ zs,zs=ys++leS fx k:=⟨_,rfl⟩;have hzl:zs.length≤30000:=by rw [hzs,List.length_append];omega
      have hzn:ys++leS fx (k+1)=zs++[fx / 256 ^ k % 256]:=by rw [hsn,hzs,List.append_assoc]
      rw [← hzs] at h4;obtain ⟨y,hy⟩:∃ y,y=fx / 256 ^ k % 256:=⟨_,rfl⟩;rw [← hy] at hwr hzn
      repeat' (first|(refine yL ?_;first|refine a0A rfl ?_|(refine oD 29 ?_;refine agA rfl _ rfl (λ _=>rfl) rfl (HasI.ownV hR) rfl hil ?_;rw [← hfm])|(refine oD 32 ?_;refine ejA rfl rfl rfl fZ ?_;rw [show (8:Int)*(k:Int)=((8*k:Nat):Int) by omega])|(refine oD 34 ?_;refine jaA rfl rfl rfl ?_)|(refine oD 35 ?_;refine e8A rfl rfl rfl rfl ?_;rw [hwr])|(refine oD 36 ?_;refine ftA rfl e5A rfl rfl ?_)|(refine oD 37 ?_;refine a3A (hK _ _ (anA rfl dZ e5A rfl h4 rfl HasC.pred (λ u hu=>by rw [List.mem_singleton] at hu;subst hu;rfl) (by unfold maxLen;omega) oZ (λ v1 wu1 wv1 eu1 ho1 hfr1 hlc1=>?_)));clear hK K;obtain ⟨x1,hn1⟩:=o7A (b:=[y]) h4 he eu1 ho1 hfr1 hlc1;have hR1:OwnI w.heap.size 61 .u64 wv1 v6 rs:=bvA (OwnI.ext hR eu1) hfr1 (λ k hk=>by obtain ⟨cur,hc⟩:=asA (OwnI.ext h4 eu1) hk;exact ⟨cur,_,_,hc,by decide⟩);refine abA kZ (λ K hK=>?_))|refine yO ?_|(refine yC ?_ ?_<;>intro hc)|(refine yN hK ?_;clear hK K))|refine wG ?_|(refine yR ?_;intro K hK)|fail)
      exact a4A (k+1,v1) (λ w6 e6=>⟨x1.trans e6,OwnI.ext hR1 e6,hk,by dsimp only;rw [hzn];exact OwnI.ext hn1 e6⟩) eZ sZ
     ·obtain rfl:k=8:=oZ
      rw [← htk] at h4
      repeat' (first|(refine yL ?_;first|refine a0A rfl ?_|refine yO ?_|(refine yC ?_ ?_<;>intro hc)|(refine yN hK ?_;clear hK K))|refine wG ?_|(refine yR ?_;intro K hK)|fail)
      exact a4A (i+1,v4) (λ w6 e6=>⟨he.trans e6,OwnI.ext hR e6,hil,OwnI.ext h4 e6⟩) eZ sZ
    ·obtain rfl:i=rs.length:=oZ
     rw [List.take_length] at h4
     repeat' (first|(refine yL ?_;first|refine a0A rfl ?_|(refine d3A ?_;refine azA rfl _ rfl rfl (HasI.ownV hR).c ?_)|refine yO ?_|(refine yC ?_ ?_<;>intro hc)|(refine yN hK ?_;clear hK K))|refine wG ?_|(refine yR ?_;intro K hK)|fail)
     exact aiA rfl rfl he (λ u w5 e5 hu=>by obtain rfl:u=_:=hu;exact OwnI.ext h4 e5)
abbrev tBs:Nat:=35
theorem zoA:El Tryz.prog 79 35 (.slice none 0 0) 1 24:=⟨rfl,rfl,rfl,by decide⟩
def isA (f:Nat→Bool) (n:Nat):List Value:=(List.range n).map (λ i=>Value.bool (f i))
theorem roA {f:Nat→Bool} {n i:Nat} (h:i<n):(isA f n).getD i undef=.bool (f i):=by
 simp [isA,List.getD_eq_getElem?_getD,List.getElem?_range h]
theorem rnA (f:Nat→Bool) (n:Nat):(isA f n).length=n:=by simp [isA]
structure BRow (base:Nat) (w:World) (vbs:Value) (bs:List Value) (n:Nat) (p f:Nat→Bool) (vo:Value):Prop where
 own:LA.Own base tBs 1 w vbs n bs
 at_:∀ j,j<n→OwnI base tB .u8 w (bs.getD j undef) (d2A p f j)
 ap:∀ j,j<n→∀ k,(bs.getD j undef).ownBlock=some k→vo.ownBlock≠some k
theorem BRow.ext {base n:Nat} {w w':World} {vbs vo:Value} {bs:List Value} {p f:Nat→Bool} (h:BRow base w vbs bs n p f vo) (e:Ext w w'):BRow base w' vbs bs n p f vo:=⟨h.own.ext e,λ j hj=>(h.at_ j hj).ext e,h.ap⟩
theorem BRow.nil {base:Nat} {w:World} {p f:Nat→Bool} {vo:Value}:BRow base w nilS [] 0 p f vo:=⟨Own.nil,λ j hj=>absurd hj (Nat.not_lt_zero _),λ j hj=>absurd hj (Nat.not_lt_zero _)⟩
theorem BRow.grow {base n:Nat} {w w':World} {vbs vo v':Value} {bs:List Value} {p f:Nat→Bool} {a:List Int} (h:BRow base w vbs bs n p f vo) (ha:OwnI base tB .u8 w vo a) (hfr:Fr (λ k=>vo.ownBlock=some k) w w') (hlc:LocR w vo v'):BRow base w' vbs bs n p f v':=by
 refine ⟨bvA h.own hfr (λ k hk=>?_),λ j hj=>hfr.own (h.at_ j hj) (λ k hk=>h.ap j hj k hk),λ j hj k hk=>?_⟩
 ·obtain ⟨cur,hc⟩:=asA ha hk
  exact ⟨cur,_,_,hc,by decide⟩
 ·rcases hlc with e|e
  ·rw [e];exact h.ap j hj k hk
  ·intro hv
   have h1:=e k hv;have h2:=(Own.lt (h.at_ j hj) k hk).2;omega
theorem BRow.push {base n:Nat} {w w':World} {vbs vo v' u:Value} {bs:List Value} {p f:Nat→Bool} (h:BRow base w vbs bs n p f vo) (hu:OwnI base tB .u8 w u (d2A p f n)) (hap:∀ k,u.ownBlock=some k→vo.ownBlock≠some k) (ho:LA.Own 0 tBs 1 w' v' (n+1) (bs++[u])) (hfr:Fr (λ k=>vbs.ownBlock=some k) w w') (hlc:LocR w vbs v') (hb:base≤w.heap.size):BRow base w' v' (bs++[u]) (n+1) p f vo:=by
 have hoff:∀ {x:Value} {xs:List Int},OwnI base tB .u8 w x xs→OwnI base tB .u8 w' x xs:=λ hx=>bvA hx hfr (λ k hk=>by
  obtain ⟨cur,hc⟩:=asA h.own hk;exact ⟨cur,_,_,hc,by decide⟩)
 refine ⟨Own.rebase ho (hlc.ge (λ k hk=>(Own.lt h.own k hk).1) hb),λ j hj=>?_,λ j hj k hk=>?_⟩
 ·rw [glA h.own.lenV]
  by_cases e:j<n
  ·rw [if_pos e];exact hoff (h.at_ j e)
  ·obtain rfl:j=n:=oZ
   rw [if_neg e,if_pos rfl];exact hoff hu
 ·rw [glA h.own.lenV] at hk
  by_cases e:j<n
  ·rw [if_pos e] at hk;exact h.ap j e k hk
  ·obtain rfl:j=n:=oZ
   rw [if_neg e,if_pos rfl] at hk;exact hap k hk
theorem BRow.keep {base n:Nat} {w w':World} {vbs vo:Value} {bs:List Value} {p f:Nat→Bool} {a:List Int} (h:BRow base w vbs bs n p f vo) (ha:OwnI base tB .u8 w vo a) (hfr:Fr (λ k=>vbs.ownBlock=some k) w w'):OwnI base tB .u8 w' vo a:=bvA ha hfr (λ k hk=>by
 obtain ⟨cur,hc⟩:=asA h.own hk;exact ⟨cur,_,_,hc,by decide⟩)
theorem shl8 {i:Nat} (hi:i<8):IntKind.u8.wrap (1*2 ^ ((i:Nat):Int).toNat)=((2 ^ i:Nat):Int):=by
 have h1:2 ^ i≤2 ^ 7:=Nat.pow_le_pow_right dZ oZ;have h2:((1:Int)*2 ^ ((i:Nat):Int).toNat)=((2 ^ i:Nat):Int):=by rw [Int.toNat_natCast,Int.one_mul];norm_cast
 have h3:fits .u8 ((2 ^ i:Nat):Int):=by
  obtain ⟨P,hP⟩:∃ P,P=2 ^ i:=⟨_,rfl⟩;rw [← hP] at h1 ⊢;dsimp only [fits];omega
 rw [h2];exact ctA .u8 _ h3
theorem m1A {base e:Nat} {k:IntKind} {xs:List Int} (u:Value) (w:World) (h:(axA base e k xs).p u w):u.cells=#[u]∧u.oneCell'=true:=⟨OwnI.cells (h:OwnI base e k w u xs),OwnI.one (h:OwnI base e k w u xs)⟩
theorem qyA {w:World} {v0 v1 v2:Value} {p f:Nat→Bool} {ms:List Value} (h0:SlI .u16 w v0 (b7A p)) (h1:SlC w v1 (nk p) 1 ms) (hms:∀ i,i<nk p→∃ base,MkI base tM w (ms.getD i undef) (blk p (kp p i))) (h2:SlC w v2 (nk p) 1 (isA f (nk p))) (hn8:nk p≤8) :
 Fc Tryz.prog 14 #[v0,v1,v2] w (Ret w (.pred (axA w.heap.size tB .u8 (hnA p f)))):=by
 have hml:ms.length=nk p:=by have:=h1.1;omega
 have hbl:=rnA f (nk p);have hkl:=bfA p;have hhl:=hpA (f:=f) hn8;have hck:=hrA (f:=f) hn8 gbA;have hpos:dtA f (nk p)=true→0<nk p:=gbA;have hD:∀ i,i<nk p→(kp p i<65536∧(b7A p).getD i 0=(kp p i:Int))∧0<cnt (blk p (kp p i)) 65536∧cnt (blk p (kp p i)) 65536≤65536:=λ i hi=>by
  obtain ⟨k1,k2,k3,k4⟩:=gjA hi;exact ⟨⟨k1,k4⟩,ne_cnt.1 k2,cnt_le _ _⟩
 have hbg:∀ i,i<nk p→(isA f (nk p)).getD i undef=.bool (f i):=λ i hi=>roA hi
 have hcook0:dtA f (nk p)=false→caA (nk p) f=leS 12346 4++leS (nk p) 4:=λ ha=>by unfold caA;rw [ha,if_neg dZ]
 have hcook1:dtA f (nk p)=true→caA (nk p) f=(leS 12347 2++leS (nk p-1:Nat) 2)++[(fB f (nk p):Int)]:=λ ha=>by unfold caA;rw [ha,if_pos rfl,List.append_assoc]
 rw [cjA _ (λ i _=>f6A p i)] at hhl;have himg:hnA p f=((caA (nk p) f++c0A (drA p) (nk p))++d0A p f)++c0A (d2A p f) (nk p):=by unfold hnA;simp only [List.append_assoc]
 have hoff1:(dtA f (nk p)=true∧nk p<4)→d0A p f=[]:=λ h=>by unfold d0A;rw [if_pos h]
 have hoff2:¬ (dtA f (nk p)=true∧nk p<4)→d0A p f=c0A (gvA p f) (nk p)∧(d0A p f).length=4*nk p:=λ h=>by
  have e:d0A p f=c0A (gvA p f) (nk p):=by unfold d0A;rw [if_neg h]
  exact ⟨e,by rw [e,cjA _ (λ i _=>fhA p f i)];omega⟩
 rw [himg];clear himg;obtain ⟨ks,hks⟩:∃ ks,ks=b7A p:=⟨_,rfl⟩;rw [← hks] at h0 hkl hD;obtain ⟨bl,hbl'⟩:∃ bl,bl=isA f (nk p):=⟨_,rfl⟩;rw [← hbl'] at h2 hbl hbg;clear hks hbl';obtain ⟨n,hnn⟩:∃ n,n=nk p:=⟨_,rfl⟩;obtain ⟨H,hH⟩:∃ m,m=e2A n (dtA f n):=⟨_,rfl⟩;rw [← hnn] at h1 hms h2 hn8 hml hbl hkl hhl hck hpos hD hbg hcook0 hcook1 hoff1 hoff2 ⊢;rw [← hH] at hhl;have hHle:H≤1000:=by
  rw [hH];unfold e2A;split
  ·split <;> omega
  ·omega
 have hl0:=h0.len;refine Fc.of (args:=[_,_,_]) Tryz.func14 rfl rfl Tryz.ntmps14 nZ ?_
 repeat' (first|(refine yL ?_;first|refine a0A rfl ?_|(refine d3A ?_;refine azA rfl _ rfl rfl (HasI.val h0).c ?_;rw [hkl])|refine yO ?_|(refine yC ?_ ?_<;>intro hc)|(refine yN hK ?_;clear hK K))|refine wG ?_|(refine yR ?_;intro K hK)|fail)
 refine aaA (ι:=Nat) (λ i=>[(0,.val v0),(1,.val v1),(2,.val v2),(7,.val (.int .i64 n)),(8,.val (.bool (dtA f i))),(9,.val (.int .i64 i))]) (λ i w'=>i≤n∧Ext w w') (λ i=>n-i) (λ w5 e5=>⟨0,⟨Nat.zero_le _,e5⟩,sZ⟩) ?_
 rintro i w1 ⟨hi,he⟩
 by_cases hil:i<n
 ·have hbi:=hbg i hil
  have hnx:dtA f (i+1)=(dtA f i || f i):=rfl;obtain ⟨A,hA⟩:∃ A,A=dtA f i:=⟨_,rfl⟩;rw [← hA] at hnx ⊢;cases A with
  | true =>
    repeat' (first|(refine yL ?_;first|refine a0A rfl ?_|refine yO ?_|(refine yC ?_ ?_<;>intro hc)|(refine yN hK ?_;clear hK K))|refine wG ?_|(refine yR ?_;intro K hK)|fail)
    exact a4A (i+1) (λ w5 e5=>⟨hil,he.trans e5⟩) oZ (by rw [hnx,Bool.true_or];(repeat' (first|exact Sub.nil|(refine Sub.val rfl ?_ ?_;first|with_reducible rfl|(congr 1;omega))|refine Sub.same rfl ?_));done)
  | false =>
    repeat' (first|(refine yL ?_;first|refine a0A rfl ?_|(refine oD 32 ?_;refine dlA rfl _ rfl (λ _=>rfl) rfl (HasC.val (h2.ext he)) rfl i rfl hil hbl ?_;rw [hbi])|refine yO ?_|(refine yC ?_ ?_<;>intro hc)|(refine yN hK ?_;clear hK K))|refine wG ?_|(refine yR ?_;intro K hK)|fail)
    exact a4A (i+1) (λ w5 e5=>⟨hil,he.trans e5⟩) oZ (by rw [hnx,Bool.false_or];(repeat' (first|exact Sub.nil|(refine Sub.val rfl ?_ ?_;first|with_reducible rfl|(congr 1;omega))|refine Sub.same rfl ?_));done)
 obtain rfl:i=n:=oZ;clear hil hi;obtain ⟨S,hS⟩:∃ S,S=dtA f i:=⟨_,rfl⟩;rw [← hS] at hck hpos hcook0 hcook1 hoff1 hoff2 ⊢
 repeat' (first|(refine yL ?_;first|refine a0A rfl ?_|refine yO ?_|(refine yC ?_ ?_<;>intro hc)|(refine yN hK ?_;clear hK K))|(refine oCX ?_;first|refine cuA (id:=8) (ι:=Value) (λ vb=>[(0,.val v0),(1,.val v1),(2,.val v2),(7,.val (.int .i64 i)),(8,.val (.bool S)),(10,.val vb)]) (λ vb w'=>Ext w w'∧OwnI w.heap.size tB .u8 w' vb (caA i f)) ?_ ?_)|refine wG ?_|(refine yR ?_;intro K hK)|fail)
 ·cases S with
  | false =>
    rw [hcook0 rfl]
    repeat' (first|(refine yL ?_;first|refine a0A rfl ?_|(refine oD 74 ?_;refine a3A (hK _ _ (awA 71 rfl (λ va wa ea ha=>awA 73 rfl (λ vb wb eb hb=>?_))));clear hK K;replace ha:OwnI w.heap.size tB .u8 wa va (leS 12346 4):=ha;replace hb:OwnI w.heap.size tB .u8 wb vb (leS i 4):=hb;refine anA rfl nZ e5A rfl (OwnI.ext ha eb) rfl (HasI.ownV hb).c buA (by unfold maxLen;simp only [akA];omega) (by simp only [akA];omega) (λ v' wu wv eu ho hfr hlc=>?_);refine abA kZ (λ K hK=>?_))|refine yO ?_|(refine yC ?_ ?_<;>intro hc)|(refine yV ?_;first|(refine oD 71 ?_;refine oC 46 ?_;refine a1A (f:=46) rfl rfl rfl  (.pred (axA w.heap.size tB .u8 (leS 12346 4))) (by intro u1 w e hu1;(try obtain rfl:u1=_:=hu1);exact (r1A _ oZ oZ).mono (a6A (he.trans e).size)) ?_)|(refine oD 73 ?_;refine oC 46 ?_;refine a1A (f:=46) rfl rfl rfl  (.pred (axA w.heap.size tB .u8 (leS i 4))) (by intro u1 w e hu1;(try obtain rfl:u1=_:=hu1);exact (r1A _ oZ oZ).mono (a6A (he.trans e).size)) ?_))|(refine yN hK ?_;clear hK K))|refine wG ?_|(refine yR ?_;intro K hK)|fail)
    obtain ⟨x3,hn3⟩:=o7A (OwnI.ext ha eb) ((he.trans ea).trans eb) eu ho hfr hlc;exact a4A v' (λ w5 e5=>⟨x3.trans e5,OwnI.ext hn3 e5⟩) oZ sZ
  | true =>
    rw [hcook1 rfl];have hip:=hpos rfl
    repeat' (first|(refine yL ?_;first|refine a0A rfl ?_|(refine oD 38 ?_;refine afA rfl rfl rfl fZ ?_;rw [show (i:Int)-1=((i-1:Nat):Int) by omega])|(refine oD 40 ?_;refine a3A (hK _ _ (awA 36 rfl (λ va wa ea ha=>awA 39 rfl (λ vb wb eb hb=>?_))));clear hK K;replace ha:OwnI w.heap.size tB .u8 wa va (leS 12347 2):=ha;replace hb:OwnI w.heap.size tB .u8 wb vb (leS (i-1:Nat) 2):=hb;refine anA rfl nZ e5A rfl (OwnI.ext ha eb) rfl (HasI.ownV hb).c buA (by unfold maxLen;simp only [akA];omega) (by simp only [akA];omega) (λ v' wu wv eu ho hfr hlc=>?_);obtain ⟨x3,hn3⟩:=o7A (OwnI.ext ha eb) ((he.trans ea).trans eb) eu ho hfr hlc;refine abA kZ (λ K hK=>?_))|(refine oD 43 ?_;refine d5A rfl rfl rfl oZ oZ fZ ?_;rw [show ((i:Int)+7) / 8=((1:Nat):Int) by omega])|(refine oD 44 ?_;refine dkA rfl e5A rfl rfl dZ dZ ?_)|refine yO ?_|(refine yC ?_ ?_<;>intro hc)|(refine yV ?_;first|(refine oD 36 ?_;refine oC 45 ?_;refine a1A (f:=45) rfl rfl rfl  (.pred (axA w.heap.size tB .u8 (leS 12347 2))) (by intro u1 w e hu1;(try obtain rfl:u1=_:=hu1);exact (j8A _ oZ oZ).mono (a6A (he.trans e).size)) ?_)|(refine oD 39 ?_;refine oC 45 ?_;refine a1A (f:=45) rfl rfl rfl  (.pred (axA w.heap.size tB .u8 (leS (i-1:Nat) 2))) (by intro u1 w e hu1;(try obtain rfl:u1=_:=hu1);exact (j8A _ oZ oZ).mono (a6A (he.trans e).size)) ?_))|(refine yN hK ?_;clear hK K))|refine wG ?_|(refine yR ?_;intro K hK)|fail)
    obtain ⟨ys,hys⟩:∃ ys,ys=leS 12347 2++leS (i-1:Nat) 2:=⟨_,rfl⟩;have hyl:ys.length=4:=by rw [hys];simp [akA]
    rw [← hys] at hn3 ⊢;refine bwA 11 rfl (λ fv wf ef hf=>?_);replace hf:OwnI wv.heap.size tB .u8 wf fv [(fB f 0:Int)]:=hf;obtain ⟨gb,cap,cur0,rfl,s1,-,s3,s4,-,-⟩:=OwnI.row hf (by simp)
    refine aaA (ι:=Nat) (λ j=>[(0,.val v0),(1,.val v1),(2,.val v2),(7,.val (.int .i64 i)),(8,.val (.bool true)),(10,.val v'),(11,.val (.slice (some ⟨gb,0,none⟩) 1 cap)),(12,.val (.int .i64 j))])
     (λ j w'=>Ext wv w'∧j≤i∧OwnI wv.heap.size tB .u8 w' (.slice (some ⟨gb,0,none⟩) 1 cap) [(fB f j:Int)]) (λ j=>i-j)
     (λ w4 e4=>⟨0,⟨ef.trans e4,Nat.zero_le _,hf.ext e4⟩,sZ⟩) ?_
    rintro j w2 ⟨he2,hj,hfv⟩
    by_cases hji:j<i
    ·have hbi:=hbg j hji
     have hfs:fB f (j+1)=fB f j+if f j then 2 ^ j else 0:=rfl
     have hfl:=miA f j;have hsh:=shl8 (i:=j) oZ;have h2i:(2:Nat) ^ j≤2 ^ 7:=Nat.pow_le_pow_right dZ oZ;obtain ⟨F,hF⟩:∃ F,F=fB f j:=⟨_,rfl⟩;rw [← hF] at hfs hfl hfv;obtain ⟨P,hP⟩:∃ P,P=2 ^ j:=⟨_,rfl⟩;rw [← hP] at hfs hfl hsh h2i;cases hfj:f j with
     | true =>
       rw [hfj] at hbi hfs;rw [if_pos rfl] at hfs;obtain ⟨gb',cap',cur,hgb,t1,t2,t3,t4,t5,t6⟩:=OwnI.row hfv (by simp);cases hgb;have h2e:=h2.ext (x3.trans he2)
       repeat' (first|(refine yL ?_;first|refine a0A rfl ?_|(refine oD 52 ?_;refine dlA rfl _ rfl (λ _=>rfl) rfl (HasC.val h2e) rfl j rfl hji hbl ?_;rw [hbi])|(refine oD 56 ?_;refine d5A rfl rfl rfl oZ oZ fZ ?_;rw [show (j:Int) / 8=((0:Nat):Int) by omega])|(refine oD 59 ?_;refine d5A rfl rfl rfl oZ oZ fZ ?_;rw [show (j:Int) / 8=((0:Nat):Int) by omega])|(refine oD 60 ?_;refine agA rfl _ rfl (λ _=>rfl) rfl (HasI.ownV hfv) rfl (by simp) ?_;rw [List.getD_cons_zero])|(refine oD 63 ?_;refine feA rfl rfl rfl oZ oZ fZ ?_;rw [show (j:Int) % 8=((j:Nat):Int) by omega])|(refine oD 65 ?_;refine gqA rfl rfl rfl oZ (by show ((j:Nat):Int)≤8;omega) ?_;rw [hsh])|(refine oD 66 ?_;refine btA rfl rfl rfl fZ ?_;rw [show (F:Int)+(P:Int)=((F+P:Nat):Int) by omega])|(refine oD 67 ?_;refine biA (s:=1) rfl rfl (λ _=>rfl) rfl rfl oZ oZ ?_)|(refine a3A (hK _ _ (bhA rfl rfl rfl t2 (λ _=>rfl) (by rw [t5];exact t3) rfl rfl (λ w4 e4=>?_)));clear hK K;dsimp only [LA.vals];refine abA kZ (λ K hK=>?_))|refine yO ?_|(refine yC ?_ ?_<;>intro hc)|(refine yN hK ?_;clear hK K))|refine wG ?_|(refine yR ?_;intro K hK)|fail)
       have hset:=OwnI.set t1 (e4.block t2) t3 t4 t5 t6 0 (by simp) ((F+P:Nat):Int);exact a4A (j+1) (λ w5 e5=>⟨((he2.trans e4).setRow t1 _).trans e5,hji,by rw [hfs];exact OwnI.ext hset e5⟩) oZ sZ
     | false =>
       rw [hfj] at hbi hfs;rw [if_neg dZ,Nat.add_zero] at hfs;have h2e:=h2.ext (x3.trans he2)
       repeat' (first|(refine yL ?_;first|refine a0A rfl ?_|(refine oD 52 ?_;refine dlA rfl _ rfl (λ _=>rfl) rfl (HasC.val h2e) rfl j rfl hji hbl ?_;rw [hbi])|refine yO ?_|(refine yC ?_ ?_<;>intro hc)|(refine yN hK ?_;clear hK K))|refine wG ?_|(refine yR ?_;intro K hK)|fail)
       exact a4A (j+1) (λ w5 e5=>⟨he2.trans e5,hji,by rw [hfs];exact OwnI.ext hfv e5⟩) oZ sZ
    ·obtain rfl:j=i:=oZ
     have hb2:=hn3.ext he2;have hx2:=x3.trans he2
     repeat' (first|(refine yL ?_;first|refine a0A rfl ?_|(refine oD 70 ?_;refine a3A (hK _ _ (anA rfl nZ e5A rfl hb2 rfl (HasI.ownV hfv).c buA (by unfold maxLen;simp only [List.length_cons,List.length_nil];omega) (by simp only [List.length_cons,List.length_nil];omega) (λ v9 wu9 wv9 eu9 ho9 hfr9 hlc9=>?_)));clear hK K;refine abA kZ (λ K hK=>?_))|refine yO ?_|(refine yC ?_ ?_<;>intro hc)|(refine yN hK ?_;clear hK K))|refine wG ?_|(refine yR ?_;intro K hK)|fail)
     obtain ⟨x9,hn9⟩:=o7A (b:=[(fB f j:Int)]) hb2 hx2 eu9 ho9 hfr9 hlc9;exact a4A v9 (λ w5 e5=>⟨x9.trans e5,OwnI.ext hn9 e5⟩) oZ sZ
 clear he w1 hcook0 hcook1 hpos;rintro vb w1 ⟨he,hb⟩;have hckl:(caA i f).length≤20:=by rw [hck];split <;> omega
 repeat' (first|(refine yL ?_;first|refine a0A rfl ?_|refine yO ?_|(refine yC ?_ ?_<;>intro hc)|(refine yN hK ?_;clear hK K))|refine wG ?_|(refine yR ?_;intro K hK)|fail)
 refine aaA (ι:=Nat × Value × Value × List Value) (λ j=>[(0,.val v0),(1,.val v1),(2,.val v2),(7,.val (.int .i64 i)),(8,.val (.bool S)),(10,.val j.2.1),(13,.val j.2.2.1),(14,.val (.int .i64 j.1))])
  (λ j w'=>j.1≤i∧Ext w w'∧OwnI w.heap.size tB .u8 w' j.2.1 (caA i f++c0A (drA p) j.1)∧BRow w.heap.size w' j.2.2.1 j.2.2.2 j.1 p f j.2.1) (λ j=>i-j.1)
  (λ w5 e5=>⟨(0,vb,nilS,[]),⟨Nat.zero_le _,he.trans e5,by show OwnI _ _ _ _ _ (_++[]);rw [List.append_nil];exact OwnI.ext hb e5,BRow.nil⟩,sZ⟩) ?_
 clear he hb w1 vb;rintro ⟨t,vo,vbs,bs⟩ w2 ⟨hti,he,hb,hB⟩;dsimp only at hti hb hB ⊢
 by_cases htl:t<i
 ·obtain ⟨base,hmk⟩:=hms t htl
  have hmk2:=hmk.ext he;obtain ⟨⟨d1,d2⟩,d3,d4⟩:=hD t htl;have hbt:=hbg t htl;have hxl:(aeA (blk p (kp p t)) 65536).length=cnt (blk p (kp p t)) 65536:=ayA _ _;have hlist:∀ w',Ext w2 w'→Fc Tryz.prog 47 #[ms.getD t undef] w' (Ret w' (.pred (axA w2.heap.size tK .u16 (aeA (blk p (kp p t)) 65536)))):=λ w' e=>(m9A w' _ base _ (hmk2.ext e)).mono (a6A e.size)
  have hbody:∀ w',Ext w2 w'→Fc Tryz.prog 48 #[ms.getD t undef,.int .u8 (kdF (blk p (kp p t)) (f t))] w' (Ret w' (.pred (axA w2.heap.size tB .u8 (d2A p f t)))):=λ w' e=>(wnA (hmk2.ext e) (f t)).mono (a6A e.size)
  have hcat:c0A (drA p) (t+1)=c0A (drA p) t++(leS (kp p t) 2++leS (cnt (blk p (kp p t)) 65536-1:Nat) 2):=rfl;have hdl:(c0A (drA p) t).length=t*4:=cjA _ (λ i _=>f6A p i);have hkd:kdF (blk p (kp p t)) (f t)=if f t then 3 else if cnt (blk p (kp p t)) 65536≤4096 then 1 else 2:=rfl
  obtain ⟨xs,hxs⟩:∃ xs,xs=aeA (blk p (kp p t)) 65536:=⟨_,rfl⟩;rw [← hxs] at hxl hlist;obtain ⟨kd,hkdd⟩:∃ kd,kd=kdF (blk p (kp p t)) (f t):=⟨_,rfl⟩;rw [← hkdd] at hkd hbody;obtain ⟨C0,hC0⟩:∃ c,c=cnt (blk p (kp p t)) 65536:=⟨_,rfl⟩;rw [← hC0] at d3 d4 hxl hcat hkd;obtain ⟨K0,hK0⟩:∃ c,c=kp p t:=⟨_,rfl⟩;rw [← hK0] at d1 d2 hcat;obtain ⟨mv,hmv⟩:∃ mv,mv=ms.getD t undef:=⟨_,rfl⟩;rw [← hmv] at hlist hbody;obtain ⟨D,hDD⟩:∃ D,D=d2A p f t:=⟨_,rfl⟩;rw [← hDD] at hbody;obtain ⟨B0,hB0⟩:∃ B,B=caA i f++c0A (drA p) t:=⟨_,rfl⟩;have hBl:B0.length≤1000:=by rw [hB0,List.length_append];omega
  have hBn:caA i f++c0A (drA p) (t+1)=(B0++leS K0 2)++leS (C0-1:Nat) 2:=by rw [hcat,hB0];simp only [List.append_assoc]
  rw [← hB0] at hb;have hcases:(f t=true∧kd=3∧C0≤4096)∨(f t=true∧kd=3∧¬ C0≤4096)∨(f t=false∧kd=1∧C0≤4096)∨(f t=false∧kd=2∧¬ C0≤4096):=by
   cases hft:f t <;> by_cases hc:C0≤4096 <;> rw [hft] at hkd <;> simp [hc] at hkd ⊢ <;> exact hkd
  have h0e:=h0.ext he;have h1e:=h1.ext he;have h2e:=h2.ext he;clear hxs hkdd hkd hC0 hK0 hcat hB0 hmk hmk2
  rcases hcases with ⟨hft,rfl,hc4⟩|⟨hft,rfl,hc4⟩|⟨hft,rfl,hc4⟩|⟨hft,rfl,hc4⟩
  all_goals
   rw [hft] at hbt
   repeat' (first|(refine yL ?_;first|refine a0A rfl ?_|(refine oD 82 ?_;refine dlA rfl _ rfl (λ _=>rfl) rfl (HasC.val h1e) rfl t rfl htl hml ?_;rw [← hmv])|(refine oD 95 ?_;refine dlA rfl _ rfl (λ _=>rfl) rfl (HasC.val h1e) rfl t rfl htl hml ?_;rw [← hmv])|(refine oD 85 ?_;refine azA rfl _ rfl rfl HasI.own.c ?_;rw [hxl])|(refine oD 90 ?_;refine dlA rfl _ rfl (λ _=>rfl) rfl (HasC.val h2e) rfl t rfl htl hbl ?_;rw [hbt])|(refine oD 99 ?_;refine s3A (Nat.le_refl _) rfl zoA rfl m1A ?_)|(refine oD 100 ?_;refine a3A (hK _ _ (awA 99 rfl (λ v99 w3 e3 h99=>?_)));clear hK K;obtain ⟨u,hu,hu1,hu2,huo⟩:=h99;refine anA rfl nZ zoA rfl (hB.own.ext e3) rfl (HasC.ownV huo) (λ c hc=>by rw [List.mem_singleton] at hc;subst hc;exact hu2) (by unfold maxLen;omega) oZ (λ vn w4 w5 e4 ho hf hl=>?_);replace hu:OwnI w2.heap.size tB .u8 w3 u (d2A p f t):=hDD▸hu;have hu4:=OwnI.ext hu e4;have x4:=(he.trans e3).trans e4;have hB5:=(hB.ext (e3.trans e4)).push (Own.base hu4 he.size) (λ k h1 h2=>by have g1:=(Own.lt hu4 k h1).1;have g2:=(Own.lt hb k h2).2;omega) ho hf hl x4.size;have hb5:=(hB.ext (e3.trans e4)).keep (OwnI.ext hb (e3.trans e4)) hf;have x5:Ext w w5:=Fr.ext x4 hf (λ k hk=>(Own.lt hB.own k hk).1);have h05:=h0.ext x5;refine abA kZ (λ K hK=>?_))|(refine oD 104 ?_;refine agA rfl _ rfl (λ _=>rfl) rfl (HasI.val h05) rfl oZ ?_;rw [d2])|(refine oD 108 ?_;refine a3A (hK _ _ (awA 107 rfl (λ vb6 wb6 eb6 hb6=>?_)));clear hK K;replace hb6:OwnI w.heap.size tB .u8 wb6 vb6 (leS K0 2):=hb6;refine anA rfl nZ e5A rfl (OwnI.ext hb5 eb6) rfl (HasI.ownV hb6).c buA (by unfold maxLen;simp only [List.length_append,akA];omega) (by simp only [List.length_append,akA];omega) (λ v6 wu6 wv6 eu6 ho6 hfr6 hlc6=>?_);obtain ⟨x6,hn6⟩:=o7A (OwnI.ext hb5 eb6) (x5.trans eb6) eu6 ho6 hfr6 hlc6;have hB6:=(hB5.ext (eb6.trans eu6)).grow (OwnI.ext hb5 (eb6.trans eu6)) hfr6 hlc6;refine abA kZ (λ K hK=>?_))|(refine oD 111 ?_;refine afA rfl rfl rfl fZ ?_;rw [show (C0:Int)-1=((C0-1:Nat):Int) by omega])|(refine oD 113 ?_;refine a3A (hK _ _ (awA 112 rfl (λ vb7 wb7 eb7 hb7=>?_)));clear hK K;replace hb7:OwnI w.heap.size tB .u8 wb7 vb7 (leS (C0-1:Nat) 2):=hb7;refine anA rfl nZ e5A rfl (OwnI.ext hn6 eb7) rfl (HasI.ownV hb7).c buA (by unfold maxLen;simp only [List.length_append,akA];omega) (by simp only [List.length_append,akA];omega) (λ v7 wu7 wv7 eu7 ho7 hfr7 hlc7=>?_);obtain ⟨x7,hn7⟩:=o7A (OwnI.ext hn6 eb7) (x6.trans eb7) eu7 ho7 hfr7 hlc7;have hB7:=(hB6.ext (eb7.trans eu7)).grow (OwnI.ext hn6 (eb7.trans eu7)) hfr7 hlc7;refine abA kZ (λ K hK=>?_))|refine yO ?_|(refine yC ?_ ?_<;>intro hc)|(refine yV ?_;first|(refine oC 47 ?_;refine a1A (f:=47) rfl rfl rfl  (.pred (axA w2.heap.size tK .u16 xs)) (by intro u1 w e hu1;(try obtain rfl:u1=_:=hu1);exact hlist _ e) ?_)|(refine oC 48 ?_;refine a5A (f:=48) rfl rfl rfl rfl  (.pred (axA w2.heap.size tB .u8 D)) (by intro u1 u2 w e hu1 hu2;(try obtain rfl:u1=_:=hu1);(try obtain rfl:u2=_:=hu2);exact hbody _ e) ?_)|(refine oD 107 ?_;refine oC 45 ?_;refine a1A (f:=45) rfl rfl rfl  (.pred (axA w.heap.size tB .u8 (leS K0 2))) (by intro u1 w e hu1;(try obtain rfl:u1=_:=hu1);exact (j8A _ oZ oZ).mono (a6A (x5.trans e).size)) ?_)|(refine oD 112 ?_;refine oC 45 ?_;refine a1A (f:=45) rfl rfl rfl  (.pred (axA w.heap.size tB .u8 (leS (C0-1:Nat) 2))) (by intro u1 w e hu1;(try obtain rfl:u1=_:=hu1);exact (j8A _ oZ oZ).mono (a6A (x6.trans e).size)) ?_))|(refine yN hK ?_;clear hK K))|refine wG ?_|(refine yR ?_;intro K hK)|fail)
   exact a4A (t+1,v7,vn,bs++[u]) (λ w8 e8=>⟨htl,x7.trans e8,by dsimp only;rw [hBn];exact OwnI.ext hn7 e8,hB7.ext e8⟩) eZ sZ
 obtain rfl:t=i:=oZ;have hdl:(c0A (drA p) t).length=t*4:=cjA _ (λ i _=>f6A p i);obtain ⟨B1,hB1⟩:∃ B,B=caA t f++c0A (drA p) t:=⟨_,rfl⟩;have hB1l:B1.length=(caA t f).length+t*4:=by rw [hB1,List.length_append,hdl]
 rw [← hB1] at hb ⊢;clear htl hti hD hbg hms hB1
 repeat' (first|(refine yL ?_;first|refine a0A rfl ?_|refine yO ?_|(refine yC ?_ ?_<;>intro hc)|(refine yN hK ?_;clear hK K))|(refine oCX ?_;first|refine cuA (id:=32) (ι:=Value) (λ vq=>[(7,.val (.int .i64 t)),(13,.val vbs),(17,.val vq)]) (λ vq w'=>Ext w w'∧OwnI w.heap.size tB .u8 w' vq (B1++d0A p f)∧BRow w.heap.size w' vbs bs t p f vq) ?_ ?_)|refine wG ?_|(refine yR ?_;intro K hK)|fail)
 ·by_cases hoc:S=true∧t<4
  ·have ho:=hoff1 hoc
   obtain ⟨rfl,h4⟩:=hoc
   repeat' (first|(refine yL ?_;first|refine a0A rfl ?_|refine yO ?_|(refine yC ?_ ?_<;>intro hc)|(refine yN hK ?_;clear hK K))|refine wG ?_|(refine yR ?_;intro K hK)|fail)
   exact a4A vo (λ w5 e5=>⟨he.trans e5,by rw [ho,List.append_nil];exact OwnI.ext hb e5,hB.ext e5⟩) oZ sZ
  ·obtain ⟨ho1,ho2⟩:=hoff2 hoc
   rw [ho2] at hhl;have hof:∀ j,gvA p f j=leS ((H+(c0A (d2A p f) j).length:Nat):Int) 4:=λ j=>by unfold gvA;rw [← hnn,← hH]
   have hsk:S=false∨(S=true∧4≤t):=by
    cases S with
    | false=>exact .inl rfl
    | true=>exact .inr ⟨rfl,Nat.le_of_not_lt (λ h=>hoc ⟨rfl,h⟩)⟩
   clear hoff1 hoff2 ho2 hoc
   rcases hsk with rfl|⟨rfl,h4⟩
   all_goals
    repeat' (first|(refine yL ?_;first|refine a0A rfl ?_|(refine d3A ?_;refine azA rfl _ rfl rfl (HasI.ownV hb).c ?_)|(refine oD 124 ?_;refine ejA rfl rfl rfl fZ ?_;rw [show (4:Int)*(t:Int)=((4*t:Nat):Int) by omega])|(refine oD 125 ?_;refine btA rfl rfl rfl fZ ?_;rw [show (B1.length:Int)+((4*t:Nat):Int)=((H+(c0A (d2A p f) 0).length:Nat):Int) by simp only [c0A,List.length_nil];omega])|refine yO ?_|(refine yC ?_ ?_<;>intro hc)|(refine yN hK ?_;clear hK K))|refine wG ?_|(refine yR ?_;intro K hK)|fail)
    refine aaA (ι:=Nat × Value) (λ j=>[(7,.val (.int .i64 t)),(13,.val vbs),(17,.val j.2),(18,.val (.int .i64 (H+(c0A (d2A p f) j.1).length:Nat))),(19,.val (.int .i64 j.1))])
     (λ j w'=>j.1≤t∧Ext w w'∧OwnI w.heap.size tB .u8 w' j.2 (B1++c0A (gvA p f) j.1)∧BRow w.heap.size w' vbs bs t p f j.2) (λ j=>t-j.1)
     (λ w5 e5=>⟨(0,vo),⟨Nat.zero_le _,he.trans e5,by show OwnI _ _ _ _ _ (_++[]);rw [List.append_nil];exact OwnI.ext hb e5,hB.ext e5⟩,sZ⟩) ?_
    clear he hb hB w2 vo;rintro ⟨j,vo⟩ w2 ⟨hjt,he,hb,hB⟩;dsimp only at hjt hb hB ⊢;have hbj:=gaA p f j
    by_cases hjl:j<t
    ·have hofj:=hof j
     have hble:(d2A p f j).length≤131074:=itA _ _;have hol:(c0A (gvA p f) j).length=j*4:=cjA j (λ i _=>fhA p f i);have hcat:c0A (gvA p f) (j+1)=c0A (gvA p f) j++gvA p f j:=rfl;have hcb:(c0A (d2A p f) (j+1)).length=(c0A (d2A p f) j).length+(d2A p f j).length:=by show (c0A (d2A p f) j++d2A p f j).length=_;rw [List.length_append]
     rw [hofj] at hcat;obtain ⟨A0,hA0⟩:∃ a,a=H+(c0A (d2A p f) j).length:=⟨_,rfl⟩;have hA1:A0+(d2A p f j).length=H+(c0A (d2A p f) (j+1)).length:=oZ;rw [← hA0] at hcat ⊢;obtain ⟨B0,hB0⟩:∃ B,B=B1++c0A (gvA p f) j:=⟨_,rfl⟩;have hBl:B0.length≤2000:=by rw [hB0,List.length_append];omega
     have hBn:B1++c0A (gvA p f) (j+1)=B0++leS A0 4:=by rw [hcat,hB0];simp only [List.append_assoc]
     rw [← hB0] at hb;have hA0l:A0≤3000000:=oZ;clear hA0 hB0 hcat hofj hof hcb
     repeat' (first|(refine yL ?_;first|refine a0A rfl ?_|(refine oD 134 ?_;refine a3A (hK _ _ (awA 133 rfl (λ vb6 wb6 eb6 hb6=>?_)));clear hK K;replace hb6:OwnI w.heap.size tB .u8 wb6 vb6 (leS A0 4):=hb6;refine anA rfl nZ e5A rfl (OwnI.ext hb eb6) rfl (HasI.ownV hb6).c buA (by unfold maxLen;simp only [List.length_append,akA];omega) (by simp only [List.length_append,akA];omega) (λ v6 wu6 wv6 eu6 ho6 hfr6 hlc6=>?_);obtain ⟨x6,hn6⟩:=o7A (OwnI.ext hb eb6) (he.trans eb6) eu6 ho6 hfr6 hlc6;have hB6:=(hB.ext (eb6.trans eu6)).grow (OwnI.ext hb (eb6.trans eu6)) hfr6 hlc6;refine abA kZ (λ K hK=>?_))|(refine oD 138 ?_;refine dlA rfl _ rfl (λ _=>rfl) rfl (HasC.ownV hB6.own) rfl j rfl hjl hB6.own.lenV ?_)|(refine oD 140 ?_;refine azA rfl _ rfl rfl (HasI.val (OwnI.slI (hB6.at_ j hjl))).c ?_)|(refine oD 141 ?_;refine btA rfl rfl rfl fZ ?_;rw [show (A0:Int)+((d2A p f j).length:Int)=((A0+(d2A p f j).length:Nat):Int) by omega])|refine yO ?_|(refine yC ?_ ?_<;>intro hc)|(refine yV ?_;first|(refine oD 133 ?_;refine oC 46 ?_;refine a1A (f:=46) rfl rfl rfl  (.pred (axA w.heap.size tB .u8 (leS A0 4))) (by intro u1 w e hu1;(try obtain rfl:u1=_:=hu1);exact (r1A _ oZ oZ).mono (a6A (he.trans e).size)) ?_))|(refine yN hK ?_;clear hK K))|refine wG ?_|(refine yR ?_;intro K hK)|fail)
     exact a4A (j+1,v6) (λ w8 e8=>⟨hjl,x6.trans e8,by dsimp only;rw [hBn];exact OwnI.ext hn6 e8,hB6.ext e8⟩) eZ (by dsimp only;rw [← hA1];(repeat' (first|exact Sub.nil|(refine Sub.val rfl ?_ ?_;first|with_reducible rfl|(congr 1;omega))|refine Sub.same rfl ?_));done)
    ·obtain rfl:j=t:=oZ
     repeat' (first|(refine yL ?_;first|refine a0A rfl ?_|refine yO ?_|(refine yC ?_ ?_<;>intro hc)|(refine yN hK ?_;clear hK K))|refine wG ?_|(refine yR ?_;intro K hK)|fail)
     exact a4A vo (λ w5 e5=>⟨he.trans e5,by rw [ho1];exact OwnI.ext hb e5,hB.ext e5⟩) oZ sZ
 have hol:(d0A p f).length≤100:=by
  by_cases hoc:S=true∧t<4
  ·rw [hoff1 hoc];simp
  ·have:=(hoff2 hoc).2;omega
 clear hb hB he w2 vo hoff1 hoff2;rintro vo w2 ⟨he,hb,hB⟩;obtain ⟨G,hG⟩:∃ G,G=B1++d0A p f:=⟨_,rfl⟩;have hGl:G.length≤1000:=by rw [hG,List.length_append];omega
 rw [← hG] at hb ⊢;clear hG
 repeat' (first|(refine yL ?_;first|refine a0A rfl ?_|refine yO ?_|(refine yC ?_ ?_<;>intro hc)|(refine yN hK ?_;clear hK K))|refine wG ?_|(refine yR ?_;intro K hK)|fail)
 refine aaA (ι:=Nat × Value) (λ j=>[(7,.val (.int .i64 t)),(13,.val vbs),(17,.val j.2),(20,.val (.int .i64 j.1))])
  (λ j w'=>j.1≤t∧Ext w w'∧OwnI w.heap.size tB .u8 w' j.2 (G++c0A (d2A p f) j.1)∧BRow w.heap.size w' vbs bs t p f j.2) (λ j=>t-j.1)
  (λ w5 e5=>⟨(0,vo),⟨Nat.zero_le _,he.trans e5,by show OwnI _ _ _ _ _ (_++[]);rw [List.append_nil];exact OwnI.ext hb e5,hB.ext e5⟩,sZ⟩) ?_
 clear he hb hB w2 vo;rintro ⟨j,vo⟩ w2 ⟨hjt,he,hb,hB⟩;dsimp only at hjt hb hB ⊢;have hbj:=gaA p f j
 by_cases hjl:j<t
 ·have hble:(d2A p f j).length≤131074:=itA _ _
  have hcat:c0A (d2A p f) (j+1)=c0A (d2A p f) j++d2A p f j:=rfl;obtain ⟨B0,hB0⟩:∃ B,B=G++c0A (d2A p f) j:=⟨_,rfl⟩;have hBl:B0.length≤2000000:=by rw [hB0,List.length_append];omega
  have hBn:G++c0A (d2A p f) (j+1)=B0++d2A p f j:=by rw [hcat,hB0];simp only [List.append_assoc]
  rw [← hB0] at hb;have hD:=hB.at_ j hjl;clear hB0 hcat
  repeat' (first|(refine yL ?_;first|refine a0A rfl ?_|(refine oD 150 ?_;refine dlA rfl _ rfl (λ _=>rfl) rfl (HasC.ownV hB.own) rfl j rfl hjl hB.own.lenV ?_)|(refine oD 152 ?_;refine a3A (hK _ _ (anA rfl nZ e5A rfl hb rfl (HasI.val (OwnI.slI hD)).c buA (by unfold maxLen;omega) oZ (λ v6 wu6 wv6 eu6 ho6 hfr6 hlc6=>?_)));clear hK K;obtain ⟨x6,hn6⟩:=o7A hb he eu6 ho6 hfr6 hlc6;have hB6:=(hB.ext eu6).grow (OwnI.ext hb eu6) hfr6 hlc6;refine abA kZ (λ K hK=>?_))|refine yO ?_|(refine yC ?_ ?_<;>intro hc)|(refine yN hK ?_;clear hK K))|refine wG ?_|(refine yR ?_;intro K hK)|fail)
  exact a4A (j+1,v6) (λ w8 e8=>⟨hjl,x6.trans e8,by dsimp only;rw [hBn];exact OwnI.ext hn6 e8,hB6.ext e8⟩) eZ sZ
 ·obtain rfl:j=t:=oZ
  repeat' (first|(refine yL ?_;first|refine a0A rfl ?_|refine yO ?_|(refine yC ?_ ?_<;>intro hc)|(refine yN hK ?_;clear hK K))|refine wG ?_|(refine yR ?_;intro K hK)|fail)
  exact aiA rfl rfl he (λ u w5 e5 hu=>by obtain rfl:u=_:=hu;exact OwnI.ext hb e5)
abbrev tPm:Nat:=32
abbrev tBo:Nat:=4
theorem r6A:El Tryz.prog 29 32 (.pointer none) 1 8:=⟨rfl,rfl,rfl,by decide⟩
theorem owA:El Tryz.prog 30 4 (.bool false) 1 1:=⟨rfl,rfl,rfl,by decide⟩
theorem jqA (f:Nat→Bool) (n:Nat):isA f (n+1)=isA f n++[.bool (f n)]:=by simp [isA,List.range_succ]
structure MRow (base:Nat) (w:World) (vk vm va:Value) (ms:List Value) (n:Nat) (p f:Nat→Bool):Prop where
 k:OwnI base tK .u16 w vk (b7A p)
 m:LA.Own base tPm 1 w vm n ms
 a:LA.Own base tBo 1 w va n (isA f n)
 at_:∀ j,j<n→MkI base tM w (ms.getD j undef) (blk p (kp p j))
theorem MRow.ext {base n:Nat} {w w':World} {vk vm va:Value} {ms:List Value} {p f:Nat→Bool} (h:MRow base w vk vm va ms n p f) (e:Ext w w'):MRow base w' vk vm va ms n p f:=⟨h.k.ext e,h.m.ext e,h.a.ext e,λ j hj=>(h.at_ j hj).ext e⟩
theorem MkI.fr {base e:Nat} {w w':World} {v:Value} {p:Nat→Bool} {R:Nat→Prop} (h:MkI base e w v p) (hf:Fr R w w') (hR:∀ k,R k→∃ cur e' j,w.heap[k]?=some (.cells cur e' j)∧e≠e'):MkI base e w' v p:=by
 obtain ⟨b,h1,h2,h3⟩:=h;refine ⟨b,h1,h2,hf.at h3 (λ hk=>?_)⟩;obtain ⟨cur,e',j,h4,h5⟩:=hR b hk;rw [h3] at h4;cases h4;exact h5 rfl
theorem swA {w:World} {v:Value} {p:Nat→Bool} (h:SlP .u64 w v (spL p TOP)) (hn8:nk p≤8):Fc Tryz.prog 19 #[v] w (Ret w (.pred (axA w.heap.size tB .u8 (lfA p)))):=by
 have hks:∀ w',Ext w w'→_:=λ w' e=>m6A (h.ext e)
 have hkl:=bfA p;have hD:∀ i,i<nk p→kp p i<65536∧(b7A p).getD i 0=(kp p i:Int):=λ i hi=>by
  obtain ⟨k1,k2,k3,k4⟩:=gjA hi;exact ⟨k1,k4⟩
 obtain ⟨n,hnn⟩:∃ n,n=nk p:=⟨_,rfl⟩;rw [← hnn] at hkl hD hn8;refine Fc.of (args:=[_]) Tryz.func19 rfl rfl Tryz.ntmps19 nZ ?_
 repeat' (first|(refine yL ?_;first|refine a0A rfl ?_|refine yO ?_|(refine yC ?_ ?_<;>intro hc)|(refine yV ?_;first|(refine oC 11 ?_;refine a1A (f:=11) rfl rfl rfl  (.pred (axA w.heap.size tK .u16 (b7A p))) (by intro u1 w e hu1;(try obtain rfl:u1=_:=hu1);exact (hks _ e).mono (a6A e.size)) ?_))|(refine yN hK ?_;clear hK K))|refine wG ?_|(refine yR ?_;intro K hK)|fail)
 refine bwA 3 rfl (λ vk w3 e3 h3=>?_);replace h3:OwnI w.heap.size tK .u16 w3 vk (b7A p):=h3
 refine aaA (ι:=Nat × Value × Value × List Value) (λ j=>[(0,.val v),(3,.val vk),(4,.val j.2.1),(5,.val j.2.2.1),(6,.val (.int .i64 j.1))])
  (λ j w'=>j.1≤n∧Ext w w'∧MRow w.heap.size w' vk j.2.1 j.2.2.1 j.2.2.2 j.1 p (c1A p)) (λ j=>n-j.1)
  (λ w5 e5=>⟨(0,nilS,nilS,[]),⟨Nat.zero_le _,e3.trans e5,⟨OwnI.ext h3 e5,Own.nil,Own.nil,λ j hj=>absurd hj (Nat.not_lt_zero _)⟩⟩,sZ⟩) ?_
 clear e3 h3 w3;rintro ⟨t,vm,va,ms⟩ w1 ⟨hti,he,hM⟩;dsimp only at hti hM ⊢
 by_cases htl:t<n
 ·obtain ⟨d1,d2⟩:=hD t htl
  have hblk:∀ w',Ext w1 w'→Fc Tryz.prog 12 #[v,.int .u16 (kp p t)] w' (Ret w' (.pred (mkI w.heap.size tM (blk p (kp p t))))):=λ w' e=>(ncA (h.ext (he.trans e)) d1).mono (λ en w'' ⟨u,g1,g2,g3⟩=>⟨u,g1,g2,MkI.base g3 (he.trans e).size⟩)
  have hkc:=f3A (blk p (kp p t));have hbn:=jqA (c1A p) t;have hway:c1A p t=isR (blk p (kp p t)):=rfl;obtain ⟨q,hq⟩:∃ q,q=blk p (kp p t):=⟨_,rfl⟩;rw [← hq] at hblk hkc hway;have hkind:∀ w' u,MkI w.heap.size tM w' u q→_:=λ w' u hu=>wlA hu
  obtain ⟨kk,hkk⟩:∃ k,k=apA q:=⟨_,rfl⟩;rw [← hkk] at hkind hkc;obtain ⟨K0,hK0⟩:∃ c,c=kp p t:=⟨_,rfl⟩;rw [← hK0] at d1 d2 hblk;have hcs:(kk=3∧c1A p t=true)∨(kk≠3∧c1A p t=false):=by
   rcases hkc with ⟨k1,k2⟩|⟨k1,k2,-⟩|⟨k1,k2,-⟩
   ·exact .inl ⟨k1,by rw [hway,k2]⟩
   ·exact .inr ⟨by omega,by rw [hway,k2]⟩
   ·exact .inr ⟨by omega,by rw [hway,k2]⟩
  clear hkc hway hkk hK0
  rcases hcs with ⟨rfl,hw⟩|⟨hne,hw⟩
  all_goals
   rw [hw] at hbn
   repeat' (first|(refine yL ?_;first|refine a0A rfl ?_|(refine d3A ?_;refine azA rfl _ rfl rfl (HasI.ownV hM.k).c ?_;rw [hkl])|(refine oD 19 ?_;refine agA rfl _ rfl (λ _=>rfl) rfl (HasI.ownV hM.k) rfl oZ ?_;rw [d2])|(refine oD 22 ?_;refine a3A (hK _ _ (awA 7 rfl (λ v7 w7 e7 h7=>?_)));clear hK K;have hm7:MkI w.heap.size tM w7 v7 q:=h7;obtain ⟨b7,rfl,hb7,hc7⟩:=h7;have hM7:=hM.ext e7;refine abA kZ (λ K hK=>dzA rfl rfl ?_))|(refine oD 24 ?_;refine e7A rfl r6A rfl rfl ?_)|(refine oD 25 ?_;refine a3A (hK _ _ (anA rfl nZ r6A rfl hM7.m rfl HasC.own (λ u hu=>by rw [List.mem_singleton] at hu;subst hu;rfl) (by unfold maxLen;omega) oZ (λ vm' w8 w9 e8 ho hf hl=>?_)));clear hK K;have x8:=(he.trans e7).trans e8;have hR:∀ k,vm.ownBlock=some k→∃ cur,w8.heap[k]?=some (.cells cur tPm (0,0)):=λ k hk=>asA (hM7.m.ext e8) hk;have hm9:=MkI.fr (hm7.ext e8) hf (λ k hk=>by obtain ⟨cur,hc⟩:=hR k hk;exact ⟨cur,_,_,hc,by decide⟩);have ha9:=bvA (hM7.a.ext e8) hf (λ k hk=>by obtain ⟨cur,hc⟩:=hR k hk;exact ⟨cur,_,_,hc,by decide⟩);have hk9:OwnI w.heap.size tK .u16 w9 vk (b7A p):=bvA (OwnI.ext hM7.k e8) hf (λ k hk=>by obtain ⟨cur,hc⟩:=hR k hk;exact ⟨cur,_,_,hc,by decide⟩);have hms9:∀ j,j<t→MkI w.heap.size tM w9 (ms.getD j undef) (blk p (kp p j)):=λ j hj=>MkI.fr ((hM7.at_ j hj).ext e8) hf (λ k hk=>by obtain ⟨cur,hc⟩:=hR k hk;exact ⟨cur,_,_,hc,by decide⟩);have ho9:LA.Own w.heap.size tPm 1 w9 vm' (t+1) (ms++[.pointer (some ⟨b7,0,none⟩)]):=Own.rebase ho (hl.ge (λ k hk=>(Own.lt hM7.m k hk).1) x8.size);have x9:Ext w w9:=Fr.ext x8 hf (λ k hk=>(Own.lt hM7.m k hk).1);refine abA kZ (λ K hK=>?_))|(refine oD 30 ?_;refine e7A rfl owA rfl rfl ?_)|(refine oD 31 ?_;refine a3A (hK _ _ (anA rfl nZ owA rfl ha9 rfl HasC.own (λ u hu=>by rw [List.mem_singleton] at hu;subst hu;rfl) (by unfold maxLen;omega) oZ (λ va' wA wB eA hoA hfA hlA=>?_)));clear hK K;refine abA kZ (λ K hK=>?_))|refine yO ?_|(refine yC ?_ ?_<;>intro hc)|(refine yV ?_;first|(refine oC 12 ?_;refine a5A (f:=12) rfl rfl rfl rfl  (.pred (mkI w.heap.size tM q)) (by intro u1 u2 w e hu1 hu2;(try obtain rfl:u1=_:=hu1);(try obtain rfl:u2=_:=hu2);exact hblk _ e) ?_)|(refine oC 69 ?_;refine a1A (f:=69) rfl rfl rfl  (.val (.int .u8 _)) (by intro u1 w e hu1;(try obtain rfl:u1=_:=hu1);exact hkind _ _ (hm9.ext e)) ?_))|(refine yN hK ?_;clear hK K))|refine wG ?_|(refine yR ?_;intro K hK)|fail)
   have hRA:∀ k,va.ownBlock=some k→∃ cur,wA.heap[k]?=some (.cells cur tBo (0,0)):=λ k hk=>asA (ha9.ext eA) hk
   have xA:=x9.trans eA;have xB:Ext w wB:=Fr.ext xA hfA (λ k hk=>(Own.lt ha9 k hk).1);have hMB:MRow w.heap.size wB vk vm' va' (ms++[.pointer (some ⟨b7,0,none⟩)]) (t+1) p (c1A p):=by
    refine ⟨bvA (OwnI.ext hk9 eA) hfA (λ k hk=>?_),bvA (ho9.ext eA) hfA (λ k hk=>?_),?_,λ j hj=>MkI.fr ?_ hfA (λ k hk=>?_)⟩
    ·obtain ⟨cur,hc⟩:=hRA k hk;exact ⟨cur,_,_,hc,by decide⟩
    ·obtain ⟨cur,hc⟩:=hRA k hk;exact ⟨cur,_,_,hc,by decide⟩
    ·rw [hbn];exact Own.rebase hoA (hlA.ge (λ k hk=>(Own.lt ha9 k hk).1) xA.size)
    ·rw [glA hM.m.lenV]
     by_cases e:j<t
     ·rw [if_pos e];exact (hms9 j e).ext eA
     ·obtain rfl:j=t:=oZ
      rw [if_neg e,if_pos rfl,← hq];exact hm9.ext eA
    ·obtain ⟨cur,hc⟩:=hRA k hk;exact ⟨cur,_,_,hc,by decide⟩
   exact a4A (t+1,vm',va',ms++[.pointer (some ⟨b7,0,none⟩)]) (λ w8 e8=>⟨htl,xB.trans e8,hMB.ext e8⟩) eZ sZ
 ·obtain rfl:t=n:=oZ
  have him:∀ w',Ext w1 w'→Fc Tryz.prog 14 #[vk,vm,va] w' (Ret w' (.pred (axA w.heap.size tB .u8 (lfA p)))):=λ w' e=>by
   have hM':=hM.ext e;rw [hnn] at hM';exact (qyA (p:=p) (f:=c1A p) (ms:=ms) hM'.k.slI hM'.m.slC (λ i hi=>⟨_,hM'.at_ i hi⟩) hM'.a.slC oZ).mono (a6A (he.trans e).size)
  repeat' (first|(refine yL ?_;first|refine a0A rfl ?_|(refine d3A ?_;refine azA rfl _ rfl rfl (HasI.ownV hM.k).c ?_;rw [hkl])|refine yO ?_|(refine yC ?_ ?_<;>intro hc)|(refine yV ?_;first|(refine oC 14 ?_;refine bcA (f:=14) rfl rfl rfl rfl rfl  (.pred (axA w.heap.size tB .u8 (lfA p))) (by intro u1 u2 u3 w e hu1 hu2 hu3;(try obtain rfl:u1=_:=hu1);(try obtain rfl:u2=_:=hu2);(try obtain rfl:u3=_:=hu3);exact him _ e) ?_))|(refine yN hK ?_;clear hK K))|refine wG ?_|(refine yR ?_;intro K hK)|fail)
  exact aiA rfl rfl he (λ u w5 e5 hu=>hu)
noncomputable def yiA (xs:List Sp):Bool:=cdec (∃ j,j<xs.length∧300000<ntA xs (j+1)) || decide (2500<xs.length)
theorem tyA {w:World} {v:Value} {xs:List Sp} (h:SlP .u64 w v xs) (hx:U64 xs):Fc Tryz.prog 8 #[v] w (Ret w (.val (.bool (yiA xs)))):=by
 have hlen:=h.len;refine Fc.of (args:=[_]) Tryz.func8 rfl rfl Tryz.ntmps8 nZ ?_
 repeat' (first|(refine yL ?_;first|refine a0A rfl ?_|(refine d3A ?_;refine bjA rfl _ rfl rfl (HasP.val h) ?_)|refine yO ?_|(refine yC ?_ ?_<;>intro hc)|(refine yN hK ?_;clear hK K))|refine wG ?_|(refine yR ?_;intro K hK)|fail)
 refine ciA (ι:=Nat) (λ i=>[(0,.val v),(3,.val (.int .u64 (ntA xs i))),(6,.val (.int .i64 xs.length)),(7,.val (.int .i64 i))]) (λ i=>i≤xs.length∧∀ j,j<i→ntA xs (j+1)≤300000) (λ i=>xs.length-i) 0 ⟨Nat.zero_le _,λ j hj=>absurd hj (Nat.not_lt_zero _)⟩ sZ ?_
 rintro i ⟨hi,hk0⟩
 by_cases hil:i<xs.length
 ·obtain ⟨u1,u2,u3,u4⟩:=hx _ (ijA hil)
  have hg:=qzA xs i;have hb:300000<ntA xs (i+1)→yiA xs=true:=λ h=>by unfold yiA;rw [cdec_iff.2 ⟨i,hil,h⟩];rfl
  have hk1:ntA xs (i+1)≤300000→∀ j,j<i+1→ntA xs (j+1)≤300000:=λ h j hj=>by
   by_cases e:j<i
   ·exact hk0 j e
   ·obtain rfl:j=i:=oZ
    exact h
  have hkk:kk (xs.getD i (0,0))=if (xs.getD i (0,0)).1<(xs.getD i (0,0)).2∧(xs.getD i (0,0)).1<4294967296 then min (xs.getD i (0,0)).2 4294967296-(xs.getD i (0,0)).1 else 0:=rfl
  obtain ⟨k,hk⟩:∃ k,k=kk (xs.getD i (0,0)):=⟨_,rfl⟩;rw [← hk] at hg hkk;obtain ⟨lo,hlo⟩:∃ lo,(xs.getD i (0,0)).1=lo:=⟨_,rfl⟩;obtain ⟨hi',hhi⟩:∃ hi,(xs.getD i (0,0)).2=hi:=⟨_,rfl⟩;rw [hlo,hhi] at hg hkk;rw [hlo] at u1 u2;rw [hhi] at u3 u4;obtain ⟨s0,hs0⟩:∃ s,s=ntA xs i:=⟨_,rfl⟩;obtain ⟨s1,hs1⟩:∃ s,s=ntA xs (i+1):=⟨_,rfl⟩;rw [← hs0,← hs1] at hg;rw [← hs1] at hb hk1;rw [← hs0];clear hs0 hk hk0 hx;have hcs:(lo<hi'∧lo<4294967296∧s1=IntKind.u64.wrap (s0+k)∧min hi' 4294967296-lo=k)∨(¬ lo<hi'∧s1=s0)∨(lo<hi'∧¬ lo<4294967296∧s1=s0):=by
   by_cases c1:lo<hi'
   ·by_cases c2:lo<4294967296
    ·rw [if_pos ⟨c1,c2⟩] at hg hkk;exact .inl ⟨c1,c2,hg,hkk.symm⟩
    ·rw [if_neg (λ h=>c2 h.2)] at hg;exact .inr (.inr ⟨c1,c2,hg⟩)
   ·rw [if_neg (λ h=>c1 h.1)] at hg;exact .inr (.inl ⟨c1,hg⟩)
  clear hg hkk
  by_cases c3:300000<s1
  ·rw [hb c3]
   clear hb hk1 hs1
   rcases hcs with ⟨c1,c2,hg,hkk⟩|⟨c1,rfl⟩|⟨c1,c2,rfl⟩
   all_goals
    repeat' (first|(refine yL ?_;first|refine a0A rfl ?_|(refine d3A ?_;refine bjA rfl _ rfl rfl (HasP.val h) ?_)|(refine oI ?_;refine baA rfl _ rfl (λ _=>rfl) rfl (HasP.val h) rfl hil ?_;rw [hlo,hhi])|(refine oF 0 ?_;refine adA (f:=0) (o:=0) rfl rfl (λ _ _=>rfl) ?_)|(refine oF 1 ?_;refine adA (f:=1) (o:=1) rfl rfl (λ _ _=>rfl) ?_)|(refine oL ?_;refine b9A rfl (λ _=>rfl) rfl rfl ?_)|(refine oD 35 ?_;refine djA rfl rfl rfl ?_)|(refine oD 41 ?_;refine afA rfl rfl rfl fZ ?_;rw [hkk])|(refine oD 42 ?_;refine kvA rfl rfl rfl ?_;rw [← hg])|refine yO ?_|(refine yC ?_ ?_<;>intro hc)|(refine yN hK ?_;clear hK K))|refine wG ?_|(refine yR ?_;intro K hK)|fail)
    exact ajA rfl rfl (Ext.refl _) rfl
  ·replace hk1:=hk1 oZ
   clear hb
   rcases hcs with ⟨c1,c2,hg,hkk⟩|⟨c1,rfl⟩|⟨c1,c2,rfl⟩
   all_goals
    repeat' (first|(refine yL ?_;first|refine a0A rfl ?_|(refine d3A ?_;refine bjA rfl _ rfl rfl (HasP.val h) ?_)|(refine oI ?_;refine baA rfl _ rfl (λ _=>rfl) rfl (HasP.val h) rfl hil ?_;rw [hlo,hhi])|(refine oF 0 ?_;refine adA (f:=0) (o:=0) rfl rfl (λ _ _=>rfl) ?_)|(refine oF 1 ?_;refine adA (f:=1) (o:=1) rfl rfl (λ _ _=>rfl) ?_)|(refine oL ?_;refine b9A rfl (λ _=>rfl) rfl rfl ?_)|(refine oD 35 ?_;refine djA rfl rfl rfl ?_)|(refine oD 41 ?_;refine afA rfl rfl rfl fZ ?_;rw [hkk])|(refine oD 42 ?_;refine kvA rfl rfl rfl ?_;rw [← hg])|refine yO ?_|(refine yC ?_ ?_<;>intro hc)|(refine yN hK ?_;clear hK K))|refine wG ?_|(refine yR ?_;intro K hK)|fail)
    exact czA (i+1) ⟨hil,hk1⟩ oZ (by rw [← hs1];(repeat' (first|exact Sub.nil|(refine Sub.val rfl ?_ ?_;first|with_reducible rfl|(congr 1;omega))|refine Sub.same rfl ?_));done)
 ·obtain rfl:i=xs.length:=oZ
  have hno:cdec (∃ j,j<xs.length∧300000<ntA xs (j+1))=false:=by
   rw [Bool.eq_false_iff];intro hc;obtain ⟨j,h1,h2⟩:=cdec_iff.1 hc;have:=hk0 j h1;omega
  have hgr:yiA xs=decide (2500<xs.length):=by unfold yiA;rw [hno,Bool.false_or]
  rw [hgr];clear hno hk0 hgr
  by_cases c1:2500<xs.length
  ·rw [decide_eq_true c1]
   repeat' (first|(refine yL ?_;first|refine a0A rfl ?_|(refine d3A ?_;refine bjA rfl _ rfl rfl (HasP.val h) ?_)|refine yO ?_|(refine yC ?_ ?_<;>intro hc)|(refine yN hK ?_;clear hK K))|refine wG ?_|(refine yR ?_;intro K hK)|fail)
   all_goals exact ajA rfl rfl (Ext.refl _) rfl
  ·rw [decide_eq_false c1]
   repeat' (first|(refine yL ?_;first|refine a0A rfl ?_|(refine d3A ?_;refine bjA rfl _ rfl rfl (HasP.val h) ?_)|refine yO ?_|(refine yC ?_ ?_<;>intro hc)|(refine yN hK ?_;clear hK K))|refine wG ?_|(refine yR ?_;intro K hK)|fail)
   all_goals exact ajA rfl rfl (Ext.refl _) rfl
theorem ssA (T:Nat):spL (λ _=>false) T=[]:=(edA (Nat.zero_le T) (λ _ _ _=>rfl)).trans rfl
noncomputable def orS (xs:List Sp):Nat→Nat→Bool
 | 0=>λ _=>false
 | k+1=>two (opF 2) (orS xs k) (itv (xs.getD k (0,0)).1.toNat (min (xs.getD k (0,0)).2.toNat TOP))
theorem q2A (xs:List Sp):∀ k x,TOP≤x→orS xs k x=false
 | 0,_,_=>rfl
 | k+1,x,hx=>by
   show (opF 2) (orS xs k x) (itv _ _ x)=false
   rw [q2A xs k x hx,foA (.inr (Nat.le_trans (Nat.min_le_right _ _) hx))];rfl
theorem t2A {w:World} {v:Value} {xs:List Sp} (h:SlP .u64 w v xs) (hx:U64 xs):Fc Tryz.prog 10 #[v] w (Ret w (.pred (l7A w.heap.size tSp .u64 (spL (orS xs xs.length) TOP)))):=by
 have hlen:=h.len;refine Fc.of (args:=[_]) Tryz.func10 rfl rfl Tryz.ntmps10 nZ ?_
 repeat' (first|(refine yL ?_;first|refine a0A rfl ?_|refine yO ?_|(refine yC ?_ ?_<;>intro hc)|(refine yN hK ?_;clear hK K))|refine wG ?_|(refine yR ?_;intro K hK)|fail)
 refine aaA (ι:=Nat × Value) (λ j=>[(0,.val v),(3,.val j.2),(4,.val (.int .i64 j.1))]) (λ j w'=>j.1≤xs.length∧Ext w w'∧OwnP w.heap.size tSp .u64 w' j.2 (spL (orS xs j.1) TOP)) (λ j=>xs.length-j.1)
  (λ w2 e2=>⟨(0,nilS),⟨Nat.zero_le _,e2,by show OwnP _ _ _ _ _ (spL (λ _=>false) TOP);rw [ssA];exact OwnP.nil⟩,sZ⟩) ?_
 rintro ⟨i,vs⟩ w1 ⟨hi,he,hs⟩;dsimp only at hi hs ⊢;have hv:=h.ext he
 by_cases hil:i<xs.length
 ·obtain ⟨u1,u2,u3,u4⟩:=hx _ (ijA hil)
  obtain ⟨lo,hlo⟩:∃ lo:Nat,(xs.getD i (0,0)).1=(lo:Int):=⟨(xs.getD i (0,0)).1.toNat,by omega⟩;obtain ⟨hi',hhi⟩:∃ hi:Nat,(xs.getD i (0,0)).2=(hi:Int):=⟨(xs.getD i (0,0)).2.toNat,by omega⟩;have hor:orS xs (i+1)=two (opF 2) (orS xs i) (itv lo (min hi' TOP)):=by
   show two (opF 2) (orS xs i) (itv (xs.getD i (0,0)).1.toNat (min (xs.getD i (0,0)).2.toNat TOP))=_
   rw [hlo,hhi,Int.toNat_natCast,Int.toNat_natCast]
  rw [hlo] at u1 u2;rw [hhi] at u3 u4;have hsp:∀ w',Ext w1 w'→Fc Tryz.prog 44 #[.int .u64 lo,.int .u64 hi'] w' (Ret w' (.pred (l7A w.heap.size tSp .u64 (spL (itv lo (min hi' TOP)) TOP)))):=λ w' e=>(puA w' oZ oZ).mono (eeA (he.trans e).size rfl)
  have hbo:∀ w' u2,Ext w1 w'→SlP .u64 w' u2 (spL (itv lo (min hi' TOP)) TOP)→Fc Tryz.prog 34 #[vs,u2,.int .i64 2] w' (Ret w' (.pred (l7A w.heap.size tSp .u64 (spL (orS xs (i+1)) TOP)))):=λ w' u2 e hu=>by
   rw [hor];exact (pzA w' 2 (hs.slP.ext e) hu).mono (eeA (he.trans e).size rfl)
  repeat' (first|(refine yL ?_;first|refine a0A rfl ?_|(refine d3A ?_;refine bjA rfl _ rfl rfl (HasP.val hv) ?_)|(refine oI ?_;refine baA rfl _ rfl (λ _=>rfl) rfl (HasP.val hv) rfl hil ?_;rw [hlo,hhi])|(refine oF 0 ?_;refine adA (f:=0) (o:=0) rfl rfl (λ _ _=>rfl) ?_)|(refine oF 1 ?_;refine adA (f:=1) (o:=1) rfl rfl (λ _ _=>rfl) ?_)|(refine oL ?_;refine b9A rfl (λ _=>rfl) rfl rfl ?_)|refine yO ?_|(refine yC ?_ ?_<;>intro hc)|(refine yV ?_;first|(refine oC 44 ?_;refine a5A (f:=44) rfl rfl rfl rfl  (.pred (l7A w.heap.size tSp .u64 (spL (itv lo (min hi' TOP)) TOP))) (by intro u1 u2 w e hu1 hu2;(try obtain rfl:u1=_:=hu1);(try obtain rfl:u2=_:=hu2);exact hsp _ e) ?_)|(refine oC 34 ?_;refine bcA (f:=34) rfl rfl rfl rfl rfl  (.pred (l7A w.heap.size tSp .u64 (spL (orS xs (i+1)) TOP))) (by intro u1 u2 u3 w e hu1 hu2 hu3;(try obtain rfl:u1=_:=hu1);(try obtain rfl:u2=_:=hu2);(try obtain rfl:u3=_:=hu3);exact hbo _ _ e (OwnP.slP hu2)) ?_))|(refine yN hK ?_;clear hK K))|refine wG ?_|(refine yR ?_;intro K hK)|fail)
  refine fsA 3 rfl (λ v9 w9 e9 h9=>?_);exact a4A (i+1,v9) (λ w5 e5=>⟨hil,he.trans (e9.trans e5),OwnP.ext h9 e5⟩) eZ sZ
 ·obtain rfl:i=xs.length:=oZ
  repeat' (first|(refine yL ?_;first|refine a0A rfl ?_|(refine d3A ?_;refine bjA rfl _ rfl rfl (HasP.val hv) ?_)|refine yO ?_|(refine yC ?_ ?_<;>intro hc)|(refine yN hK ?_;clear hK K))|refine wG ?_|(refine yR ?_;intro K hK)|fail)
  exact aiA rfl rfl he (λ u w5 e5 hu=>by obtain rfl:u=_:=hu;exact OwnP.ext hs e5)
theorem key0 {p:Nat→Bool} (hlow:∀ x,65536≤x→p x=false) {x0:Nat} (hx:x0<65536) (hp:p x0=true):b7A p=[0]:=by
 refine noA (by unfold Inc;decide) (λ z=>?_)
 constructor
 ·intro h
  rw [List.mem_singleton] at h;subst h;exact ⟨0,by decide,ne_iff.2 ⟨x0,hx,by rw [Nat.zero_mul,Nat.zero_add];exact hp⟩,rfl⟩
 ·rintro ⟨i,h1,h2,rfl⟩
  obtain ⟨j,h3,h4⟩:=ne_iff.1 h2;rw [List.mem_singleton]
  by_cases e:i=0
  ·subst e;rfl
  ·rw [hlow _ oZ] at h4;cases h4
theorem blk0 {p:Nat→Bool} (hlow:∀ x,65536≤x→p x=false):blk p 0=p:=by
 funext i
 by_cases h:i<65536
 ·rw [cyA h,Nat.zero_mul,Nat.zero_add]
 ·rw [epA h,hlow i oZ]
theorem img1 {p:Nat→Bool} (hk:b7A p=[0]) (hb:blk p 0=p) {c:Nat} (hc:cnt p 65536=c) {r:Bool} (hr:isR p=r) {B:List Int} (hB:cfA p r=B) :
 lfA p=if r then leS 12347 2++(leS 0 2++[1])++((leS 0 2++leS (c-1:Nat) 2)++B) else leS 12346 4++leS 1 4++((leS 0 2++leS (c-1:Nat) 2)++(leS 16 4++B)):=by
 have hn:nk p=1:=by rw [← bfA,hk];rfl
 have h0:kp p 0=0:=by
  have:=(gjA (p:=p) (i:=0) oZ).2.2.2;rw [hk] at this;have h':(0:Int)=((kp p 0:Nat):Int):=this;omega
 have hw:c1A p 0=r:=by unfold c1A;rw [h0,hb,hr]
 have hany:dtA (c1A p) 1=r:=by show (false || c1A p 0)=r;rw [Bool.false_or,hw]
 have hd:c0A (drA p) 1=leS 0 2++leS (c-1:Nat) 2:=by
  show []++drA p 0=_
  rw [List.nil_append];unfold drA;rw [h0,hb,hc];rfl
 have hbo:c0A (d2A p (c1A p)) 1=B:=by
  show []++d2A p (c1A p) 0=_
  rw [List.nil_append];unfold d2A;rw [h0,hb,hw,hB]
 unfold lfA hnA;rw [hn,hd,hbo];unfold caA d0A;rw [hn,hany];cases r with
 | true =>
   have hf:fB (c1A p) 1=1:=by show 0+(if c1A p 0 then 2 ^ 0 else 0)=1;rw [hw];rfl
   rw [hf,if_pos rfl,if_pos rfl,if_pos ⟨rfl,by decide⟩];rfl
 | false =>
   rw [if_neg dZ,if_neg dZ,if_neg dZ];have ho:c0A (gvA p (c1A p)) 1=leS 16 4:=by
    show []++gvA p (c1A p) 0=_
    rw [List.nil_append];unfold gvA;rw [hn,hany];rfl
   rw [ho];rfl
theorem n4A {lo hi:Nat} (h:lo<hi) (h2:hi≤65536):alA (itv lo hi)=[((lo:Int),(hi:Int)-lo-1)]:=by
 have h1:=vdA lo hi 65536 h2;rw [if_pos h] at h1;have h3:(alA (itv lo hi)).map (λ x=>(x.1,x.1+x.2+1))=[((lo:Int),(hi:Int))]:=h1;cases hr:alA (itv lo hi) with
 | nil=>rw [hr] at h3;cases h3
 | cons x xs =>
   rw [hr] at h3;cases xs with
   | nil =>
     obtain ⟨a,b⟩:=x;simp only [List.map_cons,List.map_nil,List.cons.injEq,and_true,Prod.mk.injEq] at h3;obtain ⟨h4,h5⟩:=h3;have:b=(hi:Int)-lo-1:=oZ;rw [h4,this]
   | cons y ys=>simp at h3
theorem imgA:lfA (λ _=>false)=[58,48,0,0,0,0,0,0]:=by
 have hn:nk (λ _=>false)=0:=dxA _ λ i _=>g7A i
 unfold lfA hnA caA d0A;rw [hn];rfl
theorem igA {lo hi:Nat} (h:hi≤65536):∀ x,65536≤x→itv lo hi x=false:=λ x hx=>foA (.inr oZ)
theorem itv_B:bxA [1,2]=itv 1 3:=r0A λ x=>by
 rw [itv_iff];unfold bxA;rw [decide_eq_true_iff];simp only [List.mem_cons,List.not_mem_nil,or_false];omega
theorem itv_C:spU [(0,10)]=itv 0 10:=r0A λ y=>by
 rw [itv_iff];unfold spU;rw [List.any_cons,List.any_nil,Bool.or_false,Bool.and_eq_true,decide_eq_true_iff,decide_eq_true_iff,enA];show (0:Int).toNat≤y∧y<min (10:Int).toNat 4294967296↔_;rw [show (0:Int).toNat=0 by decide,show (10:Int).toNat=10 by decide];omega
theorem nsA {lo hi:Nat} (h:lo<hi) (h2:hi≤65536):isR (itv lo hi)=decide (3<hi-lo):=by
 have h1:cnt (arA (itv lo hi)) 65536=1:=by rw [← dwA];show (alA (itv lo hi)).length=1;rw [n4A h h2];rfl
 have h3:cnt (itv lo hi) 65536=hi-lo:=by rw [imA];omega
 unfold isR apA qlA;rw [h1,h3]
 by_cases hc:3<hi-lo
 ·rw [decide_eq_true hc,if_pos (by split <;> omega)];rfl
 ·rw [decide_eq_false hc,if_neg (by rw [if_pos oZ];omega),if_pos oZ];rfl
theorem imgB:lfA (itv 1 3)=[58,48,0,0,1,0,0,0,0,0,1,0,16,0,0,0,1,0,2,0]:=by
 have hc:cnt (itv 1 3) 65536=2:=by rw [imA];decide
 have hl:aeA (itv 1 3) 65536=[1,2]:=noA (by unfold Inc;decide) (λ z=>by
  simp only [List.mem_cons,List.not_mem_nil,or_false]
  constructor
  ·rintro (rfl|rfl)
   ·exact ⟨1,by decide,itv_iff.2 dZ,rfl⟩
   ·exact ⟨2,by decide,itv_iff.2 dZ,rfl⟩
  ·rintro ⟨i,h1,h2,rfl⟩
   have:=itv_iff.1 h2;omega)
 have hr:isR (itv 1 3)=false:=by rw [nsA dZ dZ];rfl
 have hb:cfA (itv 1 3) false=[1,0,2,0]:=by unfold cfA;rw [if_neg dZ,if_pos (by rw [hc];decide),hl];rfl
 rw [img1 (key0 (igA dZ) (x0:=1) dZ (itv_iff.2 dZ)) (blk0 (igA dZ)) hc hr hb];rfl
theorem imgC:lfA (itv 0 10)=[59,48,0,0,1,0,0,9,0,1,0,0,0,9,0]:=by
 have hc:cnt (itv 0 10) 65536=10:=by rw [imA];decide
 have hr:isR (itv 0 10)=true:=by rw [nsA dZ dZ];rfl
 have hb:cfA (itv 0 10) true=[1,0,0,0,9,0]:=by unfold cfA;rw [if_pos rfl,n4A dZ dZ];rfl
 rw [img1 (key0 (igA dZ) (x0:=0) dZ (itv_iff.2 dZ)) (blk0 (igA dZ)) hc hr hb];rfl
theorem q7A {lo hi:Nat} (h:lo<hi) (h2:hi≤65536):nk (itv lo hi)≤8:=by
 rw [← bfA,key0 (igA h2) (x0:=lo) oZ (itv_iff.2 oZ)];decide
theorem el_sp:El Tryz.prog 22 68 (.agg #[.int .u64 0,.int .u64 0]) 2 16:=⟨rfl,rfl,rfl,by decide⟩
theorem kcA (w:World) (hT:Tab w):Fc Tryz.prog 9 #[] w (Ret w (.val (.bool true))):=by
 have htp:=enA;have hwA:∀ w' u,Ext w w'→RSet TT TT w' u (λ _=>false)→Fc Tryz.prog 18 #[u] w' (Ret w' (.pred (axA w.heap.size tB .u8 [58,48,0,0,0,0,0,0]))):=λ w' u e hu=>by
  have:=(jvA (.inr hu) (by rw [show nk (λ _=>false)=0 from dxA _ λ i _=>g7A i];decide) (hT.ext e)).mono (a6A e.size);rw [imgA] at this;exact this
 have hwB:∀ w' u,Ext w w'→RSet TT TT w' u (itv 1 3)→Fc Tryz.prog 18 #[u] w' (Ret w' (.pred (axA w.heap.size tB .u8 [58,48,0,0,1,0,0,0,0,0,1,0,16,0,0,0,1,0,2,0]))):=λ w' u e hu=>by
  have:=(jvA (.inr hu) (q7A dZ dZ) (hT.ext e)).mono (a6A e.size);rw [imgB] at this;exact this
 have hwC:∀ w' u,Ext w w'→RSet TT TT w' u (itv 0 10)→Fc Tryz.prog 18 #[u] w' (Ret w' (.pred (axA w.heap.size tB .u8 [59,48,0,0,1,0,0,9,0,1,0,0,0,9,0]))):=λ w' u e hu=>by
  have:=(jvA (.inr hu) (q7A dZ dZ) (hT.ext e)).mono (a6A e.size);rw [imgC] at this;exact this
 have hof:∀ w' u,Ext w w'→SlI .u32 w' u [1,2]→Fc Tryz.prog 41 #[u] w' (Ret w' (.pred (rsP TT TT (itv 1 3)))):=λ w' u e hu=>by
  rw [← itv_B];exact of_s (ys:=[1,2]) hu (by intro y hy;simp only [List.mem_cons,List.not_mem_nil,or_false] at hy;omega) dZ (hT.ext e) tt tt
 have hsp:∀ w' u,Ext w w'→SlP .u64 w' u [(0,10)]→Fc Tryz.prog 42 #[u] w' (Ret w' (.pred (rsP TT TT (itv 0 10)))):=λ w' u e hu=>by
  rw [← itv_C];exact w6A hu (by intro x hx;rw [List.mem_singleton] at hx;subst hx;decide) (hT.ext e) tt tt
 have hrd:∀ w' u,Ext w w'→SlI .u8 w' u ([9]++[58,48,0,0,1,0,0,0,0,0,1,0,16,0,0,0,1,0,2,0])→Fc Tryz.prog 15 #[u,.int .i64 (1:Nat)] w' (Ret w' (.tup3 (.pred (rsP TT TT (itv 1 3))) (.val (.int .i64 (21:Nat))) (.val (.int .i64 0)))):=λ w' u e hu=>by
  have h1:AtB ([9]++[58,48,0,0,1,0,0,0,0,0,1,0,16,0,0,0,1,0,2,0]) 1 (hnA (itv 1 3) (c1A (itv 1 3))):=by
   show AtB _ 1 (lfA (itv 1 3))
   rw [imgB];exact ⟨[9],[],rfl,rfl⟩
  have:=vhA (f:=c1A (itv 1 3)) hu (hT.ext e) dZ dZ (q7A dZ dZ) (λ x hx=>foA (.inr oZ)) h1;rw [show (hnA (itv 1 3) (c1A (itv 1 3))).length=20 by show (lfA (itv 1 3)).length=20;rw [imgB];rfl] at this;exact this
 have hln:∀ w' u,RSet TT TT w' u (itv 1 3)→Fc Tryz.prog 43 #[u] w' (Ret w' (.val (.int .i64 (2:Nat)))):=λ w' u hu=>by
  have:=len_s (B:=TT) (A:=TT) (.inr hu);rw [show cnt (itv 1 3) TOP=2 by rw [imA];omega] at this;exact this
 refine Fc.of (args:=[]) Tryz.func9 rfl rfl Tryz.ntmps9 nZ ?_
 repeat' (first|(refine yL ?_;first|refine a0A rfl ?_|(refine oD 9 ?_;refine obA rfl r5A rfl rfl rfl rfl ?_)|(refine oD 12 ?_;refine e4A (c:=spV .u64 (0,10)) rfl rfl rfl (λ w=>run_build w _ _ _ kZ) ?_)|(refine oD 13 ?_;refine e6A rfl el_sp rfl rfl dZ ?_)|(refine oD 17 ?_;refine a3A (hK _ _ (awA 1 rfl (λ va wa ea ha=>awA 2 rfl (λ vb wb eb hb=>awA 3 rfl (λ vc wc ec hc=>?_)))));clear hK K;replace ha:OwnI w.heap.size tB .u8 wa va [58,48,0,0,0,0,0,0]:=ha;replace hb:OwnI w.heap.size tB .u8 wb vb [58,48,0,0,1,0,0,0,0,0,1,0,16,0,0,0,1,0,2,0]:=hb;replace hc:OwnI w.heap.size tB .u8 wc vc [59,48,0,0,1,0,0,9,0,1,0,0,0,9,0]:=hc;have xc:=(ea.trans eb).trans ec;refine abA kZ (λ K hK=>e7A rfl e5A rfl rfl ?_))|(refine oD 18 ?_;refine a3A (hK _ _ (awA 17 rfl (λ v7 w7 e7 h7=>?_)));clear hK K;replace h7:OwnI wc.heap.size tB .u8 w7 v7 [9]:=h7;refine abA kZ (λ K hK=>dzA rfl rfl ?_))|(refine oD 19 ?_;refine a3A (hK _ _ (anA rfl nZ e5A rfl h7 rfl (HasI.ownV (hb.ext (ec.trans e7))).c buA dZ dZ (λ v8 wu wz eu ho hfr hlc=>?_)));clear hK K;obtain ⟨xz,hz⟩:=o7A (w:=wc) (a:=[9]) (b:=[58,48,0,0,1,0,0,0,0,0,1,0,16,0,0,0,1,0,2,0]) h7 e7 eu ho hfr hlc;have haz:=(ha.ext (eb.trans ec)).ext xz;have hbz:=(hb.ext ec).ext xz;have hcz:=hc.ext xz;have xw:=xc.trans xz;refine abA kZ (λ K hK=>?_))|(refine oD 25 ?_;refine kuA rfl rfl rfl rfl rfl (HasI.ownV haz) ?_)|(refine oD 29 ?_;refine kuA rfl rfl rfl rfl rfl (HasI.ownV hbz) ?_)|(refine oD 34 ?_;refine kuA rfl rfl rfl rfl rfl (HasI.ownV hcz) ?_)|refine lrA rfl rfl rfl rfl rfl ?_|(refine oD 44 ?_;refine azA (n:=20) rfl _ rfl rfl (HasI.ownV hbz).c ?_)|refine yO ?_|(refine yC ?_ ?_<;>intro hc)|(refine yV ?_;first|(refine oC 40 ?_;refine faA (f:=40) rfl rfl  (.pred (rsP TT TT (λ _=>false))) (by intro w e;exact Go.Proofs.YtbokphkfojijoaaGreatDoor.new_c _ tt) ?_)|(refine oD 8 ?_;refine oC 18 ?_;refine a1A (f:=18) rfl rfl rfl  (.pred (axA w.heap.size tB .u8 [58,48,0,0,0,0,0,0])) (by intro u1 w e hu1;(try obtain rfl:u1=_:=hu1);exact hwA _ _ e hu1) ?_)|(refine oC 41 ?_;refine a1A (f:=41) rfl rfl rfl  (.pred (rsP TT TT (itv 1 3))) (by intro u1 w e hu1;(try obtain rfl:u1=_:=hu1);exact hof _ _ e (Own.slC hu1)) ?_)|(refine oD 11 ?_;refine oC 18 ?_;refine a1A (f:=18) rfl rfl rfl  (.pred (axA w.heap.size tB .u8 [58,48,0,0,1,0,0,0,0,0,1,0,16,0,0,0,1,0,2,0])) (by intro u1 w e hu1;(try obtain rfl:u1=_:=hu1);exact hwB _ _ e hu1) ?_)|(refine oC 42 ?_;refine a1A (f:=42) rfl rfl rfl  (.pred (rsP TT TT (itv 0 10))) (by intro u1 w e hu1;(try obtain rfl:u1=_:=hu1);exact hsp _ _ e (Own.slC hu1)) ?_)|(refine oD 15 ?_;refine oC 18 ?_;refine a1A (f:=18) rfl rfl rfl  (.pred (axA w.heap.size tB .u8 [59,48,0,0,1,0,0,9,0,1,0,0,0,9,0])) (by intro u1 w e hu1;(try obtain rfl:u1=_:=hu1);exact hwC _ _ e hu1) ?_)|(refine oC 15 ?_;refine a5A (f:=15) rfl rfl rfl rfl  (.tup3 (.pred (rsP TT TT (itv 1 3))) (.val (.int .i64 (21:Nat))) (.val (.int .i64 0))) (by intro u1 u2 w e hu1 hu2;(try obtain rfl:u1=_:=hu1);(try obtain rfl:u2=_:=hu2);exact hrd _ _ (xw.trans e) (OwnI.slI (hz.ext e))) ?_)|(refine oC 43 ?_;refine a1A (f:=43) rfl rfl rfl  (.val (.int .i64 (2:Nat))) (by intro u1 w e hu1;(try obtain rfl:u1=_:=hu1);exact hln _ _ hu1) ?_))|(refine yN hK ?_;clear hK K))|refine wG ?_|(refine yR ?_;intro K hK)|fail)
 all_goals exact ajA rfl rfl xw rfl
end Go.Proofs.YtbokphkfojijoaaGreatDoor.Pt
end
