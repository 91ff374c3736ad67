import Derived.Test.YtlnaebejmjmepaaGreatDoorM13
import Derived.Test.YtlnaebejmjmepaaGreatDoorM15
set_option linter.unusedSimpArgs false
set_option linter.unusedVariables false
set_option maxRecDepth 3000
set_option maxHeartbeats 16000000
section
namespace Go.Proofs.YtlnaebejmjmepaaGreatDoor
namespace Srt
open Go.LA Go.ArrP Go.RowKit
theorem pbA {w0 w:World} {rb e2:Nat} {kd2:IntKind} {v2:Value} {ys:List Int} {r:Int} (he:Ext w0 w) (hr:OwnI w0.heap.size 182 .u64 w (.slice (some ⟨rb,0,none⟩) 1 1) [r]) (h0:0≤r∧r<18446744073709551616) (ho:OwnI w0.heap.size e2 kd2 w v2 ys) (hne:e2≠182) :
 Fc Tryz.prog 186 #[.pointer (some ⟨rb,0,none⟩)] w (λ e w'=>∃ c:Nat,e=.returned (.int .u64 c)∧c<18446744073709551616∧Ext w0 w'∧OwnI w0.heap.size 182 .u64 w' (.slice (some ⟨rb,0,none⟩) 1 1) [(c:Int)]∧OwnI w0.heap.size e2 kd2 w' v2 ys):=by
 refine Fc.of (args:=[_]) Tryz.func186 rfl rfl Tryz.ntmps186 nZ ?_
 repeat' (first|(refine yL ?_;first|refine yB ?_|(refine afA rfl rfl ?_)|(refine oL ?_;refine amA hr rfl (λ _=>rfl) rfl (by exact Nat.zero_lt_one) ?_;rw [show [r].getD 0 0=r from rfl])|(refine oD 10 ?_;refine mvA rfl rfl rfl (λ c1 hc1=>?_) oZ (by rw [IntKind.wrap_u64];omega))|refine yO ?_|(refine yC ?_ ?_<;>intro hc)|(refine yN hK ?_;clear hK K))|(refine oCX ?_;first|refine aqA (id:=1) [9] kZ kZ kZ (a7A ?_))|refine wG ?_|(refine yR ?_;intro K hK)|refine wPh ?_|fail)
 refine gfA (j:=0) rfl he hr ho hne rfl rfl (by exact Nat.zero_lt_one) (λ _=>rfl) (λ w1 he1 hr1 ho1=>?_);replace hr1:OwnI w0.heap.size 182 .u64 w1 (.slice (some ⟨rb,0,none⟩) 1 1) [(c1:Int)]:=hr1;refine apA ?_
 repeat' (first|(refine yL ?_;first|refine yB ?_|(refine afA rfl rfl ?_)|(refine oL ?_;refine amA hr1 rfl (λ _=>rfl) rfl (by exact Nat.zero_lt_one) ?_;rw [show [(c1:Int)].getD 0 0=(c1:Int) from rfl])|(refine oD 19 ?_;refine mvA rfl rfl rfl (λ c2 hc2=>?_) oZ oZ)|refine yO ?_|(refine yC ?_ ?_<;>intro hc)|(refine yN hK ?_;clear hK K))|(refine oCX ?_;first|refine aqA (id:=2) [9] kZ kZ kZ (a7A ?_))|refine wG ?_|(refine yR ?_;intro K hK)|refine wPh ?_|fail)
 refine gfA (j:=0) rfl he1 hr1 ho1 hne rfl rfl (by exact Nat.zero_lt_one) (λ _=>rfl) (λ w2 he2 hr2 ho2=>?_);replace hr2:OwnI w0.heap.size 182 .u64 w2 (.slice (some ⟨rb,0,none⟩) 1 1) [(c2:Int)]:=hr2;refine apA ?_
 repeat' (first|(refine yL ?_;first|refine yB ?_|(refine afA rfl rfl ?_)|(refine oL ?_;refine amA hr2 rfl (λ _=>rfl) rfl (by exact Nat.zero_lt_one) ?_;rw [show [(c2:Int)].getD 0 0=(c2:Int) from rfl])|(refine oD 28 ?_;refine mvA rfl rfl rfl (λ c3 hc3=>?_) oZ (by rw [IntKind.wrap_u64];omega))|refine yO ?_|(refine yC ?_ ?_<;>intro hc)|(refine yN hK ?_;clear hK K))|(refine oCX ?_;first|refine aqA (id:=3) [9] kZ kZ kZ (a7A ?_))|refine wG ?_|(refine yR ?_;intro K hK)|refine wPh ?_|fail)
 refine gfA (j:=0) rfl he2 hr2 ho2 hne rfl rfl (by exact Nat.zero_lt_one) (λ _=>rfl) (λ w3 he3 hr3 ho3=>?_);replace hr3:OwnI w0.heap.size 182 .u64 w3 (.slice (some ⟨rb,0,none⟩) 1 1) [(c3:Int)]:=hr3;refine apA ?_
 repeat' (first|(refine yL ?_;first|refine yB ?_|(refine afA rfl rfl ?_)|(refine oL ?_;refine amA hr3 rfl (λ _=>rfl) rfl (by exact Nat.zero_lt_one) ?_;rw [show [(c3:Int)].getD 0 0=(c3:Int) from rfl])|refine yO ?_|(refine yC ?_ ?_<;>intro hc)|(refine yN hK ?_;clear hK K))|refine wG ?_|(refine yR ?_;intro K hK)|refine wPh ?_|fail)
 exact c6A rfl (λ x w5 e5 hx=>by obtain rfl:x=_:=hx;exact ⟨c3,rfl,hc3,he3.trans e5,hr3.ext e5,ho3.ext e5⟩)
end Srt
end Go.Proofs.YtlnaebejmjmepaaGreatDoor
end
section
namespace Go.Proofs.YtlnaebejmjmepaaGreatDoor
namespace Srt
open Go.LA Go.ArrP Go.RowKit
theorem zeA {w0 w:World} {b cap n:Nat} {D0:Array Int} (he0:Ext w0 w) (ho0:d6A w0 w b cap n D0) (hn:n=D0.size) (lo hi:Nat) (h1:lo≤hi) (h2:hi≤D0.size) (hb:D0.size<4611686018427387904) :
 Fc Tryz.prog 177 #[.slice (some ⟨b,0,none⟩) n cap,.int .i64 lo,.int .i64 hi] w (λ e w'=>e=.returned (.tuple #[])∧Ext w0 w'∧∃ D',Go.Sort.PermIn lo hi D0 D'∧d6A w0 w' b cap n D'):=by
 obtain ⟨L,hL⟩:∃ L,L=hi-lo:=⟨_,rfl⟩;have hl0:=b0A D0
 by_cases h8:8≤L
 ·obtain ⟨M,hM⟩:∃ M,M=2 ^ Go.Sort.bitsLen L:=⟨_,rfl⟩
  have hM1:0<M:=by rw [hM];exact Nat.two_pow_pos _
  have hM2:M≤2*L:=by rw [hM];exact Go.Sort.two_pow_bitsLen_le oZ
  have hnp:=λ w=>wgA (w:=w) L oZ
  rw [← hM] at hnp;refine Fc.of (args:=[_,_,_]) Tryz.func177 rfl rfl Tryz.ntmps177 nZ ?_
  repeat' (first|(refine yL ?_;first|refine a0A rfl ?_|(refine oD 13 ?_;refine abA rfl rfl rfl fZ ?_;rw [show ((hi:Int)-lo)=(L:Int) by omega])|(refine oD 7 ?_;refine a4A (hK _ _ (c5A rfl rfl dZ (λ _=>rfl) (λ _=>rfl) (λ _=>rfl) rfl (by intro u hu;simp [Value.cells] at hu;subst hu;rfl) (λ rb wx ex hbx hbc=>?_)));clear hK K)|refine yO ?_|(refine yC ?_ ?_<;>intro hc)|(refine yV ?_;first|(refine oC 185 ?_;refine a2A (f:=185) rfl rfl rfl  (.val (.int .u64 (M:Int))) (by intro u1 w e hu1;(try obtain rfl:u1=_:=hu1);exact hnp _) ?_))|(refine yN hK ?_;clear hK K))|refine wG ?_|(refine yR ?_;intro K hK)|fail)
  have heX:Ext w0 wx:=he0.trans ex;have hr:OwnI w0.heap.size 182 .u64 wx (.slice (some ⟨rb,0,none⟩) 1 1) [(L:Int)]:=⟨rfl,.inr ⟨rb,1,_,rfl,Nat.le_trans he0.size hbx,hbc,Nat.le_refl _,by decide,rfl,rfl⟩⟩;have hoX:d6A w0 wx b cap n D0:=ho0.ext ex
  refine agA (ι:=Nat × Array Int × Nat) (λ i=>[(0,.val (.slice (some ⟨b,0,none⟩) n cap)),(1,.val (.int .i64 lo)),(6,.val (.int .i64 (L:Int))),(7,.val (.pointer (some ⟨rb,0,none⟩))),(8,.val (.int .u64 (M:Int))),(9,.val (.int .i64 ((lo+L / 4*2-1+i.1:Nat):Int)))])
   (λ i w'=>Ext w0 w'∧i.1≤3∧Go.Sort.PermIn lo hi D0 i.2.1∧d6A w0 w' b cap n i.2.1∧i.2.2<18446744073709551616∧OwnI w0.heap.size 182 .u64 w' (.slice (some ⟨rb,0,none⟩) 1 1) [(i.2.2:Int)]) (λ i=>3-i.1)
   (λ w2 e2=>⟨(0,D0,L),⟨heX.trans e2,Nat.zero_le _,Go.Sort.permIn_refl _ _ _,hoX.ext e2,by dsimp only;omega,hr.ext e2⟩,by dsimp only;exact sZ⟩) ?_
  rintro ⟨t,D,r⟩ w1 ⟨he1,ht3,hp1,ho1,hr1,hw1⟩;dsimp only at ht3 hp1 ho1 hr1 hw1 ⊢;have hs1:D.size=D0.size:=hp1.1;have hl1:=b0A D;clear heX hr hoX
  by_cases ht:t<3
  ·have q0:True:=trivial
   repeat' (first|(refine yL ?_;first|refine a0A rfl ?_|(refine oD 36 ?_;refine a4A (hK _ _ (grA (f:=186) rfl dZ rfl rfl (λ v w'=>∃ c:Nat,v=.int .u64 (c:Int)∧c<18446744073709551616∧Ext w0 w'∧OwnI w0.heap.size 182 .u64 w' (.slice (some ⟨rb,0,none⟩) 1 1) [(c:Int)]∧d6A w0 w' b cap n D) (λ w' e=>(pbA (he1.trans e) (hw1.ext e) oZ (ho1.ext e) dZ).mono (by rintro e5 w5 ⟨c,h1,h2⟩;exact ⟨_,h1,c,rfl,h2⟩)) (λ v w2 hv=>?_)));clear hK K;obtain ⟨c,rfl,hcB,he2,hr2,ho2⟩:=hv)|(refine oD 38 ?_;refine abA rfl rfl rfl fZ ?_;rw [show ((M:Int)-1)=((M-1:Nat):Int) by omega])|(refine oD 39 ?_;refine sqA rfl rfl rfl (λ q hq=>?_) oZ oZ)|(refine oD 46 ?_;refine abA rfl rfl rfl fZ ?_;rw [show ((q:Int)-L)=((q-L:Nat):Int) by omega])|refine yO ?_|(refine yC ?_ ?_<;>intro hc)|(refine yN hK ?_;clear hK K))|(refine oCX ?_;first|refine cmA (id:=8) (ι:=Nat) (λ o=>[(0,.val (.slice (some ⟨b,0,none⟩) n cap)),(1,.val (.int .i64 lo)),(6,.val (.int .i64 (L:Int))),(7,.val (.pointer (some ⟨rb,0,none⟩))),(8,.val (.int .u64 (M:Int))),(9,.val (.int .i64 ((lo+L / 4*2-1+t:Nat):Int))),(10,.val (.int .i64 (o:Int)))]) (λ o w'=>Ext w0 w'∧o<L∧(∃ c3:Nat,c3<18446744073709551616∧OwnI w0.heap.size 182 .u64 w' (.slice (some ⟨rb,0,none⟩) 1 1) [(c3:Int)])∧d6A w0 w' b cap n D) ?_ ?_)|refine wG ?_|(refine yR ?_;intro K hK)|(refine oLX ?_;first|(refine aiA rfl ?_;intro K hK))|fail)
   ·exact a6A (q-L) (λ w6 e6=>⟨he2.trans e6,by omega,⟨c,hcB,hr2.ext e6⟩,ho2.ext e6⟩) oZ sZ
   ·exact a6A q (λ w6 e6=>⟨he2.trans e6,by omega,⟨c,hcB,hr2.ext e6⟩,ho2.ext e6⟩) oZ sZ
   ·rintro o w3 ⟨he3,ho,⟨c3,hc3,hr3⟩,ho3⟩
    repeat' (first|(refine yL ?_;first|refine yB ?_|(refine oI ?_;refine a8A rfl rfl (λ _=>rfl) rfl rfl _ rfl oZ ?_)|(refine oL ?_;refine amA ho3 rfl (λ _=>rfl) rfl oZ ?_;rw [czA])|(refine oD 52 ?_;refine beA rfl rfl rfl fZ ?_;rw [show ((lo:Int)+o)=((lo+o:Nat):Int) by omega])|(refine oD 56 ?_;refine beA rfl rfl rfl fZ ?_;rw [show ((lo:Int)+o)=((lo+o:Nat):Int) by omega])|refine yO ?_|(refine yC ?_ ?_<;>intro hc)|(refine yN hK ?_;clear hK K))|(refine oCX ?_;first|refine aqA (id:=10) [17,19] kZ kZ kZ (a7A ?_))|refine wG ?_|(refine yR ?_;intro K hK)|refine wPh ?_|fail)
    refine gfA (j:=lo+L / 4*2-1+t) rfl he3 ho3 hr3 dZ rfl rfl oZ (λ _=>rfl) (λ wS1 heS1 hoS1 hrS1=>?_);refine a7A ?_
    repeat' (first|(refine yL ?_;first|refine yB ?_|(refine oD 64 ?_;refine a8A rfl rfl (λ _=>rfl) rfl rfl (lo+o) oZ oZ ?_)|(refine oD 52 ?_;refine beA rfl rfl rfl fZ ?_;rw [show ((lo:Int)+o)=((lo+o:Nat):Int) by omega])|refine yO ?_|(refine yC ?_ ?_<;>intro hc)|(refine yN hK ?_;clear hK K))|refine wG ?_|(refine yR ?_;intro K hK)|refine wPh ?_|fail)
    refine gfA (j:=lo+o) rfl heS1 hoS1 hrS1 dZ rfl rfl (by rw [List.length_set];omega) (λ _=>rfl) (λ wS heS hoS hrS=>?_);rw [b6A] at hoS;refine apA ?_
    repeat' (first|(refine yL ?_;first|refine yB ?_|refine yO ?_|(refine yC ?_ ?_<;>intro hc)|(refine yN hK ?_;clear hK K))|refine wG ?_|(refine yR ?_;intro K hK)|refine wPh ?_|fail)
    exact a6A (t+1,Go.Sort.swp D (lo+L / 4*2-1+t) (lo+o),c3) (λ w6 e6=>⟨heS.trans e6,by dsimp only;omega,Go.Sort.permIn_trans _ _ _ _ _ hp1 (Go.Sort.swp_permIn _ _ _ _ _ oZ oZ oZ oZ oZ),hoS.ext e6,hc3,hrS.ext e6⟩) eZ (by dsimp only;exact sZ)
  ·have q0:True:=trivial
   repeat' (first|(refine yL ?_;first|refine a0A rfl ?_|refine yO ?_|(refine yC ?_ ?_<;>intro hc)|(refine yN hK ?_;clear hK K))|refine wG ?_|(refine yR ?_;intro K hK)|fail)
   exact bdA rfl (λ w5 e5=>⟨rfl,he1.trans e5,D,hp1,ho1.ext e5⟩) (.inl rfl)
 ·have q0:True:=trivial
  refine Fc.of (args:=[_,_,_]) Tryz.func177 rfl rfl Tryz.ntmps177 nZ ?_
  repeat' (first|(refine yL ?_;first|refine a0A rfl ?_|refine yO ?_|(refine yC ?_ ?_<;>intro hc)|(refine yN hK ?_;clear hK K))|refine wG ?_|(refine yR ?_;intro K hK)|fail)
  exact bdA rfl (λ w5 e5=>⟨rfl,he0.trans e5,D0,Go.Sort.permIn_refl _ _ _,ho0.ext e5⟩) (.inl rfl)
end Srt
end Go.Proofs.YtlnaebejmjmepaaGreatDoor
end
section
namespace Go.Proofs.YtlnaebejmjmepaaGreatDoor
namespace Srt
open Go.LA Go.ArrP Go.RowKit
def Sw (w0 w:World) (sb:Nat):Prop:=∃ s,OwnI w0.heap.size 3 .i64 w (.slice (some ⟨sb,0,none⟩) 1 1) [s]
theorem Sw.ext {w0 w w':World} {sb:Nat} (h:Sw w0 w sb) (e:Ext w w'):Sw w0 w' sb:=by obtain ⟨s,h⟩:=h;exact ⟨s,h.ext e⟩
theorem k9A {w0 w:World} {b cap n sb:Nat} {D:Array Int} (he0:Ext w0 w) (ho0:d6A w0 w b cap n D) (hs0:Sw w0 w sb) (hn:n=D.size) (hb:D.size<4611686018427387904) (lo hi:Nat) (h2:hi≤D.size) (x y:Nat) (hx:lo≤x∧x<hi) (hy:lo≤y∧y<hi) :
 Fc Tryz.prog 199 #[(.slice (some ⟨b,0,none⟩) n cap),.int .i64 x,.int .i64 y,(.pointer (some ⟨sb,0,none⟩))] w (λ e w'=>∃ p q:Nat,e=.returned (.tuple #[.int .i64 p,.int .i64 q])∧(lo≤p∧p<hi)∧(lo≤q∧q<hi)∧Ext w0 w'∧d6A w0 w' b cap n D∧Sw w0 w' sb):=by
 have hl:=b0A D;obtain ⟨s,hs⟩:=hs0;cases hp:Go.Sort.ltInt D[y]! D[x]!
 ·have q0:True:=trivial
  refine Fc.of (args:=[_,_,_,_]) Tryz.func199 rfl rfl Tryz.ntmps199 nZ ?_
  repeat' (first|(refine yL ?_;first|refine a0A rfl ?_|(refine oI ?_;refine a8A rfl rfl (λ _=>rfl) rfl rfl _ rfl oZ ?_)|(refine oL ?_;refine amA ho0 rfl (λ _=>rfl) rfl oZ ?_;rw [czA])|refine yO ?_|(refine yC ?_ ?_<;>intro hc)|(refine yV ?_;first|(refine oC 171 ?_;refine a3A (f:=171) rfl rfl rfl rfl  (.val (.bool false)) (by intro u1 u2 w e hu1 hu2;(try obtain rfl:u1=_:=hu1);(try obtain rfl:u2=_:=hu2);exact arA (by rw [hp]) (b8A _ _ _)) ?_))|(refine yN hK ?_;clear hK K))|refine wG ?_|(refine yR ?_;intro K hK)|fail)
  exact e2A rfl (λ u v w5 e5 hu hv=>by obtain rfl:u=_:=hu;obtain rfl:v=_:=hv;exact ⟨x,y,rfl,hx,hy,he0.trans e5,ho0.ext e5,s,hs.ext e5⟩)
 ·have q0:True:=trivial
  refine Fc.of (args:=[_,_,_,_]) Tryz.func199 rfl rfl Tryz.ntmps199 nZ ?_
  repeat' (first|(refine yL ?_;first|refine a0A rfl ?_|(refine oD 21 ?_;refine amA hs rfl (λ _=>rfl) rfl (by exact Nat.zero_lt_one) ?_;rw [show [s].getD 0 0=s from rfl])|(refine oD 22 ?_;refine l3A rfl rfl rfl ?_)|(refine afA rfl rfl ?_)|(refine oSt ?_;refine a4A (hK _ _ (saA (j:=0) rfl he0 hs ho0 dZ rfl rfl (by exact Nat.zero_lt_one) (λ _=>rfl) (λ w1 he1 hs1 ho1=>?_)));clear hK K)|(refine oI ?_;refine a8A rfl rfl (λ _=>rfl) rfl rfl _ rfl oZ ?_)|(refine oL ?_;refine amA ho0 rfl (λ _=>rfl) rfl oZ ?_;rw [czA])|refine yO ?_|(refine yC ?_ ?_<;>intro hc)|(refine yV ?_;first|(refine oC 171 ?_;refine a3A (f:=171) rfl rfl rfl rfl  (.val (.bool true)) (by intro u1 u2 w e hu1 hu2;(try obtain rfl:u1=_:=hu1);(try obtain rfl:u2=_:=hu2);exact arA (by rw [hp]) (b8A _ _ _)) ?_))|(refine yN hK ?_;clear hK K))|refine wG ?_|(refine yR ?_;intro K hK)|fail)
  exact e2A rfl (λ u v w5 e5 hu hv=>by obtain rfl:u=_:=hu;obtain rfl:v=_:=hv;exact ⟨y,x,rfl,hy,hx,he1.trans e5,ho1.ext e5,_,OwnI.ext hs1 e5⟩)
theorem quA {w0 w:World} {b cap n sb:Nat} {D:Array Int} (he0:Ext w0 w) (ho0:d6A w0 w b cap n D) (hs0:Sw w0 w sb) (hn:n=D.size) (hb:D.size<4611686018427387904) (lo hi:Nat) (h2:hi≤D.size) (x y z:Nat) (hx:lo≤x∧x<hi) (hy:lo≤y∧y<hi) (hz:lo≤z∧z<hi) :
 Fc Tryz.prog 197 #[(.slice (some ⟨b,0,none⟩) n cap),.int .i64 x,.int .i64 y,.int .i64 z,(.pointer (some ⟨sb,0,none⟩))] w (λ e w'=>∃ p:Nat,e=.returned (.int .i64 p)∧(lo≤p∧p<hi)∧Ext w0 w'∧d6A w0 w' b cap n D∧Sw w0 w' sb):=by
 refine Fc.of (args:=[_,_,_,_,_]) Tryz.func197 rfl rfl Tryz.ntmps197 nZ ?_
 repeat' (first|(refine yL ?_;first|refine a0A rfl ?_|(refine oD 16 ?_;refine a4A (hK _ _ (doA (f:=199) rfl dZ rfl rfl rfl rfl rfl (λ v w'=>∃ p q:Nat,v=.tuple #[.int .i64 p,.int .i64 q]∧(lo≤p∧p<hi)∧(lo≤q∧q<hi)∧Ext w0 w'∧d6A w0 w' b cap n D∧Sw w0 w' sb) (λ w' e=>(k9A (he0.trans e) (ho0.ext e) (hs0.ext e) hn hb lo hi h2 x y oZ oZ).mono (by rintro e5 w5 ⟨p,q,h1,h2⟩;exact ⟨_,h1,p,q,rfl,h2⟩)) (λ v w1 hv=>?_)));clear hK K;obtain ⟨p1,q1,rfl,bp1,bq1,he1,ho1,hs1⟩:=hv)|(refine oD 24 ?_;refine a4A (hK _ _ (doA (f:=199) rfl dZ rfl rfl rfl rfl rfl (λ v w'=>∃ p q:Nat,v=.tuple #[.int .i64 p,.int .i64 q]∧(lo≤p∧p<hi)∧(lo≤q∧q<hi)∧Ext w0 w'∧d6A w0 w' b cap n D∧Sw w0 w' sb) (λ w' e=>(k9A (he1.trans e) (ho1.ext e) (hs1.ext e) hn hb lo hi h2 q1 z oZ oZ).mono (by rintro e5 w5 ⟨p,q,h1,h2⟩;exact ⟨_,h1,p,q,rfl,h2⟩)) (λ v w2 hv=>?_)));clear hK K;obtain ⟨p2,q2,rfl,bp2,bq2,he2,ho2,hs2⟩:=hv)|(refine oD 32 ?_;refine a4A (hK _ _ (doA (f:=199) rfl dZ rfl rfl rfl rfl rfl (λ v w'=>∃ p q:Nat,v=.tuple #[.int .i64 p,.int .i64 q]∧(lo≤p∧p<hi)∧(lo≤q∧q<hi)∧Ext w0 w'∧d6A w0 w' b cap n D∧Sw w0 w' sb) (λ w' e=>(k9A (he2.trans e) (ho2.ext e) (hs2.ext e) hn hb lo hi h2 p1 p2 oZ oZ).mono (by rintro e5 w5 ⟨p,q,h1,h2⟩;exact ⟨_,h1,p,q,rfl,h2⟩)) (λ v w3 hv=>?_)));clear hK K;obtain ⟨p3,q3,rfl,bp3,bq3,he3,ho3,hs3⟩:=hv)|(refine ctA rfl rfl ?_)|(refine csA rfl rfl ?_)|refine yO ?_|(refine yC ?_ ?_<;>intro hc)|(refine yN hK ?_;clear hK K))|refine wG ?_|(refine yR ?_;intro K hK)|(refine oLX ?_;first|(refine aiA rfl ?_;intro K hK))|fail)
 exact c6A rfl (λ u w5 e5 hu=>by obtain rfl:u=_:=hu;exact ⟨q3,rfl,bq3,he3.trans e5,ho3.ext e5,hs3.ext e5⟩)
theorem kdA {w0 w:World} {b cap n sb:Nat} {D:Array Int} (he0:Ext w0 w) (ho0:d6A w0 w b cap n D) (hs0:Sw w0 w sb) (hn:n=D.size) (hb:D.size<4611686018427387904) (lo hi:Nat) (h2:hi≤D.size) (x:Nat) (hx:lo+1≤x∧x+1<hi) :
 Fc Tryz.prog 196 #[(.slice (some ⟨b,0,none⟩) n cap),.int .i64 x,(.pointer (some ⟨sb,0,none⟩))] w (λ e w'=>∃ p:Nat,e=.returned (.int .i64 p)∧(lo≤p∧p<hi)∧Ext w0 w'∧d6A w0 w' b cap n D∧Sw w0 w' sb):=by
 refine Fc.of (args:=[_,_,_]) Tryz.func196 rfl rfl Tryz.ntmps196 nZ ?_
 repeat' (first|(refine yL ?_;first|refine a0A rfl ?_|(refine oD 9 ?_;refine abA rfl rfl rfl fZ ?_;rw [show ((x:Int)-1)=((x-1:Nat):Int) by omega])|(refine oD 12 ?_;refine beA rfl rfl rfl fZ ?_;rw [show ((x:Int)+1)=((x+1:Nat):Int) by omega])|(refine oD 14 ?_;refine a4A (hK _ _ (hzA (f:=197) rfl dZ rfl rfl rfl rfl rfl rfl (λ v w'=>∃ p:Nat,v=.int .i64 p∧(lo≤p∧p<hi)∧Ext w0 w'∧d6A w0 w' b cap n D∧Sw w0 w' sb) (λ w' e=>(quA (he0.trans e) (ho0.ext e) (hs0.ext e) hn hb lo hi h2 (x-1) x (x+1) oZ oZ oZ).mono (by rintro e5 w5 ⟨p,h1,h2⟩;exact ⟨_,h1,p,rfl,h2⟩)) (λ v w1 hv=>?_)));clear hK K;obtain ⟨p,rfl,bp,he1,ho1,hs1⟩:=hv)|(refine ctA rfl rfl ?_)|(refine csA rfl rfl ?_)|refine yO ?_|(refine yC ?_ ?_<;>intro hc)|(refine yN hK ?_;clear hK K))|refine wG ?_|(refine yR ?_;intro K hK)|(refine oLX ?_;first|(refine aiA rfl ?_;intro K hK))|fail)
 exact c6A rfl (λ u w5 e5 hu=>by obtain rfl:u=_:=hu;exact ⟨p,rfl,bp,he1.trans e5,ho1.ext e5,hs1.ext e5⟩)
end Srt
end Go.Proofs.YtlnaebejmjmepaaGreatDoor
end
section
namespace Go.Proofs.YtlnaebejmjmepaaGreatDoor
namespace Srt
open Go.LA Go.ArrP Go.RowKit
theorem z9A {w0 w:World} {b cap n:Nat} {D:Array Int} (he0:Ext w0 w) (ho0:d6A w0 w b cap n D) (hn:n=D.size) (hb:D.size<4611686018427387904) (lo hi:Nat) (h1:lo<hi) (h2:hi≤D.size) :
 Fc Tryz.prog 178 #[(.slice (some ⟨b,0,none⟩) n cap),.int .i64 lo,.int .i64 hi] w (λ e w'=>∃ (p:Nat) (h:Int),e=.returned (.tuple #[.int .i64 p,.int .i64 h])∧(lo≤p∧p<hi)∧Ext w0 w'∧d6A w0 w' b cap n D):=by
 obtain ⟨L,hL⟩:∃ L,L=hi-lo:=⟨_,rfl⟩;refine Fc.of (args:=[_,_,_]) Tryz.func178 rfl rfl Tryz.ntmps178 nZ ?_
 repeat' (first|(refine yL ?_;first|refine a0A rfl ?_|(refine oD 15 ?_;refine abA rfl rfl rfl fZ ?_;rw [show ((hi:Int)-lo)=(L:Int) by omega])|(refine oD 9 ?_;refine a4A (hK _ _ (sbA rfl dZ (λ _=>rfl) (λ sb wx ex hbx hbc=>?_)));clear hK K;have heX:Ext w0 wx:=he0.trans ex;have hsX:Sw w0 wx sb:=⟨0,rfl,.inr ⟨sb,1,_,rfl,Nat.le_trans he0.size hbx,hbc,Nat.le_refl _,by decide,rfl,rfl⟩⟩;have hoX:d6A w0 wx b cap n D:=ho0.ext ex)|(refine oD 20 ?_;refine beA rfl rfl rfl fZ ?_;rw [show ((lo:Int)+(L:Int) / 4*1)=((lo+L / 4*1:Nat):Int) by omega])|(refine oD 25 ?_;refine beA rfl rfl rfl fZ ?_;rw [show ((lo:Int)+(L:Int) / 4*2)=((lo+L / 4*2:Nat):Int) by omega])|(refine oD 30 ?_;refine beA rfl rfl rfl fZ ?_;rw [show ((lo:Int)+(L:Int) / 4*3)=((lo+L / 4*3:Nat):Int) by omega])|(refine oD 37 ?_;refine a4A (hK _ _ (cbA (f:=196) rfl dZ rfl rfl rfl rfl (λ v w'=>∃ p:Nat,v=.int .i64 p∧(lo≤p∧p<hi)∧Ext w0 w'∧d6A w0 w' b cap n D∧Sw w0 w' sb) (λ w' e=>(kdA (heX.trans e) (hoX.ext e) (hsX.ext e) hn hb lo hi h2 (lo+L / 4*1) oZ).mono (by rintro e5 w5 ⟨p,h1,h2⟩;exact ⟨_,h1,p,rfl,h2⟩)) (λ v w1 hv=>?_)));clear hK K;obtain ⟨p1,rfl,bp1,he1,ho1,hs1⟩:=hv)|(refine oD 40 ?_;refine a4A (hK _ _ (cbA (f:=196) rfl dZ rfl rfl rfl rfl (λ v w'=>∃ p:Nat,v=.int .i64 p∧(lo≤p∧p<hi)∧Ext w0 w'∧d6A w0 w' b cap n D∧Sw w0 w' sb) (λ w' e=>(kdA (he1.trans e) (ho1.ext e) (hs1.ext e) hn hb lo hi h2 (lo+L / 4*2) oZ).mono (by rintro e5 w5 ⟨p,h1,h2⟩;exact ⟨_,h1,p,rfl,h2⟩)) (λ v w2 hv=>?_)));clear hK K;obtain ⟨p2,rfl,bp2,he2,ho2,hs2⟩:=hv)|(refine oD 43 ?_;refine a4A (hK _ _ (cbA (f:=196) rfl dZ rfl rfl rfl rfl (λ v w'=>∃ p:Nat,v=.int .i64 p∧(lo≤p∧p<hi)∧Ext w0 w'∧d6A w0 w' b cap n D∧Sw w0 w' sb) (λ w' e=>(kdA (he2.trans e) (ho2.ext e) (hs2.ext e) hn hb lo hi h2 (lo+L / 4*3) oZ).mono (by rintro e5 w5 ⟨p,h1,h2⟩;exact ⟨_,h1,p,rfl,h2⟩)) (λ v w3 hv=>?_)));clear hK K;obtain ⟨p3,rfl,bp3,he3,ho3,hs3⟩:=hv)|(refine ctA rfl rfl ?_)|(refine csA rfl rfl ?_)|refine yO ?_|(refine yC ?_ ?_<;>intro hc)|(refine yN hK ?_;clear hK K))|(refine oCX ?_;first|refine cmA (id:=6) (ι:=Nat) (λ j=>[(9,.val (.pointer (some ⟨sb,0,none⟩))),(11,.val (.int .i64 (j:Int)))]) (λ p w'=>(lo≤p∧p<hi)∧Ext w0 w'∧d6A w0 w' b cap n D∧Sw w0 w' sb) ?_ ?_|refine cmA (id:=7) (ι:=Nat × Nat × Nat) (λ i=>[(0,.val (.slice (some ⟨b,0,none⟩) n cap)),(1,.val (.int .i64 lo)),(9,.val (.pointer (some ⟨sb,0,none⟩))),(10,.val (.int .i64 ((i.1:Nat):Int))),(11,.val (.int .i64 ((i.2.1:Nat):Int))),(12,.val (.int .i64 ((i.2.2:Nat):Int)))]) (λ i w'=>(lo≤i.1∧i.1<hi)∧(lo≤i.2.1∧i.2.1<hi)∧(lo≤i.2.2∧i.2.2<hi)∧Ext w0 w'∧d6A w0 w' b cap n D∧Sw w0 w' sb) ?_ ?_)|refine wG ?_|(refine yR ?_;intro K hK)|(refine oLX ?_;first|(refine aiA rfl ?_;intro K hK))|fail)
 ·exact a6A (p1,p2,p3) (λ w6 e6=>⟨bp1,bp2,bp3,he3.trans e6,ho3.ext e6,hs3.ext e6⟩) oZ (by dsimp only;exact sZ)
 ·exact a6A (lo+L / 4*1,lo+L / 4*2,lo+L / 4*3) (λ w6 e6=>⟨by dsimp only;omega,by dsimp only;omega,by dsimp only;omega,heX.trans e6,hoX.ext e6,hsX.ext e6⟩) oZ (by dsimp only;exact sZ)
 ·rintro ⟨i,j,k⟩ w3 ⟨bi,bj,bk,he3,ho3,hs3⟩
  dsimp only at bi bj bk ⊢
  repeat' (first|(refine yL ?_;first|refine a0A rfl ?_|(refine oD 48 ?_;refine a4A (hK _ _ (hzA (f:=197) rfl dZ rfl rfl rfl rfl rfl rfl (λ v w'=>∃ p:Nat,v=.int .i64 p∧(lo≤p∧p<hi)∧Ext w0 w'∧d6A w0 w' b cap n D∧Sw w0 w' sb) (λ w' e=>(quA (he3.trans e) (ho3.ext e) (hs3.ext e) hn hb lo hi h2 i j k bi bj bk).mono (by rintro e5 w5 ⟨p,h1,h2⟩;exact ⟨_,h1,p,rfl,h2⟩)) (λ v w1 hv=>?_)));clear hK K;obtain ⟨p,rfl,bp,he1,ho1,hs1⟩:=hv)|(refine ctA rfl rfl ?_)|(refine csA rfl rfl ?_)|refine yO ?_|(refine yC ?_ ?_<;>intro hc)|(refine yN hK ?_;clear hK K))|refine wG ?_|(refine yR ?_;intro K hK)|(refine oLX ?_;first|(refine aiA rfl ?_;intro K hK))|fail)
  exact a6A p (λ w6 e6=>⟨bp,he1.trans e6,ho1.ext e6,hs1.ext e6⟩) oZ sZ
 ·exact a6A (lo+L / 4*2) (λ w6 e6=>⟨by omega,heX.trans e6,hoX.ext e6,hsX.ext e6⟩) oZ sZ
 ·rintro j w3 ⟨bj,he3,ho3,s,hs3⟩
  repeat' (first|(refine yL ?_;first|refine a0A rfl ?_|(refine oD 49 ?_;refine amA hs3 rfl (λ _=>rfl) rfl (by exact Nat.zero_lt_one) ?_;rw [show [s].getD 0 0=s from rfl])|refine yO ?_|(refine yC ?_ ?_<;>intro hc)|(refine yN hK ?_;clear hK K))|refine wG ?_|(refine yR ?_;intro K hK)|fail)
  all_goals exact e2A rfl (λ u v w5 e5 hu hv=>by obtain rfl:u=_:=hu;obtain rfl:v=_:=hv;exact ⟨j,_,rfl,bj,he3.trans e5,ho3.ext e5⟩)
end Srt
end Go.Proofs.YtlnaebejmjmepaaGreatDoor
end
section
namespace Go.Proofs.YtlnaebejmjmepaaGreatDoor
namespace Srt
open Go.LA Go.ArrP Go.RowKit
end Srt
end Go.Proofs.YtlnaebejmjmepaaGreatDoor
namespace Go.LA
structure CXh (P:Program) (N:Nn) (wb:World) (c:Code) (E:Env) (Q:Exit→Act→World→Prop):Prop where
 out:CX P N wb c E Q
theorem l4A {P:Program} {N:Nn} {wb:World} {E:Env} {Q:Exit→Act→World→Prop} {id:Nat} {l:Array Oper} {m:Bool} {c1 c':Code} (h:CXh P N wb (.seq (.seq (.region id l m) c1) c') E Q):CX P N wb (.seq (.seq (.region id l m) c1) c') E Q:=h.out
theorem srA {P:Program} {N:Nn} {wb:World} {E:Env} {Q:Exit→Act→World→Prop} {c:Code} (h:CX P N wb c E Q):CXh P N wb c E Q:=⟨h⟩
end Go.LA
namespace Go.Proofs.YtlnaebejmjmepaaGreatDoor
namespace Srt
open Go.LA Go.ArrP Go.RowKit
theorem y4A (m:Nat):∀ {w0 w:World} {b cap n:Nat} {D0:Array Int} (he0:Ext w0 w) (ho0:d6A w0 w b cap n D0) (hn:n=D0.size) (hb:D0.size<4611686018427387904) (lo hi lim:Nat) (hm:hi-lo≤m) (h1:lo≤hi) (h2:hi≤D0.size) (hB0:Go.Sort.Below Go.Sort.ltInt lo hi D0) (hl0:lim<4611686018427387904),
 Fc Tryz.prog 140 #[(.slice (some ⟨b,0,none⟩) n cap),.int .i64 lo,.int .i64 hi,.int .i64 lim] w (λ e w'=>e=.returned (.tuple #[])∧Ext w0 w'∧∃ D',Go.Sort.PermIn lo hi D0 D'∧Go.Sort.SortedIn Go.Sort.ltInt lo hi D'∧d6A w0 w' b cap n D'):=by
 induction m using Nat.strongRecOn with
 | ind m ih =>
 intro w0 w b cap n D0 he0 ho0 hn hb lo hi lim hm h1 h2 hB0 hl0;have swo:Go.Sort.SWO Go.Sort.ltInt:=Go.Sort.swo_ltInt;refine Fc.of (args:=[_,_,_,_]) Tryz.func140 rfl rfl Tryz.ntmps140 nZ ?_
 repeat' (first|(refine yL ?_;first|refine a0A rfl ?_|refine yO ?_|(refine yC ?_ ?_<;>intro hc)|(refine yN hK ?_;clear hK K))|refine wG ?_|(refine yR ?_;intro K hK)|fail)
 refine agA (ι:=Nat × Nat × Nat × Bool × Bool × Array Int) (λ i=>[(0,.val (.slice (some ⟨b,0,none⟩) n cap)),(1,.val (.int .i64 ((i.1:Nat):Int))),(2,.val (.int .i64 ((i.2.1:Nat):Int))),(3,.val (.int .i64 ((i.2.2.1:Nat):Int))),(8,.val (.bool i.2.2.2.1)),(9,.val (.bool i.2.2.2.2.1))])
  (λ i w'=>Ext w0 w'∧i.1≤i.2.1∧i.2.1≤D0.size∧i.2.2.2.2.2.size=D0.size∧i.2.1-i.1≤hi-lo∧i.2.2.1<4611686018427387904∧Go.Sort.Below Go.Sort.ltInt i.1 i.2.1 i.2.2.2.2.2∧(∀ R,Go.Sort.PermIn i.1 i.2.1 i.2.2.2.2.2 R→Go.Sort.SortedIn Go.Sort.ltInt i.1 i.2.1 R→Go.Sort.PermIn lo hi D0 R∧Go.Sort.SortedIn Go.Sort.ltInt lo hi R)∧d6A w0 w' b cap n i.2.2.2.2.2) (λ i=>i.2.1-i.1)
  (λ w2 e2=>⟨(lo,hi,lim,true,true,D0),⟨he0.trans e2,h1,h2,rfl,Nat.le_refl _,hl0,hB0,λ R p s=>⟨p,s⟩,ho0.ext e2⟩,by dsimp only;exact sZ⟩) ?_
 rintro ⟨a,z,l,wb,wp,D⟩ w1 ⟨he1,haz,hz,hs1,hza,hl1,hB1,hG1,ho1⟩;dsimp only at haz hz hs1 hza hl1 hB1 hG1 ho1 ⊢
 by_cases h12:z-a≤12
 ·have q0:True:=trivial
  repeat' (first|(refine yL ?_;first|refine a0A rfl ?_|(refine oD 21 ?_;refine abA rfl rfl rfl fZ ?_;rw [show ((z:Int)-a)=((z-a:Nat):Int) by omega])|(refine oD 27 ?_;refine a4A (hK _ _ (g9A (f:=175) (λ w'=>Ext w0 w'∧d6A w0 w' b cap n (Go.Sort.insertionSort Go.Sort.ltInt D a z)) (λ w' e=>yrA (he1.trans e) (ho1.ext e) (hn.trans hs1.symm) a z haz oZ oZ) rfl dZ rfl rfl rfl rfl (λ w2 hw2=>?_)));clear hK K;obtain ⟨he2,ho2⟩:=hw2)|refine yO ?_|(refine yC ?_ ?_<;>intro hc)|(refine yN hK ?_;clear hK K))|refine wG ?_|(refine yR ?_;intro K hK)|fail)
  have hh:=Go.Sort.insertionSort_holds (lt:=Go.Sort.ltInt) swo D a z haz oZ;have hg:=hG1 _ hh.1 hh.2;exact bdA rfl (λ w5 e5=>⟨rfl,he2.trans e5,_,hg.1,hg.2,ho2.ext e5⟩) (.inr rfl)
 by_cases hlz:l=0
 ·have q0:True:=trivial
  repeat' (first|(refine yL ?_;first|refine a0A rfl ?_|(refine oD 21 ?_;refine abA rfl rfl rfl fZ ?_;rw [show ((z:Int)-a)=((z-a:Nat):Int) by omega])|(refine oD 33 ?_;refine a4A (hK _ _ (g9A (f:=176) (λ w'=>Ext w0 w'∧d6A w0 w' b cap n (Go.Sort.heapSort Go.Sort.ltInt D a z)) (λ w' e=>umA (he1.trans e) (ho1.ext e) (hn.trans hs1.symm) a z haz oZ oZ) rfl dZ rfl rfl rfl rfl (λ w2 hw2=>?_)));clear hK K;obtain ⟨he2,ho2⟩:=hw2)|refine yO ?_|(refine yC ?_ ?_<;>intro hc)|(refine yN hK ?_;clear hK K))|refine wG ?_|(refine yR ?_;intro K hK)|fail)
  have hh:=Go.Sort.heapSort_holds (lt:=Go.Sort.ltInt) swo D a z haz oZ;have hg:=hG1 _ hh.1 hh.2;exact bdA rfl (λ w5 e5=>⟨rfl,he2.trans e5,_,hg.1,hg.2,ho2.ext e5⟩) (.inr rfl)
 repeat' (first|(refine yL ?_;first|refine a0A rfl ?_|(refine oD 21 ?_;refine abA rfl rfl rfl fZ ?_;rw [show ((z:Int)-a)=((z-a:Nat):Int) by omega])|refine yO ?_|(refine yC ?_ ?_<;>intro hc)|(refine yN hK ?_;clear hK K))|(refine oCX ?_;first|refine l4A (id:=7) ?_)|refine wG ?_|(refine yR ?_;intro K hK)|fail)
 refine srA (cmA (id:=7) (ι:=Nat × Array Int) (λ i=>[(0,.val (.slice (some ⟨b,0,none⟩) n cap)),(1,.val (.int .i64 ((a:Nat):Int))),(2,.val (.int .i64 ((z:Nat):Int))),(3,.val (.int .i64 ((i.1:Nat):Int))),(8,.val (.bool wb)),(9,.val (.bool wp)),(10,.val (.int .i64 ((z-a:Nat):Int)))]) (λ i w'=>i.1<4611686018427387904∧Go.Sort.PermIn a z D i.2∧Ext w0 w'∧d6A w0 w' b cap n i.2) ?_ ?_)
 ·cases wb
  ·have q0:True:=trivial
   repeat' (first|(refine yL ?_;first|refine a0A rfl ?_|(refine oD 39 ?_;refine a4A (hK _ _ (g9A (f:=177) (λ w'=>Ext w0 w'∧∃ D',Go.Sort.PermIn a z D D'∧d6A w0 w' b cap n D') (λ w' e=>zeA (he1.trans e) (ho1.ext e) (hn.trans hs1.symm) a z haz oZ oZ) rfl dZ rfl rfl rfl rfl (λ w2 hw2=>?_)));clear hK K;obtain ⟨he2,D2,hp2,ho2⟩:=hw2)|(refine oD 41 ?_;refine abA rfl rfl rfl fZ ?_;rw [show ((l:Int)-1)=((l-1:Nat):Int) by omega])|refine yO ?_|(refine yC ?_ ?_<;>intro hc)|(refine yN hK ?_;clear hK K))|refine wG ?_|(refine yR ?_;intro K hK)|fail)
   exact a6A (l-1,D2) (λ w6 e6=>⟨by dsimp only;omega,hp2,he2.trans e6,ho2.ext e6⟩) oZ (by dsimp only;exact sZ)
  ·have q0:True:=trivial
   repeat' (first|(refine yL ?_;first|refine a0A rfl ?_|refine yO ?_|(refine yC ?_ ?_<;>intro hc)|(refine yN hK ?_;clear hK K))|refine wG ?_|(refine yR ?_;intro K hK)|fail)
   exact a6A (l,D) (λ w6 e6=>⟨hl1,Go.Sort.permIn_refl _ _ _,he1.trans e6,ho1.ext e6⟩) oZ (by dsimp only;exact sZ)
 rintro ⟨l2,D2⟩ w2 ⟨hl2,hp2,he2,ho2⟩;dsimp only at hl2 hp2 ho2 ⊢;have hs2:D2.size=D0.size:=hp2.1.trans hs1
 repeat' (first|(refine yL ?_;first|refine a0A rfl ?_|(refine oD 46 ?_;refine a4A (hK _ _ (cbA (f:=178) rfl dZ rfl rfl rfl rfl (λ v w'=>∃ (p:Nat) (h:Int),v=.tuple #[.int .i64 p,.int .i64 h]∧(a≤p∧p<z)∧Ext w0 w'∧d6A w0 w' b cap n D2) (λ w' e=>(z9A (he2.trans e) (ho2.ext e) (hn.trans hs2.symm) oZ a z oZ oZ).mono (by rintro e5 w5 ⟨p,h,h1,h2⟩;exact ⟨_,h1,p,h,rfl,h2⟩)) (λ v w3 hv=>?_)));clear hK K;obtain ⟨pv,hint,rfl,bpv,he3,ho3⟩:=hv)|(refine oD 54 ?_;refine a4A (hK _ _ (g9A (f:=179) (λ w'=>Ext w0 w'∧d6A w0 w' b cap n (Go.Sort.reverseRange D2 a z)) (λ w' e=>xvA (he3.trans e) (ho3.ext e) (hn.trans hs2.symm) a z oZ oZ oZ) rfl dZ rfl rfl rfl rfl (λ w4 hw4=>?_)));clear hK K;obtain ⟨he4,ho4⟩:=hw4)|(refine oD 60 ?_;refine abA rfl rfl rfl fZ ?_;rw [show ((z:Int)-1-((pv:Int)-a))=((z-1-(pv-a):Nat):Int) by omega])|(refine ctA rfl rfl ?_)|(refine csA rfl rfl ?_)|refine yO ?_|(refine yC ?_ ?_<;>intro hc)|(refine yN hK ?_;clear hK K))|(refine oCX ?_;first|refine l4A (id:=15) ?_|refine cmA (id:=11) (ι:=Nat × Int × Array Int) (λ i=>[(0,.val (.slice (some ⟨b,0,none⟩) n cap)),(1,.val (.int .i64 ((a:Nat):Int))),(2,.val (.int .i64 ((z:Nat):Int))),(3,.val (.int .i64 ((l2:Nat):Int))),(8,.val (.bool wb)),(9,.val (.bool wp)),(10,.val (.int .i64 ((z-a:Nat):Int))),(11,.val (.int .i64 ((i.1:Nat):Int))),(12,.val (.int .i64 i.2.1))]) (λ i w'=>(a≤i.1∧i.1<z)∧Go.Sort.PermIn a z D i.2.2∧Ext w0 w'∧d6A w0 w' b cap n i.2.2) ?_ ?_)|refine wG ?_|(refine yR ?_;intro K hK)|(refine oLX ?_;first|(refine aiA rfl ?_;intro K hK))|fail)
 ·exact a6A (z-1-(pv-a),1,Go.Sort.reverseRange D2 a z) (λ w6 e6=>⟨by dsimp only;omega,Go.Sort.permIn_trans _ _ _ _ _ hp2 (Go.Sort.reverseRange_holds D2 a z haz oZ),he4.trans e6,ho4.ext e6⟩) oZ (by dsimp only;exact sZ)
 ·exact a6A (pv,hint,D2) (λ w6 e6=>⟨bpv,hp2,he3.trans e6,ho3.ext e6⟩) oZ (by dsimp only;exact sZ)
 rintro ⟨p3,hint3,D3⟩ w3 ⟨bp3,hp3,he3,ho3⟩;dsimp only at bp3 hp3 ho3 ⊢;clear ho2 he2 hp2 hs2;have hs3:D3.size=D0.size:=hp3.1.trans hs1;have hB3:Go.Sort.Below Go.Sort.ltInt a z D3:=hB1.perm oZ hp3;have hpi:=Go.Sort.partialInsertionSort_holds (lt:=Go.Sort.ltInt) swo D3 a z oZ oZ hB3;refine cmA (id:=15) (ι:=Array Int) (λ i=>[(0,.val (.slice (some ⟨b,0,none⟩) n cap)),(1,.val (.int .i64 ((a:Nat):Int))),(2,.val (.int .i64 ((z:Nat):Int))),(3,.val (.int .i64 ((l2:Nat):Int))),(8,.val (.bool wb)),(9,.val (.bool wp)),(10,.val (.int .i64 ((z-a:Nat):Int))),(11,.val (.int .i64 ((p3:Nat):Int)))]) (λ i w'=>Go.Sort.PermIn a z D i∧Ext w0 w'∧d6A w0 w' b cap n i) ?_ ?_
 ·by_cases hh1:hint3=1
  ·cases hpb:(Go.Sort.partialInsertionSort Go.Sort.ltInt D3 a z).2 <;> cases wb <;> cases wp
   all_goals
    repeat' (first|(refine yL ?_;first|refine a0A rfl ?_|(refine oD 72 ?_;refine a4A (hK _ _ (cbA (f:=180) rfl dZ rfl rfl rfl rfl (λ v w'=>v=.bool (Go.Sort.partialInsertionSort Go.Sort.ltInt D3 a z).2∧Ext w0 w'∧d6A w0 w' b cap n (Go.Sort.partialInsertionSort Go.Sort.ltInt D3 a z).1) (λ w' e=>(ttA (he3.trans e) (ho3.ext e) (hn.trans hs3.symm) a z oZ oZ oZ).mono (by rintro e5 w5 ⟨h1,h2⟩;exact ⟨_,h1,rfl,h2⟩)) (λ v w5 hv=>?_)));clear hK K;obtain ⟨rfl,he5,ho5⟩:=hv;rw [hpb])|(refine ctA rfl rfl ?_)|(refine csA rfl rfl ?_)|refine yO ?_|(refine yC ?_ ?_<;>intro hc)|(refine yN hK ?_;clear hK K))|refine wG ?_|(refine yR ?_;intro K hK)|(refine oLX ?_;first|(refine aiA rfl ?_;intro K hK))|fail)
   all_goals first
    | (have hg:=hG1 _ (Go.Sort.permIn_trans _ _ _ _ _ hp3 hpi.1) (hpi.2 hpb);exact bdA rfl (λ w6 e6=>⟨rfl,he5.trans e6,_,hg.1,hg.2,ho5.ext e6⟩) (.inr rfl))
    | exact a6A (Go.Sort.partialInsertionSort Go.Sort.ltInt D3 a z).1 (λ w6 e6=>⟨Go.Sort.permIn_trans _ _ _ _ _ hp3 hpi.1,he5.trans e6,ho5.ext e6⟩) oZ sZ
    | exact a6A D3 (λ w6 e6=>⟨hp3,he3.trans e6,ho3.ext e6⟩) oZ sZ
  ·cases wb <;> cases wp
   all_goals
    repeat' (first|(refine yL ?_;first|refine a0A rfl ?_|refine yO ?_|(refine yC ?_ ?_<;>intro hc)|(refine yN hK ?_;clear hK K))|refine wG ?_|(refine yR ?_;intro K hK)|fail)
   all_goals exact a6A D3 (λ w6 e6=>⟨hp3,he3.trans e6,ho3.ext e6⟩) oZ sZ
 intro D4 w4 ⟨hp4,he4,ho4⟩;clear hpi hB3 hs3 hp3 ho3 he3;have hs4:D4.size=D0.size:=hp4.1.trans hs1;have hl4:=b0A D4;have hB4:Go.Sort.Below Go.Sort.ltInt a z D4:=hB1.perm oZ hp4
 by_cases hc:0<a∧Go.Sort.ltInt D4[a-1]! D4[p3]! = false
 ·obtain ⟨mid,D5,hx⟩:∃ mid D5,Go.Sort.partitionEqual Go.Sort.ltInt D4 a z p3=(mid,D5):=⟨_,_,rfl⟩
  obtain ⟨r1,r2,r3,r4,r5⟩:=Go.Sort.round_eq swo (Go.Sort.partitionEqual_holds Go.Sort.ltInt) hc.1 bp3.1 bp3.2 oZ hB4 hc.2 hx
  repeat' (first|(refine yL ?_;first|refine a0A rfl ?_|(refine oD 79 ?_;refine a8A rfl rfl (λ _=>rfl) rfl rfl (a-1) oZ oZ ?_)|(refine oI ?_;refine a8A rfl rfl (λ _=>rfl) rfl rfl _ rfl oZ ?_)|(refine oL ?_;refine amA ho4 rfl (λ _=>rfl) rfl oZ ?_;rw [czA])|(refine oD 92 ?_;refine a4A (hK _ _ (doA (f:=181) rfl dZ rfl rfl rfl rfl rfl (λ v w'=>v=.int .i64 (mid:Int)∧Ext w0 w'∧d6A w0 w' b cap n D5) (λ w' e=>(qbA (he4.trans e) (ho4.ext e) (hn.trans hs4.symm) a z p3 oZ oZ oZ oZ).mono (by rw [hx];rintro e5 w5 ⟨h1,h2⟩;exact ⟨_,h1,rfl,h2⟩)) (λ v w6 hv=>?_)));clear hK K;obtain ⟨rfl,he6,ho6⟩:=hv)|(refine ctA rfl rfl ?_)|(refine csA rfl rfl ?_)|refine yO ?_|(refine yC ?_ ?_<;>intro hc)|(refine yV ?_;first|(refine oC 171 ?_;refine a3A (f:=171) rfl rfl rfl rfl  (.val (.bool false)) (by intro u1 u2 w e hu1 hu2;(try obtain rfl:u1=_:=hu1);(try obtain rfl:u2=_:=hu2);exact arA (by rw [hc.2]) (b8A _ _ _)) ?_))|(refine yN hK ?_;clear hK K))|refine wG ?_|(refine yR ?_;intro K hK)|(refine oLX ?_;first|(refine aiA rfl ?_;intro K hK))|fail)
  exact a6A (mid,z,l2,wb,wp,D5) (λ w7 e7=>⟨he6.trans e7,by dsimp only;omega,by dsimp only;omega,by dsimp only;exact r3.trans hs4,by dsimp only;omega,hl2,r4,λ R p s=>hG1 R (Go.Sort.permIn_trans _ _ _ _ _ hp4 (r5 R p s).1) (r5 R p s).2,ho6.ext e7⟩) eZ (by dsimp only;exact sZ)
 refine cmA (id:=17) (ι:=Unit) (λ _=>[(0,.val (.slice (some ⟨b,0,none⟩) n cap)),(1,.val (.int .i64 ((a:Nat):Int))),(2,.val (.int .i64 ((z:Nat):Int))),(3,.val (.int .i64 ((l2:Nat):Int))),(8,.val (.bool wb)),(9,.val (.bool wp)),(10,.val (.int .i64 ((z-a:Nat):Int))),(11,.val (.int .i64 ((p3:Nat):Int)))]) (λ _ w'=>Ext w0 w'∧d6A w0 w' b cap n D4) ?_ ?_
 ·by_cases ha0:0<a
  ·cases hp:Go.Sort.ltInt D4[a-1]! D4[p3]!
   ·exact absurd ⟨ha0,hp⟩ hc
   ·have q0:True:=trivial
    repeat' (first|(refine yL ?_;first|refine a0A rfl ?_|(refine oD 79 ?_;refine a8A rfl rfl (λ _=>rfl) rfl rfl (a-1) oZ oZ ?_)|(refine oI ?_;refine a8A rfl rfl (λ _=>rfl) rfl rfl _ rfl oZ ?_)|(refine oL ?_;refine amA ho4 rfl (λ _=>rfl) rfl oZ ?_;rw [czA])|refine yO ?_|(refine yC ?_ ?_<;>intro hc)|(refine yV ?_;first|(refine oC 171 ?_;refine a3A (f:=171) rfl rfl rfl rfl  (.val (.bool true)) (by intro u1 u2 w e hu1 hu2;(try obtain rfl:u1=_:=hu1);(try obtain rfl:u2=_:=hu2);exact arA (by rw [hp]) (b8A _ _ _)) ?_))|(refine yN hK ?_;clear hK K))|refine wG ?_|(refine yR ?_;intro K hK)|fail)
    exact a6A () (λ w7 e7=>⟨he4.trans e7,ho4.ext e7⟩) oZ sZ
  ·have q0:True:=trivial
   repeat' (first|(refine yL ?_;first|refine a0A rfl ?_|refine yO ?_|(refine yC ?_ ?_<;>intro hc)|(refine yN hK ?_;clear hK K))|refine wG ?_|(refine yR ?_;intro K hK)|fail)
   exact a6A () (λ w7 e7=>⟨he4.trans e7,ho4.ext e7⟩) oZ sZ
 ·intro _ w5 ⟨he5,ho5⟩
  obtain ⟨mid,ap,D5,hx⟩:∃ mid ap D5,Go.Sort.partition Go.Sort.ltInt D4 a z p3=(mid,ap,D5):=⟨_,_,_,rfl⟩;obtain ⟨r1,r2,r3,hBa,hBr,hleft,hright⟩:=Go.Sort.round_part swo (Go.Sort.partition_holds Go.Sort.ltInt) bp3.1 bp3.2 oZ hB4 hx
  repeat' (first|(refine yL ?_;first|refine a0A rfl ?_|(refine oD 99 ?_;refine a4A (hK _ _ (doA (f:=182) rfl dZ rfl rfl rfl rfl rfl (λ v w'=>v=.tuple #[.int .i64 (mid:Int),.bool ap]∧Ext w0 w'∧d6A w0 w' b cap n D5) (λ w' e=>(txA (he5.trans e) (ho5.ext e) (hn.trans hs4.symm) a z p3 oZ oZ oZ oZ).mono (by rw [hx];rintro e5 w5 ⟨h1,h2⟩;exact ⟨_,h1,rfl,h2⟩)) (λ v wA hv=>?_)));clear hK K;obtain ⟨rfl,heA,hoA⟩:=hv)|(refine oD 105 ?_;refine abA rfl rfl rfl fZ ?_;rw [show ((mid:Int)-a)=((mid-a:Nat):Int) by omega])|(refine oD 108 ?_;refine abA rfl rfl rfl fZ ?_;rw [show ((z:Int)-mid)=((z-mid:Nat):Int) by omega])|(refine oD 123 ?_;refine beA rfl rfl rfl fZ ?_;rw [show ((mid:Int)+1)=((mid+1:Nat):Int) by omega])|(refine oD 129 ?_;refine beA rfl rfl rfl fZ ?_;rw [show ((mid:Int)+1)=((mid+1:Nat):Int) by omega])|(refine oD 121 ?_;refine a4A (hK _ _ (faA (f:=140) (λ w'=>Ext w0 w'∧∃ D',Go.Sort.PermIn a mid D5 D'∧Go.Sort.SortedIn Go.Sort.ltInt a mid D'∧d6A w0 w' b cap n D') (λ w' e=>ih (m-1) oZ (heA.trans e) (hoA.ext e) (hn.trans (r3.trans hs4).symm) oZ a mid l2 oZ oZ oZ hBa hl2) rfl dZ rfl rfl rfl rfl rfl (λ w6 hw6=>?_)));clear hK K;obtain ⟨he6,D6,hp6,hs6,ho6⟩:=hw6)|(refine oD 132 ?_;refine a4A (hK _ _ (faA (f:=140) (λ w'=>Ext w0 w'∧∃ D',Go.Sort.PermIn (mid+1) z D5 D'∧Go.Sort.SortedIn Go.Sort.ltInt (mid+1) z D'∧d6A w0 w' b cap n D') (λ w' e=>ih (m-1) oZ (heA.trans e) (hoA.ext e) (hn.trans (r3.trans hs4).symm) oZ (mid+1) z l2 oZ oZ oZ hBr hl2) rfl dZ rfl rfl rfl rfl rfl (λ w6 hw6=>?_)));clear hK K;obtain ⟨he6,D6,hp6,hs6,ho6⟩:=hw6)|(refine ctA rfl rfl ?_)|(refine csA rfl rfl ?_)|refine yO ?_|(refine yC ?_ ?_<;>intro hc)|(refine yN hK ?_;clear hK K))|refine wG ?_|(refine yR ?_;intro K hK)|(refine oLX ?_;first|(refine aiA rfl ?_;intro K hK))|fail)
  ·exact a6A (mid+1,z,l2,true,ap,D6) (λ w7 e7=>⟨he6.trans e7,by dsimp only;omega,by dsimp only;omega,by dsimp only;exact hp6.1.trans (r3.trans hs4),by dsimp only;omega,hl2,(hleft D6 hp6 hs6).1,λ R p s=>hG1 R (Go.Sort.permIn_trans _ _ _ _ _ hp4 ((hleft D6 hp6 hs6).2 R p s).1) ((hleft D6 hp6 hs6).2 R p s).2,ho6.ext e7⟩) eZ (by dsimp only;exact sZ)
  ·exact a6A (mid+1,z,l2,false,ap,D6) (λ w7 e7=>⟨he6.trans e7,by dsimp only;omega,by dsimp only;omega,by dsimp only;exact hp6.1.trans (r3.trans hs4),by dsimp only;omega,hl2,(hleft D6 hp6 hs6).1,λ R p s=>hG1 R (Go.Sort.permIn_trans _ _ _ _ _ hp4 ((hleft D6 hp6 hs6).2 R p s).1) ((hleft D6 hp6 hs6).2 R p s).2,ho6.ext e7⟩) eZ (by dsimp only;exact sZ)
  ·exact a6A (a,mid,l2,true,ap,D6) (λ w7 e7=>⟨he6.trans e7,by dsimp only;omega,by dsimp only;omega,by dsimp only;exact hp6.1.trans (r3.trans hs4),by dsimp only;omega,hl2,(hright D6 hp6 hs6).1,λ R p s=>hG1 R (Go.Sort.permIn_trans _ _ _ _ _ hp4 ((hright D6 hp6 hs6).2 R p s).1) ((hright D6 hp6 hs6).2 R p s).2,ho6.ext e7⟩) eZ (by dsimp only;exact sZ)
  ·exact a6A (a,mid,l2,false,ap,D6) (λ w7 e7=>⟨he6.trans e7,by dsimp only;omega,by dsimp only;omega,by dsimp only;exact hp6.1.trans (r3.trans hs4),by dsimp only;omega,hl2,(hright D6 hp6 hs6).1,λ R p s=>hG1 R (Go.Sort.permIn_trans _ _ _ _ _ hp4 ((hright D6 hp6 hs6).2 R p s).1) ((hright D6 hp6 hs6).2 R p s).2,ho6.ext e7⟩) eZ (by dsimp only;exact sZ)
end Srt
end Go.Proofs.YtlnaebejmjmepaaGreatDoor
end
section
namespace Go.Proofs.YtlnaebejmjmepaaGreatDoor
namespace Srt
open Go.LA Go.ArrP Go.RowKit
theorem insN16_c {w:World}:Fc Tryz.prog 175 #[.slice none 0 0,.int .i64 0,.int .i64 0] w (λ e w'=>e=.returned (.tuple #[])∧Ext w w'):=by
 refine Fc.of (args:=[_,_,_]) Tryz.func175 rfl rfl Tryz.ntmps175 nZ ?_
 repeat' (first|(refine yL ?_;first|refine a0A rfl ?_|refine yO ?_|(refine yC ?_ ?_<;>intro hc)|(refine yN hK ?_;clear hK K))|refine wG ?_|(refine yR ?_;intro K hK)|fail)
 refine b5A (ι:=Unit) (λ i=>[(0,.val (.slice none 0 0)),(2,.val (.int .i64 0)),(6,.val (.int .i64 1))]) (λ _=>True) (λ _=>0) () trivial sZ ?_
 rintro _ -
 repeat' (first|(refine yL ?_;first|refine a0A rfl ?_|refine yO ?_|(refine yC ?_ ?_<;>intro hc)|(refine yN hK ?_;clear hK K))|refine wG ?_|(refine yR ?_;intro K hK)|fail)
 exact bdA rfl (λ w5 e5=>⟨rfl,e5⟩) (.inl rfl)
theorem tvA {w:World} (lim:Nat) (hl:lim<4611686018427387904):Fc Tryz.prog 140 #[.slice none 0 0,.int .i64 0,.int .i64 0,.int .i64 lim] w (λ e w'=>e=.returned (.tuple #[])∧Ext w w'):=by
 refine Fc.of (args:=[_,_,_,_]) Tryz.func140 rfl rfl Tryz.ntmps140 nZ ?_
 repeat' (first|(refine yL ?_;first|refine a0A rfl ?_|refine yO ?_|(refine yC ?_ ?_<;>intro hc)|(refine yN hK ?_;clear hK K))|refine wG ?_|(refine yR ?_;intro K hK)|fail)
 refine b5A (ι:=Unit) (λ i=>[(0,.val (.slice none 0 0)),(1,.val (.int .i64 0)),(2,.val (.int .i64 0)),(3,.val (.int .i64 lim))]) (λ _=>True) (λ _=>0) () trivial sZ ?_
 rintro _ -
 repeat' (first|(refine yL ?_;first|refine a0A rfl ?_|(refine oD 27 ?_;refine a4A (hK _ _ (g9A (f:=175) (λ w'=>Ext w w') (λ w' e=>insN16_c.mono (by rintro e5 w5 ⟨h1,h2⟩;exact ⟨h1,e.trans h2⟩)) rfl dZ rfl rfl rfl rfl (λ w2 hw2=>?_)));clear hK K)|refine yO ?_|(refine yC ?_ ?_<;>intro hc)|(refine yN hK ?_;clear hK K))|refine wG ?_|(refine yR ?_;intro K hK)|fail)
 exact bdA rfl (λ w5 e5=>⟨rfl,hw2.trans e5⟩) (.inr rfl)
theorem sort16_c {w0 w:World} {v:Value} {xs:List Int} (he0:Ext w0 w) (ho:OwnI w0.heap.size 40 .u16 w v xs) (hb:xs.length<4611686018427387904) :
 Fc Tryz.prog 97 #[v] w (λ e w'=>e=.returned (.tuple #[])∧Ext w0 w'∧OwnI w0.heap.size 40 .u16 w' v (xs.mergeSort (λ x y=>decide (x≤y)))):=by
 rcases ho.2 with ⟨rfl,h0⟩|⟨b,cap,cur,rfl,hx⟩
 ·have hx0:xs=[]:=List.eq_nil_of_length_eq_zero h0
  subst hx0;refine Fc.of (args:=[_]) Tryz.func97 rfl rfl Tryz.ntmps97 nZ ?_
  repeat' (first|(refine yL ?_;first|refine a0A rfl ?_|(refine c7A ?_;refine asA rfl _ rfl rfl (by exact (HasI.val (OwnI.slI ho)).c) ?_)|(refine oD 10 ?_;refine a4A (hK _ _ (faA (f:=140) (λ w'=>Ext w0 w') (λ w' e=>(tvA (Go.Sort.bitsLen 0) dZ).mono (by rintro e5 w5 ⟨h1,h2⟩;exact ⟨h1,(he0.trans e).trans h2⟩)) rfl dZ rfl rfl rfl rfl rfl (λ w2 hw2=>?_)));clear hK K)|refine yO ?_|(refine yC ?_ ?_<;>intro hc)|(refine yV ?_;first|(refine oC 111 ?_;refine a2A (f:=111) rfl rfl rfl  (.val (.int .i64 (Go.Sort.bitsLen 0:Nat))) (by intro u1 w e hu1;(try obtain rfl:u1=_:=hu1);exact hkA 0 oZ) ?_))|(refine yN hK ?_;clear hK K))|refine wG ?_|(refine yR ?_;intro K hK)|fail)
  exact bdA rfl (λ w5 e5=>⟨rfl,hw2.trans e5,by rw [List.mergeSort_nil];exact OwnI.nil⟩) (.inl rfl)
 ·have hk:Go.Sort.bitsLen xs.length≤62:=(Go.Sort.bitsLen_le_iff _ 62).2 oZ
  have ho1:d6A w0 w b cap xs.length xs.toArray:=ho;refine Fc.of (args:=[_]) Tryz.func97 rfl rfl Tryz.ntmps97 nZ ?_
  repeat' (first|(refine yL ?_;first|refine a0A rfl ?_|(refine c7A ?_;refine asA rfl _ rfl rfl (by exact (HasI.val (OwnI.slI ho)).c) ?_)|(refine oD 10 ?_;refine a4A (hK _ _ (faA (f:=140) (λ w'=>Ext w0 w'∧∃ D',Go.Sort.PermIn 0 xs.length xs.toArray D'∧Go.Sort.SortedIn Go.Sort.ltInt 0 xs.length D'∧d6A w0 w' b cap xs.length D') (λ w' e=>y4A xs.length (he0.trans e) (ho1.ext e) (by simp) (by simpa using hb) 0 xs.length (Go.Sort.bitsLen xs.length) oZ oZ (by simp) (.inl rfl) oZ) rfl dZ rfl rfl rfl rfl rfl (λ w2 hw2=>?_)));clear hK K;obtain ⟨he2,D',hp,hs,ho2⟩:=hw2)|refine yO ?_|(refine yC ?_ ?_<;>intro hc)|(refine yV ?_;first|(refine oC 111 ?_;refine a2A (f:=111) rfl rfl rfl  (.val (.int .i64 (Go.Sort.bitsLen xs.length:Nat))) (by intro u1 w e hu1;(try obtain rfl:u1=_:=hu1);exact hkA xs.length oZ) ?_))|(refine yN hK ?_;clear hK K))|refine wG ?_|(refine yR ?_;intro K hK)|fail)
  have hu:=Go.Sort.sorted_unique_holds (lt:=Go.Sort.ltInt) Go.Sort.swo_ltInt (by intro x y h1 h2;simp [Go.Sort.ltInt] at h1 h2;omega) xs.toArray D' (by simpa using hp) (by simpa using hs);have hle:(λ x y:Int=>!Go.Sort.ltInt y x)=(λ x y=>decide (x≤y)):=by
   funext x y;unfold Go.Sort.ltInt;by_cases h:x≤y <;> simp [h] <;> omega
  rw [hle] at hu;exact bdA rfl (λ w5 e5=>⟨rfl,he2.trans e5,by have h3:=OwnI.ext ho2 e5;rw [hu] at h3;exact h3⟩) (.inl rfl)
end Srt
end Go.Proofs.YtlnaebejmjmepaaGreatDoor
end
