import Derived.Test.YtlnaebejmjmepaaGreatDoorM8
import Derived.Test.YtlnaebejmjmepaaGreatDoorM13
set_option linter.unusedSimpArgs false
set_option linter.unusedVariables false
set_option maxRecDepth 3000
set_option maxHeartbeats 16000000
section
namespace Go.Proofs.YtlnaebejmjmepaaGreatDoor
namespace Srt
open Go.LA Go.ArrP Go.RowKit
theorem ybA (w:World) (a:Int):Fc Tryz.prog 192 #[.int .u16 a] w (Ret w (.val (.bool false))):=by
 refine Fc.of (args:=[_]) Tryz.func192 rfl rfl Tryz.ntmps192 nZ ?_
 repeat' (first|(refine yL ?_;first|refine a0A rfl ?_|refine yO ?_|(refine yC ?_ ?_<;>intro hc)|(refine yN hK ?_;clear hK K))|refine wG ?_|(refine yR ?_;intro K hK)|fail)
 exact a9A rfl rfl (Ext.refl _) rfl
theorem b8A (w:World) (a b:Int):Fc Tryz.prog 171 #[.int .u16 a,.int .u16 b] w (Ret w (.val (.bool (Go.Sort.ltInt a b)))):=by
 refine Fc.of (args:=[_,_]) Tryz.func171 rfl rfl Tryz.ntmps171 nZ ?_
 repeat' (first|(refine yL ?_;first|refine a0A rfl ?_|refine yO ?_|(refine yC ?_ ?_<;>intro hc)|(refine yV ?_;first|(refine oC 192 ?_;refine a2A (f:=192) rfl rfl rfl  (.val (.bool false)) (by intro u1 w e hu1;(try obtain rfl:u1=_:=hu1);exact ybA _ _) ?_))|(refine yN hK ?_;clear hK K))|refine wG ?_|(refine yR ?_;intro K hK)|fail)
 all_goals (refine a9A rfl rfl (Ext.refl _) ?_;unfold Go.Sort.ltInt;simp [hc])
abbrev d6A (w0 w:World) (b cap n:Nat) (D:Array Int):Prop:=OwnI w0.heap.size 40 .u16 w (.slice (some ⟨b,0,none⟩) n cap) D.toList
def vjA (w0:World) (b cap n:Nat) (D:Array Int):Ending→World→Prop:=λ e w'=>e=.returned (.tuple #[])∧Ext w0 w'∧d6A w0 w' b cap n D
theorem yrA {w0 w:World} {b cap n:Nat} {D:Array Int} (he0:Ext w0 w) (ho0:d6A w0 w b cap n D) (hn:n=D.size) (lo hi:Nat) (h1:lo≤hi) (h2:hi≤D.size) (hb:D.size<4611686018427387904) :
 Fc Tryz.prog 175 #[.slice (some ⟨b,0,none⟩) n cap,.int .i64 lo,.int .i64 hi] w (vjA w0 b cap n (Go.Sort.insertionSort Go.Sort.ltInt D lo hi)):=by
 refine Fc.of (args:=[_,_,_]) Tryz.func175 rfl rfl Tryz.ntmps175 nZ ?_
 repeat' (first|(refine yL ?_;first|refine a0A rfl ?_|refine yO ?_|(refine yC ?_ ?_<;>intro hc)|(refine yN hK ?_;clear hK K))|refine wG ?_|(refine yR ?_;intro K hK)|fail)
 refine agA (ι:=Nat × Array Int) (λ i=>[(0,.val (.slice (some ⟨b,0,none⟩) n cap)),(1,.val (.int .i64 lo)),(2,.val (.int .i64 hi)),(6,.val (.int .i64 (i.1:Int)))])
  (λ i w'=>Ext w0 w'∧lo+1≤i.1∧i.1≤hi+1∧i.2.size=D.size∧d6A w0 w' b cap n i.2∧Go.Sort.insOuter Go.Sort.ltInt lo hi i.1 i.2=Go.Sort.insertionSort Go.Sort.ltInt D lo hi) (λ i=>hi+1-i.1)
  (λ w2 e2=>⟨(lo+1,D),⟨he0.trans e2,Nat.le_refl _,by dsimp only;omega,rfl,ho0.ext e2,rfl⟩,sZ⟩) ?_
 rintro ⟨i,D1⟩ w1 ⟨he1,hi1,hi2,hs1,ho1,hr1⟩;dsimp only at hi1 hi2 hs1 ho1 hr1 ⊢
 by_cases hlt:i<hi
 ·rw [Go.Sort.insOuter,if_pos hlt] at hr1
  repeat' (first|(refine yL ?_;first|refine a0A rfl ?_|refine yO ?_|(refine yC ?_ ?_<;>intro hc)|(refine yN hK ?_;clear hK K))|refine wG ?_|(refine yR ?_;intro K hK)|fail)
  refine agA (ι:=Nat × Array Int) (λ j=>[(0,.val (.slice (some ⟨b,0,none⟩) n cap)),(1,.val (.int .i64 lo)),(2,.val (.int .i64 hi)),(6,.val (.int .i64 (i:Int))),(7,.val (.int .i64 (j.1:Int)))])
   (λ j w'=>Ext w0 w'∧j.1≤i∧j.2.size=D.size∧d6A w0 w' b cap n j.2∧Go.Sort.insOuter Go.Sort.ltInt lo hi (i+1) (Go.Sort.insInner Go.Sort.ltInt lo j.1 j.2)=Go.Sort.insertionSort Go.Sort.ltInt D lo hi) (λ j=>j.1)
   (λ w2 e2=>⟨(i,D1),⟨he1.trans e2,Nat.le_refl _,hs1,ho1.ext e2,hr1⟩,sZ⟩) ?_
  rintro ⟨j,D2⟩ w2 ⟨he2,hj1,hs2,ho2,hr2⟩;dsimp only at hj1 hs2 ho2 hr2 ⊢;have hl2:=b0A D2;cases j with
  | zero =>
    repeat' (first|(refine yL ?_;first|refine a0A rfl ?_|refine yO ?_|(refine yC ?_ ?_<;>intro hc)|(refine yN hK ?_;clear hK K))|refine wG ?_|(refine yR ?_;intro K hK)|fail)
    exact a6A (i+1,D2) (λ w5 e5=>⟨he2.trans e5,by dsimp only;omega,by dsimp only;omega,hs2,ho2.ext e5,hr2⟩) eZ sZ
  | succ j =>
    by_cases hjl:lo<j+1
    ·cases hl:Go.Sort.ltInt D2[j+1]! D2[j]!
     ·have hr3:Go.Sort.insInner Go.Sort.ltInt lo (j+1) D2=D2:=by rw [Go.Sort.insInner,hl];simp
      rw [hr3] at hr2
      repeat' (first|(refine yL ?_;first|refine a0A rfl ?_|(refine oI ?_;refine a8A rfl rfl (λ _=>rfl) rfl rfl _ rfl oZ ?_)|(refine oL ?_;refine amA ho2 rfl (λ _=>rfl) rfl oZ ?_;rw [czA])|(refine oD 27 ?_;refine a8A rfl rfl (λ _=>rfl) rfl rfl j oZ oZ ?_)|refine yO ?_|(refine yC ?_ ?_<;>intro hc)|(refine yV ?_;first|(refine oC 171 ?_;refine a3A (f:=171) rfl rfl rfl rfl  (.val (.bool false)) (by intro u1 u2 w e hu1 hu2;(try obtain rfl:u1=_:=hu1);(try obtain rfl:u2=_:=hu2);exact arA (by rw [hl]) (b8A _ _ _)) ?_))|(refine yN hK ?_;clear hK K))|refine wG ?_|(refine yR ?_;intro K hK)|fail)
      exact a6A (i+1,D2) (λ w5 e5=>⟨he2.trans e5,by dsimp only;omega,by dsimp only;omega,hs2,ho2.ext e5,hr2⟩) eZ sZ
     ·have hr3:Go.Sort.insInner Go.Sort.ltInt lo (j+1) D2=Go.Sort.insInner Go.Sort.ltInt lo j (Go.Sort.swp D2 (j+1) j):=by rw [Go.Sort.insInner,hl];simp [hjl]
      rw [hr3] at hr2
      repeat' (first|(refine yL ?_;first|refine yB ?_|(refine oI ?_;refine a8A rfl rfl (λ _=>rfl) rfl rfl _ rfl oZ ?_)|(refine oL ?_;refine amA ho2 rfl (λ _=>rfl) rfl oZ ?_;rw [czA])|(refine oD 27 ?_;refine a8A rfl rfl (λ _=>rfl) rfl rfl j oZ oZ ?_)|(refine oD 41 ?_;refine a8A rfl rfl (λ _=>rfl) rfl rfl j oZ oZ ?_)|refine yO ?_|(refine yC ?_ ?_<;>intro hc)|(refine yV ?_;first|(refine oC 171 ?_;refine a3A (f:=171) rfl rfl rfl rfl  (.val (.bool true)) (by intro u1 u2 w e hu1 hu2;(try obtain rfl:u1=_:=hu1);(try obtain rfl:u2=_:=hu2);exact arA (by rw [hl]) (b8A _ _ _)) ?_))|(refine yN hK ?_;clear hK K))|(refine oCX ?_;first|refine aqA (id:=6) [15,17] kZ kZ kZ (a7A ?_))|refine wG ?_|(refine yR ?_;intro K hK)|refine wPh ?_|fail)
      refine anA (j:=j+1) rfl he2 ho2 rfl rfl oZ (λ _=>rfl) (λ wS1 heS1 hoS1=>?_);refine a7A ?_
      repeat' (first|(refine yL ?_;first|refine yB ?_|(refine oD 48 ?_;refine a8A rfl rfl (λ _=>rfl) rfl rfl (j) oZ oZ ?_)|refine yO ?_|(refine yC ?_ ?_<;>intro hc)|(refine yN hK ?_;clear hK K))|refine wG ?_|(refine yR ?_;intro K hK)|refine wPh ?_|fail)
      refine anA (j:=j) rfl heS1 hoS1 rfl rfl (by rw [List.length_set];omega) (λ _=>rfl) (λ wS heS hoS=>?_);rw [b6A] at hoS;refine apA ?_
      repeat' (first|(refine yL ?_;first|refine yB ?_|refine yO ?_|(refine yC ?_ ?_<;>intro hc)|(refine yN hK ?_;clear hK K))|refine wG ?_|(refine yR ?_;intro K hK)|refine wPh ?_|fail)
      exact a6A (j,Go.Sort.swp D2 (j+1) j) (λ w5 e5=>⟨heS.trans e5,by dsimp only;omega,by dsimp only;rw [swp_size];exact hs2,hoS.ext e5,hr2⟩) eZ sZ
    ·have hr3:Go.Sort.insInner Go.Sort.ltInt lo (j+1) D2=D2:=by rw [Go.Sort.insInner];simp [hjl]
     rw [hr3] at hr2
     repeat' (first|(refine yL ?_;first|refine a0A rfl ?_|refine yO ?_|(refine yC ?_ ?_<;>intro hc)|(refine yN hK ?_;clear hK K))|refine wG ?_|(refine yR ?_;intro K hK)|fail)
     exact a6A (i+1,D2) (λ w5 e5=>⟨he2.trans e5,by dsimp only;omega,by dsimp only;omega,hs2,ho2.ext e5,hr2⟩) eZ sZ
 ·rw [Go.Sort.insOuter,if_neg hlt] at hr1
  repeat' (first|(refine yL ?_;first|refine a0A rfl ?_|refine yO ?_|(refine yC ?_ ?_<;>intro hc)|(refine yN hK ?_;clear hK K))|refine wG ?_|(refine yR ?_;intro K hK)|fail)
  refine bdA rfl (λ w5 e5=>⟨rfl,he1.trans e5,hr1▸ho1.ext e5⟩) (.inl rfl)
end Srt
end Go.Proofs.YtlnaebejmjmepaaGreatDoor
end
section
namespace Go.Proofs.YtlnaebejmjmepaaGreatDoor
namespace Srt
open Go.LA Go.ArrP Go.RowKit
theorem n8A {w0 w:World} {b cap n:Nat} {D:Array Int} (he0:Ext w0 w) (ho0:d6A w0 w b cap n D) (hn:n=D.size) (lo hi first:Nat) (h1:lo≤hi) (h2:first+hi≤D.size) (hb:D.size<4611686018427387904) :
 Fc Tryz.prog 195 #[.slice (some ⟨b,0,none⟩) n cap,.int .i64 lo,.int .i64 hi,.int .i64 first] w (vjA w0 b cap n (Go.Sort.siftDown Go.Sort.ltInt hi first lo D)):=by
 refine Fc.of (args:=[_,_,_,_]) Tryz.func195 rfl rfl Tryz.ntmps195 nZ ?_
 repeat' (first|(refine yL ?_;first|refine a0A rfl ?_|refine yO ?_|(refine yC ?_ ?_<;>intro hc)|(refine yN hK ?_;clear hK K))|refine wG ?_|(refine yR ?_;intro K hK)|fail)
 refine agA (ι:=Nat × Array Int) (λ i=>[(0,.val (.slice (some ⟨b,0,none⟩) n cap)),(2,.val (.int .i64 hi)),(3,.val (.int .i64 first)),(8,.val (.int .i64 (i.1:Int)))])
  (λ i w'=>Ext w0 w'∧i.1≤hi∧i.2.size=D.size∧d6A w0 w' b cap n i.2∧Go.Sort.siftDown Go.Sort.ltInt hi first i.1 i.2=Go.Sort.siftDown Go.Sort.ltInt hi first lo D) (λ i=>hi-i.1)
  (λ w2 e2=>⟨(lo,D),⟨he0.trans e2,h1,rfl,ho0.ext e2,rfl⟩,sZ⟩) ?_
 rintro ⟨r,D1⟩ w1 ⟨he1,hr0,hs1,ho1,hr1⟩;dsimp only at hr0 hs1 ho1 hr1 ⊢;have hl1:=b0A D1
 by_cases hlt:2*r+1 ≥ hi
 ·have hst:Go.Sort.siftDown Go.Sort.ltInt hi first r D1=D1:=by rw [Go.Sort.siftDown,dif_pos hlt]
  rw [hst] at hr1
  repeat' (first|(refine yL ?_;first|refine a0A rfl ?_|refine yO ?_|(refine yC ?_ ?_<;>intro hc)|(refine yN hK ?_;clear hK K))|refine wG ?_|(refine yR ?_;intro K hK)|fail)
  exact bdA rfl (λ w5 e5=>⟨rfl,he1.trans e5,hr1▸ho1.ext e5⟩) (.inl rfl)
 ·by_cases h22:2*r+1+1<hi
  ·cases hll:Go.Sort.ltInt D1[first+(2*r+1)]! D1[first+(2*r+1)+1]!
   ·have q0:True:=trivial
    have hgo:=sift_go (lt:=Go.Sort.ltInt) (hi:=hi) (first:=first) (d:=D1) (r:=r) (c:=2*r+1) oZ (by rw [hll];simp);cases hl:Go.Sort.ltInt D1[first+r]! D1[first+(2*r+1)]!
    ·rw [hl] at hgo
     simp only [Bool.false_eq_true,if_false] at hgo;rw [hgo] at hr1
     repeat' (first|(refine yL ?_;first|refine a0A rfl ?_|(refine oD 35 ?_;refine oC 171 ?_;refine a3A (f:=171) rfl rfl rfl rfl  (.val (.bool false)) (by intro u1 u2 w e hu1 hu2;(try obtain rfl:u1=_:=hu1);(try obtain rfl:u2=_:=hu2);exact arA (by rw [hll]) (b8A _ _ _)) ?_)|(refine oD 26 ?_;refine a8A rfl rfl (λ _=>rfl) rfl rfl (first+(2*r+1)) oZ oZ ?_)|(refine oD 33 ?_;refine a8A rfl rfl (λ _=>rfl) rfl rfl (first+(2*r+1)+1) oZ oZ ?_)|(refine oD 43 ?_;refine a8A rfl rfl (λ _=>rfl) rfl rfl (first+r) oZ oZ ?_)|(refine oD 49 ?_;refine a8A rfl rfl (λ _=>rfl) rfl rfl (first+(2*r+1)) oZ oZ ?_)|(refine oL ?_;refine amA ho1 rfl (λ _=>rfl) rfl oZ ?_;rw [czA])|(refine oD 51 ?_;refine oC 171 ?_;refine a3A (f:=171) rfl rfl rfl rfl  (.val (.bool false)) (by intro u1 u2 w e hu1 hu2;(try obtain rfl:u1=_:=hu1);(try obtain rfl:u2=_:=hu2);exact arA (by rw [hl]) (b8A _ _ _)) ?_)|refine yO ?_|(refine yC ?_ ?_<;>intro hc)|(refine yN hK ?_;clear hK K))|refine wG ?_|(refine yR ?_;intro K hK)|fail)
     exact bdA rfl (λ w5 e5=>⟨rfl,he1.trans e5,hr1▸ho1.ext e5⟩) (.inr rfl)
    ·rw [hl] at hgo
     simp only [if_true] at hgo;rw [hgo] at hr1
     repeat' (first|(refine yL ?_;first|refine yB ?_|(refine oD 35 ?_;refine oC 171 ?_;refine a3A (f:=171) rfl rfl rfl rfl  (.val (.bool false)) (by intro u1 u2 w e hu1 hu2;(try obtain rfl:u1=_:=hu1);(try obtain rfl:u2=_:=hu2);exact arA (by rw [hll]) (b8A _ _ _)) ?_)|(refine oD 26 ?_;refine a8A rfl rfl (λ _=>rfl) rfl rfl (first+(2*r+1)) oZ oZ ?_)|(refine oD 33 ?_;refine a8A rfl rfl (λ _=>rfl) rfl rfl (first+(2*r+1)+1) oZ oZ ?_)|(refine oD 43 ?_;refine a8A rfl rfl (λ _=>rfl) rfl rfl (first+r) oZ oZ ?_)|(refine oD 49 ?_;refine a8A rfl rfl (λ _=>rfl) rfl rfl (first+(2*r+1)) oZ oZ ?_)|(refine oD 65 ?_;refine a8A rfl rfl (λ _=>rfl) rfl rfl (first+(2*r+1)) oZ oZ ?_)|(refine oD 71 ?_;refine a8A rfl rfl (λ _=>rfl) rfl rfl (first+r) oZ oZ ?_)|(refine oD 73 ?_;refine a8A rfl rfl (λ _=>rfl) rfl rfl (first+r) oZ oZ ?_)|(refine oL ?_;refine amA ho1 rfl (λ _=>rfl) rfl oZ ?_;rw [czA])|(refine oD 51 ?_;refine oC 171 ?_;refine a3A (f:=171) rfl rfl rfl rfl  (.val (.bool true)) (by intro u1 u2 w e hu1 hu2;(try obtain rfl:u1=_:=hu1);(try obtain rfl:u2=_:=hu2);exact arA (by rw [hl]) (b8A _ _ _)) ?_)|refine yO ?_|(refine yC ?_ ?_<;>intro hc)|(refine yN hK ?_;clear hK K))|(refine oCX ?_;first|refine aqA (id:=6) [21,23] kZ kZ kZ (a7A ?_))|refine wG ?_|(refine yR ?_;intro K hK)|refine wPh ?_|fail)
     refine anA (j:=first+r) rfl he1 ho1 rfl rfl oZ (λ _=>rfl) (λ wS1 heS1 hoS1=>?_);refine a7A ?_
     repeat' (first|(refine yL ?_;first|refine yB ?_|(refine oD 74 ?_;refine a8A rfl rfl (λ _=>rfl) rfl rfl (first+(2*r+1)) oZ oZ ?_)|refine yO ?_|(refine yC ?_ ?_<;>intro hc)|(refine yN hK ?_;clear hK K))|refine wG ?_|(refine yR ?_;intro K hK)|refine wPh ?_|fail)
     refine anA (j:=first+(2*r+1)) rfl heS1 hoS1 rfl rfl (by rw [List.length_set];omega) (λ _=>rfl) (λ wS heS hoS=>?_);rw [b6A] at hoS;refine apA ?_
     repeat' (first|(refine yL ?_;first|refine yB ?_|refine yO ?_|(refine yC ?_ ?_<;>intro hc)|(refine yN hK ?_;clear hK K))|refine wG ?_|(refine yR ?_;intro K hK)|refine wPh ?_|fail)
     exact a6A (2*r+1,Go.Sort.swp D1 (first+r) (first+(2*r+1))) (λ w5 e5=>⟨heS.trans e5,by dsimp only;omega,by dsimp only;rw [swp_size];exact hs1,hoS.ext e5,hr1⟩) eZ sZ
   ·have q0:True:=trivial
    have hgo:=sift_go (lt:=Go.Sort.ltInt) (hi:=hi) (first:=first) (d:=D1) (r:=r) (c:=2*r+2) oZ (by rw [hll];simp [h22]);cases hl:Go.Sort.ltInt D1[first+r]! D1[first+(2*r+2)]!
    ·rw [hl] at hgo
     simp only [Bool.false_eq_true,if_false] at hgo;rw [hgo] at hr1
     repeat' (first|(refine yL ?_;first|refine a0A rfl ?_|(refine oD 35 ?_;refine oC 171 ?_;refine a3A (f:=171) rfl rfl rfl rfl  (.val (.bool true)) (by intro u1 u2 w e hu1 hu2;(try obtain rfl:u1=_:=hu1);(try obtain rfl:u2=_:=hu2);exact arA (by rw [hll]) (b8A _ _ _)) ?_)|(refine oD 26 ?_;refine a8A rfl rfl (λ _=>rfl) rfl rfl (first+(2*r+1)) oZ oZ ?_)|(refine oD 33 ?_;refine a8A rfl rfl (λ _=>rfl) rfl rfl (first+(2*r+1)+1) oZ oZ ?_)|(refine oD 43 ?_;refine a8A rfl rfl (λ _=>rfl) rfl rfl (first+r) oZ oZ ?_)|(refine oD 49 ?_;refine a8A rfl rfl (λ _=>rfl) rfl rfl (first+(2*r+2)) oZ oZ ?_)|(refine oL ?_;refine amA ho1 rfl (λ _=>rfl) rfl oZ ?_;rw [czA])|(refine oD 51 ?_;refine oC 171 ?_;refine a3A (f:=171) rfl rfl rfl rfl  (.val (.bool false)) (by intro u1 u2 w e hu1 hu2;(try obtain rfl:u1=_:=hu1);(try obtain rfl:u2=_:=hu2);exact arA (by rw [hl]) (b8A _ _ _)) ?_)|refine yO ?_|(refine yC ?_ ?_<;>intro hc)|(refine yN hK ?_;clear hK K))|refine wG ?_|(refine yR ?_;intro K hK)|fail)
     exact bdA rfl (λ w5 e5=>⟨rfl,he1.trans e5,hr1▸ho1.ext e5⟩) (.inr rfl)
    ·rw [hl] at hgo
     simp only [if_true] at hgo;rw [hgo] at hr1
     repeat' (first|(refine yL ?_;first|refine yB ?_|(refine oD 35 ?_;refine oC 171 ?_;refine a3A (f:=171) rfl rfl rfl rfl  (.val (.bool true)) (by intro u1 u2 w e hu1 hu2;(try obtain rfl:u1=_:=hu1);(try obtain rfl:u2=_:=hu2);exact arA (by rw [hll]) (b8A _ _ _)) ?_)|(refine oD 26 ?_;refine a8A rfl rfl (λ _=>rfl) rfl rfl (first+(2*r+1)) oZ oZ ?_)|(refine oD 33 ?_;refine a8A rfl rfl (λ _=>rfl) rfl rfl (first+(2*r+1)+1) oZ oZ ?_)|(refine oD 43 ?_;refine a8A rfl rfl (λ _=>rfl) rfl rfl (first+r) oZ oZ ?_)|(refine oD 49 ?_;refine a8A rfl rfl (λ _=>rfl) rfl rfl (first+(2*r+2)) oZ oZ ?_)|(refine oD 65 ?_;refine a8A rfl rfl (λ _=>rfl) rfl rfl (first+(2*r+2)) oZ oZ ?_)|(refine oD 71 ?_;refine a8A rfl rfl (λ _=>rfl) rfl rfl (first+r) oZ oZ ?_)|(refine oD 73 ?_;refine a8A rfl rfl (λ _=>rfl) rfl rfl (first+r) oZ oZ ?_)|(refine oL ?_;refine amA ho1 rfl (λ _=>rfl) rfl oZ ?_;rw [czA])|(refine oD 51 ?_;refine oC 171 ?_;refine a3A (f:=171) rfl rfl rfl rfl  (.val (.bool true)) (by intro u1 u2 w e hu1 hu2;(try obtain rfl:u1=_:=hu1);(try obtain rfl:u2=_:=hu2);exact arA (by rw [hl]) (b8A _ _ _)) ?_)|refine yO ?_|(refine yC ?_ ?_<;>intro hc)|(refine yN hK ?_;clear hK K))|(refine oCX ?_;first|refine aqA (id:=6) [21,23] kZ kZ kZ (a7A ?_))|refine wG ?_|(refine yR ?_;intro K hK)|refine wPh ?_|fail)
     refine anA (j:=first+r) rfl he1 ho1 rfl rfl oZ (λ _=>rfl) (λ wS1 heS1 hoS1=>?_);refine a7A ?_
     repeat' (first|(refine yL ?_;first|refine yB ?_|(refine oD 74 ?_;refine a8A rfl rfl (λ _=>rfl) rfl rfl (first+(2*r+2)) oZ oZ ?_)|refine yO ?_|(refine yC ?_ ?_<;>intro hc)|(refine yN hK ?_;clear hK K))|refine wG ?_|(refine yR ?_;intro K hK)|refine wPh ?_|fail)
     refine anA (j:=first+(2*r+2)) rfl heS1 hoS1 rfl rfl (by rw [List.length_set];omega) (λ _=>rfl) (λ wS heS hoS=>?_);rw [b6A] at hoS;refine apA ?_
     repeat' (first|(refine yL ?_;first|refine yB ?_|refine yO ?_|(refine yC ?_ ?_<;>intro hc)|(refine yN hK ?_;clear hK K))|refine wG ?_|(refine yR ?_;intro K hK)|refine wPh ?_|fail)
     exact a6A (2*r+2,Go.Sort.swp D1 (first+r) (first+(2*r+2))) (λ w5 e5=>⟨heS.trans e5,by dsimp only;omega,by dsimp only;rw [swp_size];exact hs1,hoS.ext e5,hr1⟩) eZ sZ
  ·have q0:True:=trivial
   have hgo:=sift_go (lt:=Go.Sort.ltInt) (hi:=hi) (first:=first) (d:=D1) (r:=r) (c:=2*r+1) oZ (by simp [h22]);cases hl:Go.Sort.ltInt D1[first+r]! D1[first+(2*r+1)]!
   ·rw [hl] at hgo
    simp only [Bool.false_eq_true,if_false] at hgo;rw [hgo] at hr1
    repeat' (first|(refine yL ?_;first|refine a0A rfl ?_|(refine oD 26 ?_;refine a8A rfl rfl (λ _=>rfl) rfl rfl (first+(2*r+1)) oZ oZ ?_)|(refine oD 33 ?_;refine a8A rfl rfl (λ _=>rfl) rfl rfl (first+(2*r+1)+1) oZ oZ ?_)|(refine oD 43 ?_;refine a8A rfl rfl (λ _=>rfl) rfl rfl (first+r) oZ oZ ?_)|(refine oD 49 ?_;refine a8A rfl rfl (λ _=>rfl) rfl rfl (first+(2*r+1)) oZ oZ ?_)|(refine oL ?_;refine amA ho1 rfl (λ _=>rfl) rfl oZ ?_;rw [czA])|(refine oD 51 ?_;refine oC 171 ?_;refine a3A (f:=171) rfl rfl rfl rfl  (.val (.bool false)) (by intro u1 u2 w e hu1 hu2;(try obtain rfl:u1=_:=hu1);(try obtain rfl:u2=_:=hu2);exact arA (by rw [hl]) (b8A _ _ _)) ?_)|refine yO ?_|(refine yC ?_ ?_<;>intro hc)|(refine yN hK ?_;clear hK K))|refine wG ?_|(refine yR ?_;intro K hK)|fail)
    exact bdA rfl (λ w5 e5=>⟨rfl,he1.trans e5,hr1▸ho1.ext e5⟩) (.inr rfl)
   ·rw [hl] at hgo
    simp only [if_true] at hgo;rw [hgo] at hr1
    repeat' (first|(refine yL ?_;first|refine yB ?_|(refine oD 26 ?_;refine a8A rfl rfl (λ _=>rfl) rfl rfl (first+(2*r+1)) oZ oZ ?_)|(refine oD 33 ?_;refine a8A rfl rfl (λ _=>rfl) rfl rfl (first+(2*r+1)+1) oZ oZ ?_)|(refine oD 43 ?_;refine a8A rfl rfl (λ _=>rfl) rfl rfl (first+r) oZ oZ ?_)|(refine oD 49 ?_;refine a8A rfl rfl (λ _=>rfl) rfl rfl (first+(2*r+1)) oZ oZ ?_)|(refine oD 65 ?_;refine a8A rfl rfl (λ _=>rfl) rfl rfl (first+(2*r+1)) oZ oZ ?_)|(refine oD 71 ?_;refine a8A rfl rfl (λ _=>rfl) rfl rfl (first+r) oZ oZ ?_)|(refine oD 73 ?_;refine a8A rfl rfl (λ _=>rfl) rfl rfl (first+r) oZ oZ ?_)|(refine oL ?_;refine amA ho1 rfl (λ _=>rfl) rfl oZ ?_;rw [czA])|(refine oD 51 ?_;refine oC 171 ?_;refine a3A (f:=171) rfl rfl rfl rfl  (.val (.bool true)) (by intro u1 u2 w e hu1 hu2;(try obtain rfl:u1=_:=hu1);(try obtain rfl:u2=_:=hu2);exact arA (by rw [hl]) (b8A _ _ _)) ?_)|refine yO ?_|(refine yC ?_ ?_<;>intro hc)|(refine yN hK ?_;clear hK K))|(refine oCX ?_;first|refine aqA (id:=6) [21,23] kZ kZ kZ (a7A ?_))|refine wG ?_|(refine yR ?_;intro K hK)|refine wPh ?_|fail)
    refine anA (j:=first+r) rfl he1 ho1 rfl rfl oZ (λ _=>rfl) (λ wS1 heS1 hoS1=>?_);refine a7A ?_
    repeat' (first|(refine yL ?_;first|refine yB ?_|(refine oD 74 ?_;refine a8A rfl rfl (λ _=>rfl) rfl rfl (first+(2*r+1)) oZ oZ ?_)|refine yO ?_|(refine yC ?_ ?_<;>intro hc)|(refine yN hK ?_;clear hK K))|refine wG ?_|(refine yR ?_;intro K hK)|refine wPh ?_|fail)
    refine anA (j:=first+(2*r+1)) rfl heS1 hoS1 rfl rfl (by rw [List.length_set];omega) (λ _=>rfl) (λ wS heS hoS=>?_);rw [b6A] at hoS;refine apA ?_
    repeat' (first|(refine yL ?_;first|refine yB ?_|refine yO ?_|(refine yC ?_ ?_<;>intro hc)|(refine yN hK ?_;clear hK K))|refine wG ?_|(refine yR ?_;intro K hK)|refine wPh ?_|fail)
    exact a6A (2*r+1,Go.Sort.swp D1 (first+r) (first+(2*r+1))) (λ w5 e5=>⟨heS.trans e5,by dsimp only;omega,by dsimp only;rw [swp_size];exact hs1,hoS.ext e5,hr1⟩) eZ sZ
end Srt
end Go.Proofs.YtlnaebejmjmepaaGreatDoor
end
section
namespace Go.Proofs.YtlnaebejmjmepaaGreatDoor
namespace Srt
open Go.LA Go.ArrP Go.RowKit
theorem umA {w0 w:World} {b cap n:Nat} {D:Array Int} (he0:Ext w0 w) (ho0:d6A w0 w b cap n D) (hn:n=D.size) (lo hi:Nat) (h1:lo≤hi) (h2:hi≤D.size) (hb:D.size<4611686018427387904) :
 Fc Tryz.prog 176 #[.slice (some ⟨b,0,none⟩) n cap,.int .i64 lo,.int .i64 hi] w (vjA w0 b cap n (Go.Sort.heapSort Go.Sort.ltInt D lo hi)):=by
 obtain ⟨m,hm⟩:∃ m:Nat,m=hi-lo:=⟨_,rfl⟩;have hmi:(hi:Int)-(lo:Int)=(m:Int):=oZ;have hhalf:=nsA m oZ;unfold Go.Sort.heapSort;rw [← hm];refine Fc.of (args:=[_,_,_]) Tryz.func176 rfl rfl Tryz.ntmps176 nZ ?_
 repeat' (first|(refine yL ?_;first|refine a0A rfl ?_|(refine oD 14 ?_;refine abA rfl rfl rfl (by rw [hmi];dsimp only [fits];omega) ?_;rw [hmi])|(refine oD 17 ?_;refine seA rfl rfl rfl dZ ?_;rw [hhalf])|refine yO ?_|(refine yC ?_ ?_<;>intro hc)|(refine yN hK ?_;clear hK K))|refine wG ?_|(refine yR ?_;intro K hK)|fail)
 refine agA (ι:=Nat × Array Int) (λ i=>[(0,.val (.slice (some ⟨b,0,none⟩) n cap)),(6,.val (.int .i64 lo)),(7,.val (.int .i64 0)),(8,.val (.int .i64 m)),(9,.val (.int .i64 ((i.1:Int)-1)))])
  (λ i w'=>Ext w0 w'∧i.1≤(m-1) / 2+1∧i.2.size=D.size∧d6A w0 w' b cap n i.2∧Go.Sort.heapBuild Go.Sort.ltInt m lo i.1 i.2=Go.Sort.heapBuild Go.Sort.ltInt m lo ((m-1) / 2+1) D) (λ i=>i.1)
  (λ w2 e2=>⟨((m-1) / 2+1,D),⟨he0.trans e2,Nat.le_refl _,rfl,ho0.ext e2,rfl⟩,sZ⟩) ?_
 rintro ⟨i,D1⟩ w1 ⟨he1,hi0,hs1,ho1,hr1⟩;dsimp only at hi0 hs1 ho1 hr1 ⊢;cases i with
 | succ i =>
   rw [Go.Sort.heapBuild] at hr1
   repeat' (first|(refine yL ?_;first|refine a0A rfl ?_|(refine oD 26 ?_;refine a4A (hK _ _ (faA (f:=195) (λ w'=>Ext w0 w'∧d6A w0 w' b cap n (Go.Sort.siftDown Go.Sort.ltInt m lo i D1)) (λ w' e=>by rw [show (((i+1:Nat):Int)-1)=(i:Int) by omega];exact n8A (he1.trans e) (ho1.ext e) (hn.trans hs1.symm) i m lo oZ oZ oZ) rfl dZ rfl rfl rfl rfl rfl (λ w2 hw2=>?_)));clear hK K;obtain ⟨he2,ho2⟩:=hw2)|refine yO ?_|(refine yC ?_ ?_<;>intro hc)|(refine yN hK ?_;clear hK K))|refine wG ?_|(refine yR ?_;intro K hK)|fail)
   exact a6A (i,Go.Sort.siftDown Go.Sort.ltInt m lo i D1) (λ w5 e5=>⟨he2.trans e5,by dsimp only;omega,(sift_size _ _ _ (Nat.le_refl _)).trans hs1,ho2.ext e5,hr1⟩) eZ sZ
 | zero =>
   rw [Go.Sort.heapBuild] at hr1;rw [← hr1]
   repeat' (first|(refine yL ?_;first|refine a0A rfl ?_|refine yO ?_|(refine yC ?_ ?_<;>intro hc)|(refine yN hK ?_;clear hK K))|refine wG ?_|(refine yR ?_;intro K hK)|fail)
   refine agA (ι:=Nat × Array Int) (λ i=>[(0,.val (.slice (some ⟨b,0,none⟩) n cap)),(6,.val (.int .i64 lo)),(7,.val (.int .i64 0)),(10,.val (.int .i64 ((i.1:Int)-1)))])
    (λ i w'=>Ext w0 w'∧i.1≤m∧i.2.size=D.size∧d6A w0 w' b cap n i.2∧Go.Sort.heapPop Go.Sort.ltInt lo i.1 i.2=Go.Sort.heapPop Go.Sort.ltInt lo m D1) (λ i=>i.1)
    (λ w2 e2=>⟨(m,D1),⟨he1.trans e2,Nat.le_refl _,hs1,ho1.ext e2,rfl⟩,sZ⟩) ?_
   rintro ⟨i,D2⟩ w2 ⟨he2,hi2,hs2,ho2,hr2⟩;dsimp only at hi2 hs2 ho2 hr2 ⊢;have hl2:=b0A D2;cases i with
   | succ i =>
     rw [Go.Sort.heapPop] at hr2
     repeat' (first|(refine yL ?_;first|refine yB ?_|(refine oD 43 ?_;refine a8A rfl rfl (λ _=>rfl) rfl rfl (lo+i) oZ oZ ?_)|(refine oD 47 ?_;refine a8A rfl rfl (λ _=>rfl) rfl rfl lo rfl oZ ?_)|(refine oD 49 ?_;refine a8A rfl rfl (λ _=>rfl) rfl rfl lo rfl oZ ?_)|(refine oL ?_;refine amA ho2 rfl (λ _=>rfl) rfl oZ ?_;rw [czA])|refine yO ?_|(refine yC ?_ ?_<;>intro hc)|(refine yN hK ?_;clear hK K))|(refine oCX ?_;first|refine aqA (id:=10) [17,19] kZ kZ kZ (a7A ?_))|refine wG ?_|(refine yR ?_;intro K hK)|refine wPh ?_|fail)
     refine anA (j:=lo) rfl he2 ho2 rfl rfl oZ (λ _=>rfl) (λ wS1 heS1 hoS1=>?_);refine a7A ?_
     repeat' (first|(refine yL ?_;first|refine yB ?_|(refine oD 50 ?_;refine a8A rfl rfl (λ _=>rfl) rfl rfl (lo+i) oZ oZ ?_)|refine yO ?_|(refine yC ?_ ?_<;>intro hc)|(refine yN hK ?_;clear hK K))|refine wG ?_|(refine yR ?_;intro K hK)|refine wPh ?_|fail)
     refine anA (j:=lo+i) rfl heS1 hoS1 rfl rfl (by rw [List.length_set];omega) (λ _=>rfl) (λ wS heS hoS=>?_);rw [b6A] at hoS;refine apA ?_
     repeat' (first|(refine yL ?_;first|refine yB ?_|refine yO ?_|(refine yC ?_ ?_<;>intro hc)|(refine yN hK ?_;clear hK K))|refine wG ?_|(refine yR ?_;intro K hK)|refine wPh ?_|fail)
     repeat' (first|(refine yL ?_;first|refine a0A rfl ?_|(refine oD 55 ?_;refine a4A (hK _ _ (faA (f:=195) (λ w'=>Ext w0 w'∧d6A w0 w' b cap n (Go.Sort.siftDown Go.Sort.ltInt i lo 0 (Go.Sort.swp D2 lo (lo+i)))) (λ w' e=>by rw [show (((i+1:Nat):Int)-1)=(i:Int) by omega];exact n8A (heS.trans e) (hoS.ext e) (by rw [swp_size];omega) 0 i lo oZ (by rw [swp_size];omega) (by rw [swp_size];omega)) rfl dZ rfl rfl rfl rfl rfl (λ w3 hw3=>?_)));clear hK K;obtain ⟨he3,ho3⟩:=hw3)|refine yO ?_|(refine yC ?_ ?_<;>intro hc)|(refine yN hK ?_;clear hK K))|refine wG ?_|(refine yR ?_;intro K hK)|fail)
     exact a6A (i,Go.Sort.siftDown Go.Sort.ltInt i lo 0 (Go.Sort.swp D2 lo (lo+i))) (λ w5 e5=>⟨he3.trans e5,by dsimp only;omega,(sift_size _ _ _ (Nat.le_refl _)).trans ((swp_size _ _ _).trans hs2),ho3.ext e5,hr2⟩) eZ sZ
   | zero =>
     rw [Go.Sort.heapPop] at hr2
     repeat' (first|(refine yL ?_;first|refine a0A rfl ?_|refine yO ?_|(refine yC ?_ ?_<;>intro hc)|(refine yN hK ?_;clear hK K))|refine wG ?_|(refine yR ?_;intro K hK)|fail)
     exact bdA rfl (λ w5 e5=>⟨rfl,he2.trans e5,hr2▸ho2.ext e5⟩) (.inl rfl)
theorem xvA {w0 w:World} {b cap n:Nat} {D:Array Int} (he0:Ext w0 w) (ho0:d6A w0 w b cap n D) (hn:n=D.size) (lo hi:Nat) (h1:lo<hi) (h2:hi≤D.size) (hb:D.size<4611686018427387904) :
 Fc Tryz.prog 179 #[.slice (some ⟨b,0,none⟩) n cap,.int .i64 lo,.int .i64 hi] w (vjA w0 b cap n (Go.Sort.reverseRange D lo hi)):=by
 unfold Go.Sort.reverseRange;refine Fc.of (args:=[_,_,_]) Tryz.func179 rfl rfl Tryz.ntmps179 nZ ?_
 repeat' (first|(refine yL ?_;first|refine a0A rfl ?_|refine yO ?_|(refine yC ?_ ?_<;>intro hc)|(refine yN hK ?_;clear hK K))|refine wG ?_|(refine yR ?_;intro K hK)|fail)
 rw [show ((hi:Int)-1)=((hi-1:Nat):Int) by omega]
 refine agA (ι:=Nat × Nat × Array Int) (λ i=>[(0,.val (.slice (some ⟨b,0,none⟩) n cap)),(6,.val (.int .i64 (i.1:Int))),(7,.val (.int .i64 (i.2.1:Int)))])
  (λ i w'=>Ext w0 w'∧i.1≤hi∧i.2.1<hi∧i.2.2.size=D.size∧d6A w0 w' b cap n i.2.2∧Go.Sort.reverseLoop i.1 i.2.1 i.2.2=Go.Sort.reverseLoop lo (hi-1) D) (λ i=>i.2.1-i.1)
  (λ w2 e2=>⟨(lo,hi-1,D),⟨he0.trans e2,by dsimp only;omega,by dsimp only;omega,rfl,ho0.ext e2,rfl⟩,sZ⟩) ?_
 rintro ⟨i,j,D1⟩ w1 ⟨he1,hi0,hj0,hs1,ho1,hr1⟩;dsimp only at hi0 hj0 hs1 ho1 hr1 ⊢;have hl1:=b0A D1
 by_cases hlt:i<j
 ·rw [Go.Sort.reverseLoop,if_pos hlt] at hr1
  repeat' (first|(refine yL ?_;first|refine yB ?_|(refine oI ?_;refine a8A rfl rfl (λ _=>rfl) rfl rfl _ rfl oZ ?_)|(refine oL ?_;refine amA ho1 rfl (λ _=>rfl) rfl oZ ?_;rw [czA])|refine yO ?_|(refine yC ?_ ?_<;>intro hc)|(refine yN hK ?_;clear hK K))|(refine oCX ?_;first|refine aqA (id:=3) [13,15] kZ kZ kZ (a7A ?_))|refine wG ?_|(refine yR ?_;intro K hK)|refine wPh ?_|fail)
  refine anA (j:=i) rfl he1 ho1 rfl rfl oZ (λ _=>rfl) (λ wS1 heS1 hoS1=>?_);refine a7A ?_
  repeat' (first|(refine yL ?_;first|refine yB ?_|(refine oD 27 ?_;refine a8A rfl rfl (λ _=>rfl) rfl rfl (j) oZ oZ ?_)|refine yO ?_|(refine yC ?_ ?_<;>intro hc)|(refine yN hK ?_;clear hK K))|refine wG ?_|(refine yR ?_;intro K hK)|refine wPh ?_|fail)
  refine anA (j:=j) rfl heS1 hoS1 rfl rfl (by rw [List.length_set];omega) (λ _=>rfl) (λ wS heS hoS=>?_);rw [b6A] at hoS;refine apA ?_
  repeat' (first|(refine yL ?_;first|refine yB ?_|refine yO ?_|(refine yC ?_ ?_<;>intro hc)|(refine yN hK ?_;clear hK K))|refine wG ?_|(refine yR ?_;intro K hK)|refine wPh ?_|fail)
  exact a6A (i+1,j-1,Go.Sort.swp D1 i j) (λ w5 e5=>⟨heS.trans e5,by dsimp only;omega,by dsimp only;omega,by dsimp only;rw [swp_size];exact hs1,hoS.ext e5,hr1⟩) eZ (by dsimp only;exact sZ)
 ·rw [Go.Sort.reverseLoop,if_neg hlt] at hr1
  repeat' (first|(refine yL ?_;first|refine a0A rfl ?_|refine yO ?_|(refine yC ?_ ?_<;>intro hc)|(refine yN hK ?_;clear hK K))|refine wG ?_|(refine yR ?_;intro K hK)|fail)
  exact bdA rfl (λ w5 e5=>⟨rfl,he1.trans e5,hr1▸ho1.ext e5⟩) (.inl rfl)
end Srt
end Go.Proofs.YtlnaebejmjmepaaGreatDoor
end
section
namespace Go.Proofs.YtlnaebejmjmepaaGreatDoor
namespace Srt
open Go.LA Go.ArrP Go.RowKit
theorem txA {w0 w:World} {b cap n:Nat} {D0:Array Int} (he0:Ext w0 w) (ho0:d6A w0 w b cap n D0) (hn:n=D0.size) (lo hi pv:Nat) (h1:lo≤pv) (h2:pv<hi) (h3:hi≤D0.size) (hb:D0.size<4611686018427387904) :
 Fc Tryz.prog 182 #[.slice (some ⟨b,0,none⟩) n cap,.int .i64 lo,.int .i64 hi,.int .i64 pv] w (λ e w'=>e=.returned (.tuple #[.int .i64 ((Go.Sort.partition Go.Sort.ltInt D0 lo hi pv).1:Int),.bool (Go.Sort.partition Go.Sort.ltInt D0 lo hi pv).2.1])∧Ext w0 w'∧d6A w0 w' b cap n (Go.Sort.partition Go.Sort.ltInt D0 lo hi pv).2.2):=by
 have hl0:=b0A D0;refine Fc.of (args:=[_,_,_,_]) Tryz.func182 rfl rfl Tryz.ntmps182 nZ ?_
 repeat' (first|(refine yL ?_;first|refine yB ?_|(refine oI ?_;refine a8A rfl rfl (λ _=>rfl) rfl rfl _ rfl oZ ?_)|(refine oL ?_;refine amA ho0 rfl (λ _=>rfl) rfl oZ ?_;rw [czA])|refine yO ?_|(refine yC ?_ ?_<;>intro hc)|(refine yN hK ?_;clear hK K))|(refine oCX ?_;first|refine aqA (id:=1) [13,15] kZ kZ kZ (a7A ?_))|refine wG ?_|(refine yR ?_;intro K hK)|refine wPh ?_|fail)
 refine anA (j:=lo) rfl he0 ho0 rfl rfl oZ (λ _=>rfl) (λ wS1 heS1 hoS1=>?_);refine a7A ?_
 repeat' (first|(refine yL ?_;first|refine yB ?_|(refine oD 25 ?_;refine a8A rfl rfl (λ _=>rfl) rfl rfl (pv) oZ oZ ?_)|refine yO ?_|(refine yC ?_ ?_<;>intro hc)|(refine yN hK ?_;clear hK K))|refine wG ?_|(refine yR ?_;intro K hK)|refine wPh ?_|fail)
 refine anA (j:=pv) rfl heS1 hoS1 rfl rfl (by rw [List.length_set];omega) (λ _=>rfl) (λ wS heS hoS=>?_);rw [b6A] at hoS;obtain ⟨D,hD⟩:∃ D,D=Go.Sort.swp D0 lo pv:=⟨_,rfl⟩;rw [← hD] at hoS;have hs:D.size=D0.size:=by rw [hD,swp_size]
 have hl:=b0A D;obtain ⟨i2,hi2⟩:∃ i2,i2=Go.Sort.scanUp (λ x=>Go.Sort.ltInt x D[lo]!) D (hi-1) (lo+1):=⟨_,rfl⟩;obtain ⟨j2,hj2⟩:∃ j2,j2=Go.Sort.scanDown (λ x=>!Go.Sort.ltInt x D[lo]!) D i2 (hi-1):=⟨_,rfl⟩;have bi2:=djA (λ x=>Go.Sort.ltInt x D[lo]!) D (hi-1) _ (lo+1) (Nat.le_refl _);have bj2:=cxA (λ x=>!Go.Sort.ltInt x D[lo]!) D i2 (hi-1);rw [← hi2] at bi2;rw [← hj2] at bj2;have hpe:=q9A (lt:=Go.Sort.ltInt) hD hi2 hj2;refine apA ?_
 repeat' (first|(refine yL ?_;first|refine yB ?_|(refine oD 27 ?_;refine beA rfl rfl rfl fZ ?_;rw [show ((lo:Int)+1)=((lo+1:Nat):Int) by omega])|(refine oD 29 ?_;refine abA rfl rfl rfl fZ ?_;rw [show ((hi:Int)-1)=((hi-1:Nat):Int) by omega])|(refine oI ?_;refine a8A rfl rfl (λ _=>rfl) rfl rfl _ rfl oZ ?_)|(refine oL ?_;refine amA hoS rfl (λ _=>rfl) rfl oZ ?_;rw [czA])|refine yO ?_|(refine yC ?_ ?_<;>intro hc)|(refine yN hK ?_;clear hK K))|(refine oCX ?_;first|refine dqA 0 [(0,.val (.slice (some ⟨b,0,none⟩) n cap)),(1,.val (.int .i64 lo)),(2,.val (.int .i64 hi)),(10,.val (.int .i64 ((i2:Nat):Int))),(11,.val (.int .i64 ((hi-1:Nat):Int)))] ?_ ?_|refine dqA 2 [(0,.val (.slice (some ⟨b,0,none⟩) n cap)),(1,.val (.int .i64 lo)),(2,.val (.int .i64 hi)),(10,.val (.int .i64 ((i2:Nat):Int))),(11,.val (.int .i64 ((j2:Nat):Int)))] ?_ ?_|refine aqA (id:=8) [13,15] kZ kZ kZ (a7A ?_)|refine aqA (id:=10) [13,15] kZ kZ kZ (a7A ?_))|refine wG ?_|(refine yR ?_;intro K hK)|refine wPh ?_|fail)
 ·have q0:True:=trivial
  refine b5A (ι:=Nat) (λ i=>[(0,.val (.slice (some ⟨b,0,none⟩) n cap)),(1,.val (.int .i64 lo)),(2,.val (.int .i64 hi)),(10,.val (.int .i64 (i:Int))),(11,.val (.int .i64 ((hi-1:Nat):Int)))])
   (λ i=>lo+1≤i∧i≤max (lo+1) (hi-1+1)∧Go.Sort.scanUp (λ x=>Go.Sort.ltInt x D[lo]!) D (hi-1) i=i2) (λ i=>hi-1+1-i) (lo+1) ⟨Nat.le_refl _,by omega,by rw [hi2]⟩ sZ ?_
  rintro i ⟨g1,g2,g3⟩;have hl5:=b0A D
  by_cases hij:i≤hi-1
  ·cases hp:Go.Sort.ltInt D[i]! D[lo]!
   ·rw [bvA (p:=λ x=>Go.Sort.ltInt x D[lo]!) (d:=D) (.inr hp)] at g3
    repeat' (first|(refine yL ?_;first|refine a0A rfl ?_|(refine oI ?_;refine a8A rfl rfl (λ _=>rfl) rfl rfl _ rfl oZ ?_)|(refine oL ?_;refine amA hoS rfl (λ _=>rfl) rfl oZ ?_;rw [czA])|refine yO ?_|(refine yC ?_ ?_<;>intro hc)|(refine yV ?_;first|(refine oC 171 ?_;refine a3A (f:=171) rfl rfl rfl rfl  (.val (.bool false)) (by intro u1 u2 w e hu1 hu2;(try obtain rfl:u1=_:=hu1);(try obtain rfl:u2=_:=hu2);exact arA (by rw [hp]) (b8A _ _ _)) ?_))|(refine yN hK ?_;clear hK K))|refine wG ?_|(refine yR ?_;intro K hK)|fail)
    (subst g3;exact caA sZ)
   ·rw [scanUp_go (p:=λ x=>Go.Sort.ltInt x D[lo]!) (d:=D) hij hp] at g3
    repeat' (first|(refine yL ?_;first|refine a0A rfl ?_|(refine oI ?_;refine a8A rfl rfl (λ _=>rfl) rfl rfl _ rfl oZ ?_)|(refine oL ?_;refine amA hoS rfl (λ _=>rfl) rfl oZ ?_;rw [czA])|refine yO ?_|(refine yC ?_ ?_<;>intro hc)|(refine yV ?_;first|(refine oC 171 ?_;refine a3A (f:=171) rfl rfl rfl rfl  (.val (.bool true)) (by intro u1 u2 w e hu1 hu2;(try obtain rfl:u1=_:=hu1);(try obtain rfl:u2=_:=hu2);exact arA (by rw [hp]) (b8A _ _ _)) ?_))|(refine yN hK ?_;clear hK K))|refine wG ?_|(refine yR ?_;intro K hK)|fail)
    exact bpA (i+1) ⟨by omega,by omega,g3⟩ oZ sZ
  ·rw [bvA (p:=λ x=>Go.Sort.ltInt x D[lo]!) (d:=D) (.inl hij)] at g3
   subst g3
   repeat' (first|(refine yL ?_;first|refine a0A rfl ?_|refine yO ?_|(refine yC ?_ ?_<;>intro hc)|(refine yN hK ?_;clear hK K))|refine wG ?_|(refine yR ?_;intro K hK)|fail)
   exact caA sZ
 ·have q0:True:=trivial
  refine b5A (ι:=Nat) (λ j=>[(0,.val (.slice (some ⟨b,0,none⟩) n cap)),(1,.val (.int .i64 lo)),(2,.val (.int .i64 hi)),(10,.val (.int .i64 ((i2:Nat):Int))),(11,.val (.int .i64 (j:Int)))])
   (λ j=>(i2≤j+1∨j=hi-1)∧j≤hi-1∧Go.Sort.scanDown (λ x=>!Go.Sort.ltInt x D[lo]!) D (i2) j=j2) (λ j=>j) (hi-1) ⟨.inr rfl,Nat.le_refl _,by rw [hj2]⟩ sZ ?_
  rintro j ⟨g1,g2,g3⟩;have hl5:=b0A D
  by_cases hij:i2≤j
  ·obtain ⟨j,rfl⟩:∃ k,j=k+1:=⟨j-1,by omega⟩
   cases hp:Go.Sort.ltInt D[j+1]! D[lo]!
   ·rw [scanDown_go (p:=λ x=>!Go.Sort.ltInt x D[lo]!) (d:=D) hij (by show (!_)=true;rw [hp];rfl)] at g3
    repeat' (first|(refine yL ?_;first|refine a0A rfl ?_|(refine oI ?_;refine a8A rfl rfl (λ _=>rfl) rfl rfl _ rfl oZ ?_)|(refine oL ?_;refine amA hoS rfl (λ _=>rfl) rfl oZ ?_;rw [czA])|refine yO ?_|(refine yC ?_ ?_<;>intro hc)|(refine yV ?_;first|(refine oC 171 ?_;refine a3A (f:=171) rfl rfl rfl rfl  (.val (.bool false)) (by intro u1 u2 w e hu1 hu2;(try obtain rfl:u1=_:=hu1);(try obtain rfl:u2=_:=hu2);exact arA (by rw [hp]) (b8A _ _ _)) ?_))|(refine yN hK ?_;clear hK K))|refine wG ?_|(refine yR ?_;intro K hK)|fail)
    exact bpA j ⟨by omega,by omega,g3⟩ oZ sZ
   ·rw [bfA (p:=λ x=>!Go.Sort.ltInt x D[lo]!) (d:=D) (.inr (by show (!_)=false;rw [hp];rfl))] at g3
    repeat' (first|(refine yL ?_;first|refine a0A rfl ?_|(refine oI ?_;refine a8A rfl rfl (λ _=>rfl) rfl rfl _ rfl oZ ?_)|(refine oL ?_;refine amA hoS rfl (λ _=>rfl) rfl oZ ?_;rw [czA])|refine yO ?_|(refine yC ?_ ?_<;>intro hc)|(refine yV ?_;first|(refine oC 171 ?_;refine a3A (f:=171) rfl rfl rfl rfl  (.val (.bool true)) (by intro u1 u2 w e hu1 hu2;(try obtain rfl:u1=_:=hu1);(try obtain rfl:u2=_:=hu2);exact arA (by rw [hp]) (b8A _ _ _)) ?_))|(refine yN hK ?_;clear hK K))|refine wG ?_|(refine yR ?_;intro K hK)|fail)
    (subst g3;exact caA sZ)
  ·rw [bfA (p:=λ x=>!Go.Sort.ltInt x D[lo]!) (d:=D) (.inl hij)] at g3
   subst g3
   repeat' (first|(refine yL ?_;first|refine a0A rfl ?_|refine yO ?_|(refine yC ?_ ?_<;>intro hc)|(refine yN hK ?_;clear hK K))|refine wG ?_|(refine yR ?_;intro K hK)|fail)
   exact caA sZ
 ·rw [if_pos (show i2 > j2 by omega)] at hpe
  rw [hpe];refine anA (j:=j2) rfl heS hoS rfl rfl oZ (λ _=>rfl) (λ wS1 heS1 hoS1=>?_);refine a7A ?_
  repeat' (first|(refine yL ?_;first|refine yB ?_|(refine oD 79 ?_;refine a8A rfl rfl (λ _=>rfl) rfl rfl (lo) oZ oZ ?_)|refine yO ?_|(refine yC ?_ ?_<;>intro hc)|(refine yN hK ?_;clear hK K))|refine wG ?_|(refine yR ?_;intro K hK)|refine wPh ?_|fail)
  refine anA (j:=lo) rfl heS1 hoS1 rfl rfl (by rw [List.length_set];omega) (λ _=>rfl) (λ wS heS hoS=>?_);rw [b6A] at hoS;refine apA ?_
  repeat' (first|(refine yL ?_;first|refine yB ?_|refine yO ?_|(refine yC ?_ ?_<;>intro hc)|(refine yN hK ?_;clear hK K))|refine wG ?_|(refine yR ?_;intro K hK)|refine wPh ?_|fail)
  exact e2A rfl (λ x y w5 e5 hx hy=>by obtain rfl:x=_:=hx;obtain rfl:y=_:=hy;exact ⟨rfl,Ext.trans (by assumption) e5,OwnI.ext (by assumption) e5⟩)
 ·rw [if_neg (show ¬ i2 > j2 by omega)] at hpe
  rw [hpe];refine anA (j:=i2) rfl heS hoS rfl rfl oZ (λ _=>rfl) (λ wS1 heS1 hoS1=>?_);refine a7A ?_
  repeat' (first|(refine yL ?_;first|refine yB ?_|(refine oD 94 ?_;refine a8A rfl rfl (λ _=>rfl) rfl rfl (j2) oZ oZ ?_)|refine yO ?_|(refine yC ?_ ?_<;>intro hc)|(refine yN hK ?_;clear hK K))|refine wG ?_|(refine yR ?_;intro K hK)|refine wPh ?_|fail)
  refine anA (j:=j2) rfl heS1 hoS1 rfl rfl (by rw [List.length_set];omega) (λ _=>rfl) (λ wS heS hoS=>?_);rw [b6A] at hoS;obtain ⟨R,hR⟩:∃ R,R=Go.Sort.partLoop Go.Sort.ltInt lo (i2+1) (j2-1) (Go.Sort.swp D i2 j2):=⟨_,rfl⟩;rw [← hR];refine apA ?_
  repeat' (first|(refine yL ?_;first|refine yB ?_|refine yO ?_|(refine yC ?_ ?_<;>intro hc)|(refine yN hK ?_;clear hK K))|refine wG ?_|(refine yR ?_;intro K hK)|refine wPh ?_|fail)
  refine agA (ι:=Nat × Nat × Array Int) (λ i=>[(0,.val (.slice (some ⟨b,0,none⟩) n cap)),(1,.val (.int .i64 lo)),(2,.val (.int .i64 hi)),(10,.val (.int .i64 (i.1:Int))),(11,.val (.int .i64 (i.2.1:Int)))])
   (λ i w'=>Ext w0 w'∧i.2.2.size=D0.size∧d6A w0 w' b cap n i.2.2∧lo+1≤i.1∧i.1≤i.2.1+2∧lo≤i.2.1∧i.2.1≤hi-1∧Go.Sort.partLoop Go.Sort.ltInt lo i.1 i.2.1 i.2.2=R) (λ i=>i.2.1+2-i.1)
   (λ w2 e2=>⟨(i2+1,j2-1,Go.Sort.swp D i2 j2),⟨heS.trans e2,by dsimp only;rw [swp_size];exact hs,hoS.ext e2,by dsimp only;omega,by dsimp only;omega,by dsimp only;omega,by dsimp only;omega,hR.symm⟩,by dsimp only;exact sZ⟩) ?_
  rintro ⟨ii,jj,D1⟩ w1 ⟨he1,hs1,ho1,c1,c2,c3,c4,c5⟩;dsimp only at hs1 ho1 c1 c2 c3 c4 c5 ⊢;have hl1:=b0A D1;obtain ⟨i3,hi3⟩:∃ i3,i3=Go.Sort.scanUp (λ x=>Go.Sort.ltInt x D1[lo]!) D1 jj ii:=⟨_,rfl⟩;obtain ⟨j3,hj3⟩:∃ j3,j3=Go.Sort.scanDown (λ x=>!Go.Sort.ltInt x D1[lo]!) D1 i3 jj:=⟨_,rfl⟩;have bi3:=djA (λ x=>Go.Sort.ltInt x D1[lo]!) D1 jj _ ii (Nat.le_refl _);have bj3:=cxA (λ x=>!Go.Sort.ltInt x D1[lo]!) D1 i3 jj;rw [← hi3] at bi3;rw [← hj3] at bj3;have hpl:=partLoop_eq (lt:=Go.Sort.ltInt) (a:=lo) hi3 hj3 oZ;rw [hpl] at c5;clear hpl hpe hR heS hoS heS1 hoS1 hD hi2 hj2 bi2 bj2
  repeat' (first|(refine yL ?_;first|refine yB ?_|(refine oI ?_;refine a8A rfl rfl (λ _=>rfl) rfl rfl _ rfl oZ ?_)|(refine oL ?_;refine amA ho1 rfl (λ _=>rfl) rfl oZ ?_;rw [czA])|refine yO ?_|(refine yC ?_ ?_<;>intro hc)|(refine yN hK ?_;clear hK K))|(refine oCX ?_;first|refine dqA 6 [(0,.val (.slice (some ⟨b,0,none⟩) n cap)),(1,.val (.int .i64 lo)),(2,.val (.int .i64 hi)),(10,.val (.int .i64 ((i3:Nat):Int))),(11,.val (.int .i64 ((jj:Nat):Int)))] ?_ ?_|refine dqA 8 [(0,.val (.slice (some ⟨b,0,none⟩) n cap)),(1,.val (.int .i64 lo)),(2,.val (.int .i64 hi)),(10,.val (.int .i64 ((i3:Nat):Int))),(11,.val (.int .i64 ((j3:Nat):Int)))] ?_ ?_|refine aqA (id:=18) [13,15] kZ kZ kZ (a7A ?_)|refine aqA (id:=21) [13,15] kZ kZ kZ (a7A ?_))|refine wG ?_|(refine yR ?_;intro K hK)|refine wPh ?_|fail)
  ·have q0:True:=trivial
   refine b5A (ι:=Nat) (λ i=>[(0,.val (.slice (some ⟨b,0,none⟩) n cap)),(1,.val (.int .i64 lo)),(2,.val (.int .i64 hi)),(10,.val (.int .i64 (i:Int))),(11,.val (.int .i64 ((jj:Nat):Int)))])
    (λ i=>ii≤i∧i≤max (ii) (jj+1)∧Go.Sort.scanUp (λ x=>Go.Sort.ltInt x D1[lo]!) D1 (jj) i=i3) (λ i=>jj+1-i) (ii) ⟨Nat.le_refl _,by omega,by rw [hi3]⟩ sZ ?_
   rintro i ⟨g1,g2,g3⟩;have hl5:=b0A D1
   by_cases hij:i≤jj
   ·cases hp:Go.Sort.ltInt D1[i]! D1[lo]!
    ·rw [bvA (p:=λ x=>Go.Sort.ltInt x D1[lo]!) (d:=D1) (.inr hp)] at g3
     repeat' (first|(refine yL ?_;first|refine a0A rfl ?_|(refine oI ?_;refine a8A rfl rfl (λ _=>rfl) rfl rfl _ rfl oZ ?_)|(refine oL ?_;refine amA ho1 rfl (λ _=>rfl) rfl oZ ?_;rw [czA])|refine yO ?_|(refine yC ?_ ?_<;>intro hc)|(refine yV ?_;first|(refine oC 171 ?_;refine a3A (f:=171) rfl rfl rfl rfl  (.val (.bool false)) (by intro u1 u2 w e hu1 hu2;(try obtain rfl:u1=_:=hu1);(try obtain rfl:u2=_:=hu2);exact arA (by rw [hp]) (b8A _ _ _)) ?_))|(refine yN hK ?_;clear hK K))|refine wG ?_|(refine yR ?_;intro K hK)|fail)
     (subst g3;exact caA sZ)
    ·rw [scanUp_go (p:=λ x=>Go.Sort.ltInt x D1[lo]!) (d:=D1) hij hp] at g3
     repeat' (first|(refine yL ?_;first|refine a0A rfl ?_|(refine oI ?_;refine a8A rfl rfl (λ _=>rfl) rfl rfl _ rfl oZ ?_)|(refine oL ?_;refine amA ho1 rfl (λ _=>rfl) rfl oZ ?_;rw [czA])|refine yO ?_|(refine yC ?_ ?_<;>intro hc)|(refine yV ?_;first|(refine oC 171 ?_;refine a3A (f:=171) rfl rfl rfl rfl  (.val (.bool true)) (by intro u1 u2 w e hu1 hu2;(try obtain rfl:u1=_:=hu1);(try obtain rfl:u2=_:=hu2);exact arA (by rw [hp]) (b8A _ _ _)) ?_))|(refine yN hK ?_;clear hK K))|refine wG ?_|(refine yR ?_;intro K hK)|fail)
     exact bpA (i+1) ⟨by omega,by omega,g3⟩ oZ sZ
   ·rw [bvA (p:=λ x=>Go.Sort.ltInt x D1[lo]!) (d:=D1) (.inl hij)] at g3
    subst g3
    repeat' (first|(refine yL ?_;first|refine a0A rfl ?_|refine yO ?_|(refine yC ?_ ?_<;>intro hc)|(refine yN hK ?_;clear hK K))|refine wG ?_|(refine yR ?_;intro K hK)|fail)
    exact caA sZ
  ·have q0:True:=trivial
   refine b5A (ι:=Nat) (λ j=>[(0,.val (.slice (some ⟨b,0,none⟩) n cap)),(1,.val (.int .i64 lo)),(2,.val (.int .i64 hi)),(10,.val (.int .i64 ((i3:Nat):Int))),(11,.val (.int .i64 (j:Int)))])
    (λ j=>(i3≤j+1∨j=jj)∧j≤jj∧Go.Sort.scanDown (λ x=>!Go.Sort.ltInt x D1[lo]!) D1 (i3) j=j3) (λ j=>j) (jj) ⟨.inr rfl,Nat.le_refl _,by rw [hj3]⟩ sZ ?_
   rintro j ⟨g1,g2,g3⟩;have hl5:=b0A D1
   by_cases hij:i3≤j
   ·obtain ⟨j,rfl⟩:∃ k,j=k+1:=⟨j-1,by omega⟩
    cases hp:Go.Sort.ltInt D1[j+1]! D1[lo]!
    ·rw [scanDown_go (p:=λ x=>!Go.Sort.ltInt x D1[lo]!) (d:=D1) hij (by show (!_)=true;rw [hp];rfl)] at g3
     repeat' (first|(refine yL ?_;first|refine a0A rfl ?_|(refine oI ?_;refine a8A rfl rfl (λ _=>rfl) rfl rfl _ rfl oZ ?_)|(refine oL ?_;refine amA ho1 rfl (λ _=>rfl) rfl oZ ?_;rw [czA])|refine yO ?_|(refine yC ?_ ?_<;>intro hc)|(refine yV ?_;first|(refine oC 171 ?_;refine a3A (f:=171) rfl rfl rfl rfl  (.val (.bool false)) (by intro u1 u2 w e hu1 hu2;(try obtain rfl:u1=_:=hu1);(try obtain rfl:u2=_:=hu2);exact arA (by rw [hp]) (b8A _ _ _)) ?_))|(refine yN hK ?_;clear hK K))|refine wG ?_|(refine yR ?_;intro K hK)|fail)
     exact bpA j ⟨by omega,by omega,g3⟩ oZ sZ
    ·rw [bfA (p:=λ x=>!Go.Sort.ltInt x D1[lo]!) (d:=D1) (.inr (by show (!_)=false;rw [hp];rfl))] at g3
     repeat' (first|(refine yL ?_;first|refine a0A rfl ?_|(refine oI ?_;refine a8A rfl rfl (λ _=>rfl) rfl rfl _ rfl oZ ?_)|(refine oL ?_;refine amA ho1 rfl (λ _=>rfl) rfl oZ ?_;rw [czA])|refine yO ?_|(refine yC ?_ ?_<;>intro hc)|(refine yV ?_;first|(refine oC 171 ?_;refine a3A (f:=171) rfl rfl rfl rfl  (.val (.bool true)) (by intro u1 u2 w e hu1 hu2;(try obtain rfl:u1=_:=hu1);(try obtain rfl:u2=_:=hu2);exact arA (by rw [hp]) (b8A _ _ _)) ?_))|(refine yN hK ?_;clear hK K))|refine wG ?_|(refine yR ?_;intro K hK)|fail)
     (subst g3;exact caA sZ)
   ·rw [bfA (p:=λ x=>!Go.Sort.ltInt x D1[lo]!) (d:=D1) (.inl hij)] at g3
    subst g3
    repeat' (first|(refine yL ?_;first|refine a0A rfl ?_|refine yO ?_|(refine yC ?_ ?_<;>intro hc)|(refine yN hK ?_;clear hK K))|refine wG ?_|(refine yR ?_;intro K hK)|fail)
    exact caA sZ
  ·rw [if_pos (show i3 > j3 by omega)] at c5
   subst c5;refine anA (j:=j3) rfl he1 ho1 rfl rfl oZ (λ _=>rfl) (λ wS1 heS1 hoS1=>?_);refine a7A ?_
   repeat' (first|(refine yL ?_;first|refine yB ?_|(refine oD 166 ?_;refine a8A rfl rfl (λ _=>rfl) rfl rfl (lo) oZ oZ ?_)|refine yO ?_|(refine yC ?_ ?_<;>intro hc)|(refine yN hK ?_;clear hK K))|refine wG ?_|(refine yR ?_;intro K hK)|refine wPh ?_|fail)
   refine anA (j:=lo) rfl heS1 hoS1 rfl rfl (by rw [List.length_set];omega) (λ _=>rfl) (λ wS heS hoS=>?_);rw [b6A] at hoS;refine apA ?_
   repeat' (first|(refine yL ?_;first|refine yB ?_|refine yO ?_|(refine yC ?_ ?_<;>intro hc)|(refine yN hK ?_;clear hK K))|refine wG ?_|(refine yR ?_;intro K hK)|refine wPh ?_|fail)
   exact e2A rfl (λ x y w5 e5 hx hy=>by obtain rfl:x=_:=hx;obtain rfl:y=_:=hy;exact ⟨rfl,Ext.trans (by assumption) e5,OwnI.ext (by assumption) e5⟩)
  ·rw [if_neg (show ¬ i3 > j3 by omega)] at c5
   refine anA (j:=i3) rfl he1 ho1 rfl rfl oZ (λ _=>rfl) (λ wS1 heS1 hoS1=>?_);refine a7A ?_
   repeat' (first|(refine yL ?_;first|refine yB ?_|(refine oD 148 ?_;refine a8A rfl rfl (λ _=>rfl) rfl rfl (j3) oZ oZ ?_)|refine yO ?_|(refine yC ?_ ?_<;>intro hc)|(refine yN hK ?_;clear hK K))|refine wG ?_|(refine yR ?_;intro K hK)|refine wPh ?_|fail)
   refine anA (j:=j3) rfl heS1 hoS1 rfl rfl (by rw [List.length_set];omega) (λ _=>rfl) (λ wS heS hoS=>?_);rw [b6A] at hoS;refine apA ?_
   repeat' (first|(refine yL ?_;first|refine yB ?_|refine yO ?_|(refine yC ?_ ?_<;>intro hc)|(refine yN hK ?_;clear hK K))|refine wG ?_|(refine yR ?_;intro K hK)|refine wPh ?_|fail)
   exact a6A (i3+1,j3-1,Go.Sort.swp D1 i3 j3) (λ w5 e5=>⟨heS.trans e5,by dsimp only;rw [swp_size];exact hs1,hoS.ext e5,by dsimp only;omega,by dsimp only;omega,by dsimp only;omega,by dsimp only;omega,c5⟩) eZ (by dsimp only;exact sZ)
end Srt
end Go.Proofs.YtlnaebejmjmepaaGreatDoor
end
section
namespace Go.Proofs.YtlnaebejmjmepaaGreatDoor
namespace Srt
open Go.LA Go.ArrP Go.RowKit
theorem qbA {w0 w:World} {b cap n:Nat} {D0:Array Int} (he0:Ext w0 w) (ho0:d6A w0 w b cap n D0) (hn:n=D0.size) (lo hi pv:Nat) (h1:lo≤pv) (h2:pv<hi) (h3:hi≤D0.size) (hb:D0.size<4611686018427387904) :
 Fc Tryz.prog 181 #[.slice (some ⟨b,0,none⟩) n cap,.int .i64 lo,.int .i64 hi,.int .i64 pv] w (λ e w'=>e=.returned (.int .i64 ((Go.Sort.partitionEqual Go.Sort.ltInt D0 lo hi pv).1:Int))∧Ext w0 w'∧d6A w0 w' b cap n (Go.Sort.partitionEqual Go.Sort.ltInt D0 lo hi pv).2):=by
 have hl0:=b0A D0;unfold Go.Sort.partitionEqual;refine Fc.of (args:=[_,_,_,_]) Tryz.func181 rfl rfl Tryz.ntmps181 nZ ?_
 repeat' (first|(refine yL ?_;first|refine yB ?_|(refine oI ?_;refine a8A rfl rfl (λ _=>rfl) rfl rfl _ rfl oZ ?_)|(refine oL ?_;refine amA ho0 rfl (λ _=>rfl) rfl oZ ?_;rw [czA])|refine yO ?_|(refine yC ?_ ?_<;>intro hc)|(refine yN hK ?_;clear hK K))|(refine oCX ?_;first|refine aqA (id:=1) [13,15] kZ kZ kZ (a7A ?_))|refine wG ?_|(refine yR ?_;intro K hK)|refine wPh ?_|fail)
 refine anA (j:=lo) rfl he0 ho0 rfl rfl oZ (λ _=>rfl) (λ wS1 heS1 hoS1=>?_);refine a7A ?_
 repeat' (first|(refine yL ?_;first|refine yB ?_|(refine oD 24 ?_;refine a8A rfl rfl (λ _=>rfl) rfl rfl (pv) oZ oZ ?_)|refine yO ?_|(refine yC ?_ ?_<;>intro hc)|(refine yN hK ?_;clear hK K))|refine wG ?_|(refine yR ?_;intro K hK)|refine wPh ?_|fail)
 refine anA (j:=pv) rfl heS1 hoS1 rfl rfl (by rw [List.length_set];omega) (λ _=>rfl) (λ wS heS hoS=>?_);rw [b6A] at hoS;obtain ⟨D,hD⟩:∃ D,D=Go.Sort.swp D0 lo pv:=⟨_,rfl⟩;rw [← hD] at hoS ⊢;have hs:D.size=D0.size:=by rw [hD,swp_size]
 obtain ⟨R,hR⟩:∃ R,R=Go.Sort.partEqLoop Go.Sort.ltInt lo (lo+1) (hi-1) D:=⟨_,rfl⟩;rw [← hR];refine apA ?_
 repeat' (first|(refine yL ?_;first|refine yB ?_|(refine oD 26 ?_;refine beA rfl rfl rfl fZ ?_;rw [show ((lo:Int)+1)=((lo+1:Nat):Int) by omega])|(refine oD 28 ?_;refine abA rfl rfl rfl fZ ?_;rw [show ((hi:Int)-1)=((hi-1:Nat):Int) by omega])|refine yO ?_|(refine yC ?_ ?_<;>intro hc)|(refine yN hK ?_;clear hK K))|refine wG ?_|(refine yR ?_;intro K hK)|refine wPh ?_|fail)
 refine agA (ι:=Nat × Nat × Array Int) (λ i=>[(0,.val (.slice (some ⟨b,0,none⟩) n cap)),(1,.val (.int .i64 lo)),(2,.val (.int .i64 hi)),(9,.val (.int .i64 (i.1:Int))),(10,.val (.int .i64 (i.2.1:Int)))])
  (λ i w'=>Ext w0 w'∧i.2.2.size=D0.size∧d6A w0 w' b cap n i.2.2∧lo+1≤i.1∧i.1≤i.2.1+2∧lo≤i.2.1∧i.2.1≤hi-1∧Go.Sort.partEqLoop Go.Sort.ltInt lo i.1 i.2.1 i.2.2=R) (λ i=>i.2.1+2-i.1)
  (λ w2 e2=>⟨(lo+1,hi-1,D),⟨heS.trans e2,hs,hoS.ext e2,by dsimp only;omega,by dsimp only;omega,by dsimp only;omega,by dsimp only;omega,hR.symm⟩,by dsimp only;exact sZ⟩) ?_
 rintro ⟨ii,jj,D1⟩ w1 ⟨he1,hs1,ho1,c1,c2,c3,c4,c5⟩;dsimp only at hs1 ho1 c1 c2 c3 c4 c5 ⊢;have hl1:=b0A D1;obtain ⟨i3,hi3⟩:∃ i3,i3=Go.Sort.scanUp (λ x=>!Go.Sort.ltInt D1[lo]! x) D1 jj ii:=⟨_,rfl⟩;obtain ⟨j3,hj3⟩:∃ j3,j3=Go.Sort.scanDown (λ x=>Go.Sort.ltInt D1[lo]! x) D1 i3 jj:=⟨_,rfl⟩;have bi3:=djA (λ x=>!Go.Sort.ltInt D1[lo]! x) D1 jj _ ii (Nat.le_refl _);have bj3:=cxA (λ x=>Go.Sort.ltInt D1[lo]! x) D1 i3 jj;rw [← hi3] at bi3;rw [← hj3] at bj3;have hpl:=partEqLoop_eq (lt:=Go.Sort.ltInt) (a:=lo) hi3 hj3 oZ;rw [hpl] at c5;clear hpl hR heS hoS heS1 hoS1 hD
 repeat' (first|(refine yL ?_;first|refine yB ?_|(refine oI ?_;refine a8A rfl rfl (λ _=>rfl) rfl rfl _ rfl oZ ?_)|(refine oL ?_;refine amA ho1 rfl (λ _=>rfl) rfl oZ ?_;rw [czA])|refine yO ?_|(refine yC ?_ ?_<;>intro hc)|(refine yN hK ?_;clear hK K))|(refine oCX ?_;first|refine dqA 2 [(0,.val (.slice (some ⟨b,0,none⟩) n cap)),(1,.val (.int .i64 lo)),(2,.val (.int .i64 hi)),(9,.val (.int .i64 ((i3:Nat):Int))),(10,.val (.int .i64 ((jj:Nat):Int)))] ?_ ?_|refine dqA 4 [(0,.val (.slice (some ⟨b,0,none⟩) n cap)),(1,.val (.int .i64 lo)),(2,.val (.int .i64 hi)),(9,.val (.int .i64 ((i3:Nat):Int))),(10,.val (.int .i64 ((j3:Nat):Int)))] ?_ ?_|refine aqA (id:=8) [13,15] kZ kZ kZ (a7A ?_))|refine wG ?_|(refine yR ?_;intro K hK)|refine wPh ?_|fail)
 ·have q0:True:=trivial
  refine b5A (ι:=Nat) (λ i=>[(0,.val (.slice (some ⟨b,0,none⟩) n cap)),(1,.val (.int .i64 lo)),(2,.val (.int .i64 hi)),(9,.val (.int .i64 (i:Int))),(10,.val (.int .i64 ((jj:Nat):Int)))])
   (λ i=>ii≤i∧i≤max (ii) (jj+1)∧Go.Sort.scanUp (λ x=>!Go.Sort.ltInt D1[lo]! x) D1 (jj) i=i3) (λ i=>jj+1-i) (ii) ⟨Nat.le_refl _,by omega,by rw [hi3]⟩ sZ ?_
  rintro i ⟨g1,g2,g3⟩;have hl5:=b0A D1
  by_cases hij:i≤jj
  ·cases hp:Go.Sort.ltInt D1[lo]! D1[i]!
   ·rw [scanUp_go (p:=λ x=>!Go.Sort.ltInt D1[lo]! x) (d:=D1) hij (by show (!_)=true;rw [hp];rfl)] at g3
    repeat' (first|(refine yL ?_;first|refine a0A rfl ?_|(refine oI ?_;refine a8A rfl rfl (λ _=>rfl) rfl rfl _ rfl oZ ?_)|(refine oL ?_;refine amA ho1 rfl (λ _=>rfl) rfl oZ ?_;rw [czA])|refine yO ?_|(refine yC ?_ ?_<;>intro hc)|(refine yV ?_;first|(refine oC 171 ?_;refine a3A (f:=171) rfl rfl rfl rfl  (.val (.bool false)) (by intro u1 u2 w e hu1 hu2;(try obtain rfl:u1=_:=hu1);(try obtain rfl:u2=_:=hu2);exact arA (by rw [hp]) (b8A _ _ _)) ?_))|(refine yN hK ?_;clear hK K))|refine wG ?_|(refine yR ?_;intro K hK)|fail)
    exact bpA (i+1) ⟨by omega,by omega,g3⟩ oZ sZ
   ·rw [bvA (p:=λ x=>!Go.Sort.ltInt D1[lo]! x) (d:=D1) (.inr (by show (!_)=false;rw [hp];rfl))] at g3
    repeat' (first|(refine yL ?_;first|refine a0A rfl ?_|(refine oI ?_;refine a8A rfl rfl (λ _=>rfl) rfl rfl _ rfl oZ ?_)|(refine oL ?_;refine amA ho1 rfl (λ _=>rfl) rfl oZ ?_;rw [czA])|refine yO ?_|(refine yC ?_ ?_<;>intro hc)|(refine yV ?_;first|(refine oC 171 ?_;refine a3A (f:=171) rfl rfl rfl rfl  (.val (.bool true)) (by intro u1 u2 w e hu1 hu2;(try obtain rfl:u1=_:=hu1);(try obtain rfl:u2=_:=hu2);exact arA (by rw [hp]) (b8A _ _ _)) ?_))|(refine yN hK ?_;clear hK K))|refine wG ?_|(refine yR ?_;intro K hK)|fail)
    (subst g3;exact caA sZ)
  ·rw [bvA (p:=λ x=>!Go.Sort.ltInt D1[lo]! x) (d:=D1) (.inl hij)] at g3
   subst g3
   repeat' (first|(refine yL ?_;first|refine a0A rfl ?_|refine yO ?_|(refine yC ?_ ?_<;>intro hc)|(refine yN hK ?_;clear hK K))|refine wG ?_|(refine yR ?_;intro K hK)|fail)
   exact caA sZ
 ·have q0:True:=trivial
  refine b5A (ι:=Nat) (λ j=>[(0,.val (.slice (some ⟨b,0,none⟩) n cap)),(1,.val (.int .i64 lo)),(2,.val (.int .i64 hi)),(9,.val (.int .i64 ((i3:Nat):Int))),(10,.val (.int .i64 (j:Int)))])
   (λ j=>(i3≤j+1∨j=jj)∧j≤jj∧Go.Sort.scanDown (λ x=>Go.Sort.ltInt D1[lo]! x) D1 (i3) j=j3) (λ j=>j) (jj) ⟨.inr rfl,Nat.le_refl _,by rw [hj3]⟩ sZ ?_
  rintro j ⟨g1,g2,g3⟩;have hl5:=b0A D1
  by_cases hij:i3≤j
  ·obtain ⟨j,rfl⟩:∃ k,j=k+1:=⟨j-1,by omega⟩
   cases hp:Go.Sort.ltInt D1[lo]! D1[j+1]!
   ·rw [bfA (p:=λ x=>Go.Sort.ltInt D1[lo]! x) (d:=D1) (.inr hp)] at g3
    repeat' (first|(refine yL ?_;first|refine a0A rfl ?_|(refine oI ?_;refine a8A rfl rfl (λ _=>rfl) rfl rfl _ rfl oZ ?_)|(refine oL ?_;refine amA ho1 rfl (λ _=>rfl) rfl oZ ?_;rw [czA])|refine yO ?_|(refine yC ?_ ?_<;>intro hc)|(refine yV ?_;first|(refine oC 171 ?_;refine a3A (f:=171) rfl rfl rfl rfl  (.val (.bool false)) (by intro u1 u2 w e hu1 hu2;(try obtain rfl:u1=_:=hu1);(try obtain rfl:u2=_:=hu2);exact arA (by rw [hp]) (b8A _ _ _)) ?_))|(refine yN hK ?_;clear hK K))|refine wG ?_|(refine yR ?_;intro K hK)|fail)
    (subst g3;exact caA sZ)
   ·rw [scanDown_go (p:=λ x=>Go.Sort.ltInt D1[lo]! x) (d:=D1) hij hp] at g3
    repeat' (first|(refine yL ?_;first|refine a0A rfl ?_|(refine oI ?_;refine a8A rfl rfl (λ _=>rfl) rfl rfl _ rfl oZ ?_)|(refine oL ?_;refine amA ho1 rfl (λ _=>rfl) rfl oZ ?_;rw [czA])|refine yO ?_|(refine yC ?_ ?_<;>intro hc)|(refine yV ?_;first|(refine oC 171 ?_;refine a3A (f:=171) rfl rfl rfl rfl  (.val (.bool true)) (by intro u1 u2 w e hu1 hu2;(try obtain rfl:u1=_:=hu1);(try obtain rfl:u2=_:=hu2);exact arA (by rw [hp]) (b8A _ _ _)) ?_))|(refine yN hK ?_;clear hK K))|refine wG ?_|(refine yR ?_;intro K hK)|fail)
    exact bpA j ⟨by omega,by omega,g3⟩ oZ sZ
  ·rw [bfA (p:=λ x=>Go.Sort.ltInt D1[lo]! x) (d:=D1) (.inl hij)] at g3
   subst g3
   repeat' (first|(refine yL ?_;first|refine a0A rfl ?_|refine yO ?_|(refine yC ?_ ?_<;>intro hc)|(refine yN hK ?_;clear hK K))|refine wG ?_|(refine yR ?_;intro K hK)|fail)
   exact caA sZ
 ·rw [if_pos (show i3 > j3 by omega)] at c5
  subst c5
  repeat' (first|(refine yL ?_;first|refine a0A rfl ?_|refine yO ?_|(refine yC ?_ ?_<;>intro hc)|(refine yN hK ?_;clear hK K))|refine wG ?_|(refine yR ?_;intro K hK)|fail)
  exact c6A rfl (λ x w5 e5 hx=>by obtain rfl:x=_:=hx;exact ⟨rfl,Ext.trans (by assumption) e5,OwnI.ext (by assumption) e5⟩)
 ·rw [if_neg (show ¬ i3 > j3 by omega)] at c5
  refine anA (j:=i3) rfl he1 ho1 rfl rfl oZ (λ _=>rfl) (λ wS1 heS1 hoS1=>?_);refine a7A ?_
  repeat' (first|(refine yL ?_;first|refine yB ?_|(refine oD 78 ?_;refine a8A rfl rfl (λ _=>rfl) rfl rfl (j3) oZ oZ ?_)|refine yO ?_|(refine yC ?_ ?_<;>intro hc)|(refine yN hK ?_;clear hK K))|refine wG ?_|(refine yR ?_;intro K hK)|refine wPh ?_|fail)
  refine anA (j:=j3) rfl heS1 hoS1 rfl rfl (by rw [List.length_set];omega) (λ _=>rfl) (λ wS heS hoS=>?_);rw [b6A] at hoS;refine apA ?_
  repeat' (first|(refine yL ?_;first|refine yB ?_|refine yO ?_|(refine yC ?_ ?_<;>intro hc)|(refine yN hK ?_;clear hK K))|refine wG ?_|(refine yR ?_;intro K hK)|refine wPh ?_|fail)
  exact a6A (i3+1,j3-1,Go.Sort.swp D1 i3 j3) (λ w5 e5=>⟨heS.trans e5,by dsimp only;rw [swp_size];exact hs1,hoS.ext e5,by dsimp only;omega,by dsimp only;omega,by dsimp only;omega,by dsimp only;omega,c5⟩) eZ (by dsimp only;exact sZ)
end Srt
end Go.Proofs.YtlnaebejmjmepaaGreatDoor
end
section
namespace Go.Proofs.YtlnaebejmjmepaaGreatDoor
namespace Srt
open Go.LA Go.ArrP Go.RowKit
theorem ttA {w0 w:World} {b cap n:Nat} {D0:Array Int} (he0:Ext w0 w) (ho0:d6A w0 w b cap n D0) (hn:n=D0.size) (lo hi:Nat) (h1:lo<hi) (h2:hi≤D0.size) (hb:D0.size<4611686018427387904) :
 Fc Tryz.prog 180 #[.slice (some ⟨b,0,none⟩) n cap,.int .i64 lo,.int .i64 hi] w (λ e w'=>e=.returned (.bool (Go.Sort.partialInsertionSort Go.Sort.ltInt D0 lo hi).2)∧Ext w0 w'∧d6A w0 w' b cap n (Go.Sort.partialInsertionSort Go.Sort.ltInt D0 lo hi).1):=by
 unfold Go.Sort.partialInsertionSort;obtain ⟨R,hR⟩:∃ R,R=Go.Sort.partialIns Go.Sort.ltInt lo hi 5 (lo+1) D0:=⟨_,rfl⟩;rw [← hR];refine Fc.of (args:=[_,_,_]) Tryz.func180 rfl rfl Tryz.ntmps180 nZ ?_
 repeat' (first|(refine yL ?_;first|refine a0A rfl ?_|(refine oD 12 ?_;refine beA rfl rfl rfl fZ ?_;rw [show ((lo:Int)+1)=((lo+1:Nat):Int) by omega])|refine yO ?_|(refine yC ?_ ?_<;>intro hc)|(refine yN hK ?_;clear hK K))|refine wG ?_|(refine yR ?_;intro K hK)|fail)
 refine agA (ι:=Nat × Nat × Array Int) (λ i=>[(0,.val (.slice (some ⟨b,0,none⟩) n cap)),(1,.val (.int .i64 lo)),(2,.val (.int .i64 hi)),(6,.val (.bool false)),(7,.val (.int .i64 (i.2.1:Int))),(8,.val (.int .i64 (5-(i.1:Int))))])
  (λ i w'=>Ext w0 w'∧i.1≤5∧i.2.2.size=D0.size∧d6A w0 w' b cap n i.2.2∧lo+1≤i.2.1∧i.2.1≤hi∧Go.Sort.partialIns Go.Sort.ltInt lo hi i.1 i.2.1 i.2.2=R) (λ i=>i.1)
  (λ w2 e2=>⟨(5,lo+1,D0),⟨he0.trans e2,Nat.le_refl _,rfl,ho0.ext e2,Nat.le_refl _,by dsimp only;omega,hR.symm⟩,by dsimp only;exact sZ⟩) ?_
 rintro ⟨s,ii,D⟩ w1 ⟨he1,hs5,hs1,ho1,c1,c2,c3⟩;dsimp only at hs5 hs1 ho1 c1 c2 c3 ⊢;have hl1:=b0A D;cases s with
 | zero =>
   rw [Go.Sort.partialIns] at c3;subst c3
   repeat' (first|(refine yL ?_;first|refine a0A rfl ?_|refine yO ?_|(refine yC ?_ ?_<;>intro hc)|(refine yN hK ?_;clear hK K))|refine wG ?_|(refine yR ?_;intro K hK)|fail)
   exact c6A rfl (λ x w5 e5 hx=>by obtain rfl:x=_:=hx;exact ⟨rfl,Ext.trans (by assumption) e5,OwnI.ext (by assumption) e5⟩)
 | succ s =>
 obtain ⟨i3,hi3⟩:∃ i3,i3=Go.Sort.scanSorted Go.Sort.ltInt D hi ii:=⟨_,rfl⟩;have bi3:=Go.Sort.scanSorted_bd (lt:=Go.Sort.ltInt) (d:=D) (b:=hi) _ ii (Nat.le_refl _) c2;rw [← hi3] at bi3
 repeat' (first|(refine yL ?_;first|refine yB ?_|(refine oI ?_;refine a8A rfl rfl (λ _=>rfl) rfl rfl _ rfl oZ ?_)|(refine oL ?_;refine amA ho1 rfl (λ _=>rfl) rfl oZ ?_;rw [czA])|(refine oD 46 ?_;refine abA rfl rfl rfl fZ ?_;rw [show ((i3:Int)-1)=((i3-1:Nat):Int) by omega])|(refine oD 49 ?_;refine abA rfl rfl rfl fZ ?_;rw [show ((i3:Int)-1)=((i3-1:Nat):Int) by omega])|refine yO ?_|(refine yC ?_ ?_<;>intro hc)|(refine yN hK ?_;clear hK K))|(refine oCX ?_;first|refine dqA 2 [(0,.val (.slice (some ⟨b,0,none⟩) n cap)),(1,.val (.int .i64 lo)),(2,.val (.int .i64 hi)),(6,.val (.bool false)),(7,.val (.int .i64 (i3:Nat))),(8,.val (.int .i64 (5-((s+1:Nat):Int))))] ?_ ?_|refine aqA (id:=11) [15,17] kZ kZ kZ (a7A ?_))|refine wG ?_|(refine yR ?_;intro K hK)|refine wPh ?_|fail)
 ·refine b5A (ι:=Nat) (λ i=>[(0,.val (.slice (some ⟨b,0,none⟩) n cap)),(1,.val (.int .i64 lo)),(2,.val (.int .i64 hi)),(6,.val (.bool false)),(7,.val (.int .i64 (i:Nat))),(8,.val (.int .i64 (5-((s+1:Nat):Int))))])
   (λ i=>ii≤i∧i≤hi∧Go.Sort.scanSorted Go.Sort.ltInt D hi i=i3) (λ i=>hi-i) ii ⟨Nat.le_refl _,c2,by rw [hi3]⟩ sZ ?_
  rintro i ⟨g1,g2,g3⟩
  by_cases hij:i<hi
  ·cases hp:Go.Sort.ltInt D[i]! D[i-1]!
   ·rw [Go.Sort.scanSorted_go hij hp] at g3
    repeat' (first|(refine yL ?_;first|refine a0A rfl ?_|(refine oD 27 ?_;refine abA rfl rfl rfl fZ ?_;rw [show ((i:Int)-1)=((i-1:Nat):Int) by omega])|(refine oI ?_;refine a8A rfl rfl (λ _=>rfl) rfl rfl _ rfl oZ ?_)|(refine oL ?_;refine amA ho1 rfl (λ _=>rfl) rfl oZ ?_;rw [czA])|refine yO ?_|(refine yC ?_ ?_<;>intro hc)|(refine yV ?_;first|(refine oC 171 ?_;refine a3A (f:=171) rfl rfl rfl rfl  (.val (.bool false)) (by intro u1 u2 w e hu1 hu2;(try obtain rfl:u1=_:=hu1);(try obtain rfl:u2=_:=hu2);exact arA (by rw [hp]) (b8A _ _ _)) ?_))|(refine yN hK ?_;clear hK K))|refine wG ?_|(refine yR ?_;intro K hK)|fail)
    exact bpA (i+1) ⟨by omega,by omega,g3⟩ oZ sZ
   ·rw [Go.Sort.scanSorted_stop (.inr hp)] at g3
    subst g3
    repeat' (first|(refine yL ?_;first|refine a0A rfl ?_|(refine oD 27 ?_;refine abA rfl rfl rfl fZ ?_;rw [show ((i:Int)-1)=((i-1:Nat):Int) by omega])|(refine oI ?_;refine a8A rfl rfl (λ _=>rfl) rfl rfl _ rfl oZ ?_)|(refine oL ?_;refine amA ho1 rfl (λ _=>rfl) rfl oZ ?_;rw [czA])|refine yO ?_|(refine yC ?_ ?_<;>intro hc)|(refine yV ?_;first|(refine oC 171 ?_;refine a3A (f:=171) rfl rfl rfl rfl  (.val (.bool true)) (by intro u1 u2 w e hu1 hu2;(try obtain rfl:u1=_:=hu1);(try obtain rfl:u2=_:=hu2);exact arA (by rw [hp]) (b8A _ _ _)) ?_))|(refine yN hK ?_;clear hK K))|refine wG ?_|(refine yR ?_;intro K hK)|fail)
    exact caA sZ
  ·rw [Go.Sort.scanSorted_stop (.inl hij)] at g3
   subst g3
   repeat' (first|(refine yL ?_;first|refine a0A rfl ?_|refine yO ?_|(refine yC ?_ ?_<;>intro hc)|(refine yN hK ?_;clear hK K))|refine wG ?_|(refine yR ?_;intro K hK)|fail)
   exact caA sZ
 ·skip
  rw [Go.Sort.pI_end hi3 oZ] at c3;subst c3;exact c6A rfl (λ x w5 e5 hx=>by obtain rfl:x=_:=hx;exact ⟨rfl,Ext.trans (by assumption) e5,OwnI.ext (by assumption) e5⟩)
 ·skip
  rw [Go.Sort.pI_short hi3 oZ oZ] at c3;subst c3;exact c6A rfl (λ x w5 e5 hx=>by obtain rfl:x=_:=hx;exact ⟨rfl,Ext.trans (by assumption) e5,OwnI.ext (by assumption) e5⟩)
 ·skip
  refine anA (j:=i3) rfl he1 ho1 rfl rfl oZ (λ _=>rfl) (λ wS1 heS1 hoS1=>?_);refine a7A ?_
  repeat' (first|(refine yL ?_;first|refine yB ?_|(refine oD 57 ?_;refine a8A rfl rfl (λ _=>rfl) rfl rfl ((i3-1)) oZ oZ ?_)|(refine oD 46 ?_;refine abA rfl rfl rfl fZ ?_;rw [show ((i3:Int)-1)=((i3-1:Nat):Int) by omega])|refine yO ?_|(refine yC ?_ ?_<;>intro hc)|(refine yN hK ?_;clear hK K))|refine wG ?_|(refine yR ?_;intro K hK)|refine wPh ?_|fail)
  refine anA (j:=(i3-1)) rfl heS1 hoS1 rfl rfl (by rw [List.length_set];omega) (λ _=>rfl) (λ wS heS hoS=>?_);rw [b6A] at hoS;obtain ⟨D2,e2⟩:∃ D2,D2=Go.Sort.swp D i3 (i3-1):=⟨_,rfl⟩;obtain ⟨D3,e3⟩:∃ D3,D3=if i3-lo ≥ 2 then Go.Sort.shiftDown Go.Sort.ltInt (i3-1) D2 else D2:=⟨_,rfl⟩
  obtain ⟨D4,e4⟩:∃ D4,D4=if hi-i3 ≥ 2 then Go.Sort.shiftUp Go.Sort.ltInt hi (i3+1) D3 else D3:=⟨_,rfl⟩
  rw [Go.Sort.pI_go hi3 oZ oZ e2 e3 e4] at c3;rw [← e2] at hoS;have hs2:D2.size=D0.size:=by rw [e2,swp_size];exact hs1
  have hs3:D3.size=D0.size:=by rw [e3];split;exact (Go.Sort.shiftDown_size _ _).trans hs2;exact hs2
  have hs4:D4.size=D0.size:=by rw [e4];split;exact (Go.Sort.shiftUp_size _ _ _ (Nat.le_refl _)).trans hs3;exact hs3
  refine apA ?_
  repeat' (first|(refine yL ?_;first|refine yB ?_|(refine oD 63 ?_;refine abA rfl rfl rfl fZ ?_;rw [show ((i3:Int)-1)=((i3-1:Nat):Int) by omega])|refine yO ?_|(refine yC ?_ ?_<;>intro hc)|(refine yN hK ?_;clear hK K))|(refine oCX ?_;first|refine cmA (id:=12) (ι:=Unit) (λ _=>[(0,.val (.slice (some ⟨b,0,none⟩) n cap)),(1,.val (.int .i64 lo)),(2,.val (.int .i64 hi)),(6,.val (.bool false)),(7,.val (.int .i64 (i3:Nat))),(8,.val (.int .i64 (5-((s+1:Nat):Int))))]) (λ _ w'=>Ext w0 w'∧d6A w0 w' b cap n D3) ?_ ?_)|refine wG ?_|(refine yR ?_;intro K hK)|refine wPh ?_|fail)
  ·skip
   rw [if_pos oZ] at e3
   refine agA (ι:=Nat × Array Int) (λ i=>[(0,.val (.slice (some ⟨b,0,none⟩) n cap)),(1,.val (.int .i64 lo)),(2,.val (.int .i64 hi)),(6,.val (.bool false)),(7,.val (.int .i64 (i3:Nat))),(8,.val (.int .i64 (5-((s+1:Nat):Int)))),(9,.val (.int .i64 (i.1:Int)))])
    (λ i w'=>Ext w0 w'∧i.1≤i3-1∧i.2.size=D0.size∧d6A w0 w' b cap n i.2∧Go.Sort.shiftDown Go.Sort.ltInt i.1 i.2=D3) (λ i=>i.1)
    (λ w2 e2=>⟨(i3-1,D2),⟨heS.trans e2,Nat.le_refl _,hs2,hoS.ext e2,e3.symm⟩,by dsimp only;exact sZ⟩) ?_
   rintro ⟨j,D5⟩ w5 ⟨he5,hj5,hs5',ho5,hr5⟩;dsimp only at hj5 hs5' ho5 hr5 ⊢;have hl5:=b0A D5;clear heS hoS heS1 hoS1;cases j with
   | zero =>
     rw [Go.Sort.shiftDown] at hr5;subst hr5
     repeat' (first|(refine yL ?_;first|refine a0A rfl ?_|refine yO ?_|(refine yC ?_ ?_<;>intro hc)|(refine yN hK ?_;clear hK K))|refine wG ?_|(refine yR ?_;intro K hK)|fail)
     exact a6A () (λ w6 e6=>⟨he5.trans e6,ho5.ext e6⟩) oZ sZ
   | succ j =>
     rw [Go.Sort.shiftDown] at hr5;cases hp:Go.Sort.ltInt D5[j+1]! D5[j]!
     ·rw [hp,if_pos (by rfl)] at hr5
      subst hr5
      repeat' (first|(refine yL ?_;first|refine a0A rfl ?_|(refine oD 74 ?_;refine abA rfl rfl rfl fZ ?_;rw [show (((j+1:Nat):Int)-1)=(j:Int) by omega])|(refine oI ?_;refine a8A rfl rfl (λ _=>rfl) rfl rfl _ rfl oZ ?_)|(refine oL ?_;refine amA ho5 rfl (λ _=>rfl) rfl oZ ?_;rw [czA])|refine yO ?_|(refine yC ?_ ?_<;>intro hc)|(refine yV ?_;first|(refine oC 171 ?_;refine a3A (f:=171) rfl rfl rfl rfl  (.val (.bool false)) (by intro u1 u2 w e hu1 hu2;(try obtain rfl:u1=_:=hu1);(try obtain rfl:u2=_:=hu2);exact arA (by rw [hp]) (b8A _ _ _)) ?_))|(refine yN hK ?_;clear hK K))|refine wG ?_|(refine yR ?_;intro K hK)|fail)
      exact a6A () (λ w6 e6=>⟨he5.trans e6,ho5.ext e6⟩) oZ sZ
     ·rw [hp,if_neg (by simp)] at hr5
      repeat' (first|(refine yL ?_;first|refine yB ?_|(refine oD 74 ?_;refine abA rfl rfl rfl fZ ?_;rw [show (((j+1:Nat):Int)-1)=(j:Int) by omega])|(refine oD 83 ?_;refine abA rfl rfl rfl fZ ?_;rw [show (((j+1:Nat):Int)-1)=(j:Int) by omega])|(refine oD 86 ?_;refine abA rfl rfl rfl fZ ?_;rw [show (((j+1:Nat):Int)-1)=(j:Int) by omega])|(refine oI ?_;refine a8A rfl rfl (λ _=>rfl) rfl rfl _ rfl oZ ?_)|(refine oL ?_;refine amA ho5 rfl (λ _=>rfl) rfl oZ ?_;rw [czA])|refine yO ?_|(refine yC ?_ ?_<;>intro hc)|(refine yV ?_;first|(refine oC 171 ?_;refine a3A (f:=171) rfl rfl rfl rfl  (.val (.bool true)) (by intro u1 u2 w e hu1 hu2;(try obtain rfl:u1=_:=hu1);(try obtain rfl:u2=_:=hu2);exact arA (by rw [hp]) (b8A _ _ _)) ?_))|(refine yN hK ?_;clear hK K))|(refine oCX ?_;first|refine aqA (id:=17) [15,17] kZ kZ kZ (a7A ?_))|refine wG ?_|(refine yR ?_;intro K hK)|refine wPh ?_|fail)
      refine anA (j:=(j+1)) rfl he5 ho5 rfl rfl oZ (λ _=>rfl) (λ wS1 heS1 hoS1=>?_);refine a7A ?_
      repeat' (first|(refine yL ?_;first|refine yB ?_|(refine oD 94 ?_;refine a8A rfl rfl (λ _=>rfl) rfl rfl (j) oZ oZ ?_)|(refine oD 83 ?_;refine abA rfl rfl rfl fZ ?_;rw [show (((j+1:Nat):Int)-1)=(j:Int) by omega])|refine yO ?_|(refine yC ?_ ?_<;>intro hc)|(refine yN hK ?_;clear hK K))|refine wG ?_|(refine yR ?_;intro K hK)|refine wPh ?_|fail)
      refine anA (j:=j) rfl heS1 hoS1 rfl rfl (by rw [List.length_set];omega) (λ _=>rfl) (λ wS heS hoS=>?_);rw [b6A] at hoS;refine apA ?_
      repeat' (first|(refine yL ?_;first|refine yB ?_|(refine oD 67 ?_;refine abA rfl rfl rfl fZ ?_;rw [show (((j+1:Nat):Int)-1)=(j:Int) by omega])|refine yO ?_|(refine yC ?_ ?_<;>intro hc)|(refine yN hK ?_;clear hK K))|refine wG ?_|(refine yR ?_;intro K hK)|refine wPh ?_|fail)
      exact a6A (j,Go.Sort.swp D5 (j+1) j) (λ w6 e6=>⟨heS.trans e6,by dsimp only;omega,by dsimp only;rw [swp_size];exact hs5',hoS.ext e6,hr5⟩) eZ (by dsimp only;exact sZ)
  ·skip
   rw [if_neg oZ] at e3;exact a6A () (λ w6 e6=>⟨heS.trans e6,by rw [e3];exact hoS.ext e6⟩) oZ sZ
  ·rintro-wX ⟨heX,hoX⟩
   have hl3:=b0A D3
   repeat' (first|(refine yL ?_;first|refine a0A rfl ?_|(refine oD 100 ?_;refine beA rfl rfl rfl fZ ?_;rw [show ((i3:Int)+1)=((i3+1:Nat):Int) by omega])|refine yO ?_|(refine yC ?_ ?_<;>intro hc)|(refine yN hK ?_;clear hK K))|refine wG ?_|(refine yR ?_;intro K hK)|fail)
   ·skip
    rw [if_pos oZ] at e4
    refine agA (ι:=Nat × Array Int) (λ i=>[(0,.val (.slice (some ⟨b,0,none⟩) n cap)),(1,.val (.int .i64 lo)),(2,.val (.int .i64 hi)),(6,.val (.bool false)),(7,.val (.int .i64 (i3:Nat))),(8,.val (.int .i64 (5-((s+1:Nat):Int)))),(10,.val (.int .i64 (i.1:Int)))])
     (λ i w'=>Ext w0 w'∧i3+1≤i.1∧i.2.size=D0.size∧d6A w0 w' b cap n i.2∧Go.Sort.shiftUp Go.Sort.ltInt hi i.1 i.2=D4) (λ i=>hi-i.1)
     (λ w2 e2=>⟨(i3+1,D3),⟨heX.trans e2,Nat.le_refl _,hs3,hoX.ext e2,e4.symm⟩,by dsimp only;exact sZ⟩) ?_
    rintro ⟨j,D5⟩ w5 ⟨he5,hj5,hs5',ho5,hr5⟩;dsimp only at hj5 hs5' ho5 hr5 ⊢;have hl5:=b0A D5;clear heS hoS heS1 hoS1
    by_cases hjb:j<hi
    ·cases hp:Go.Sort.ltInt D5[j]! D5[j-1]!
     ·rw [Go.Sort.shiftUp_stop (.inr hp)] at hr5
      subst hr5
      repeat' (first|(refine yL ?_;first|refine a0A rfl ?_|(refine oD 112 ?_;refine abA rfl rfl rfl fZ ?_;rw [show ((j:Int)-1)=((j-1:Nat):Int) by omega])|(refine oI ?_;refine a8A rfl rfl (λ _=>rfl) rfl rfl _ rfl oZ ?_)|(refine oL ?_;refine amA ho5 rfl (λ _=>rfl) rfl oZ ?_;rw [czA])|refine yO ?_|(refine yC ?_ ?_<;>intro hc)|(refine yV ?_;first|(refine oC 171 ?_;refine a3A (f:=171) rfl rfl rfl rfl  (.val (.bool false)) (by intro u1 u2 w e hu1 hu2;(try obtain rfl:u1=_:=hu1);(try obtain rfl:u2=_:=hu2);exact arA (by rw [hp]) (b8A _ _ _)) ?_))|(refine yN hK ?_;clear hK K))|refine wG ?_|(refine yR ?_;intro K hK)|fail)
      exact a6A (s,i3,D5) (λ w6 e6=>⟨he5.trans e6,by dsimp only;omega,hs4,ho5.ext e6,by dsimp only;omega,by dsimp only;omega,c3⟩) eZ (by dsimp only;exact sZ)
     ·rw [Go.Sort.shiftUp_go hjb hp] at hr5
      repeat' (first|(refine yL ?_;first|refine yB ?_|(refine oD 112 ?_;refine abA rfl rfl rfl fZ ?_;rw [show ((j:Int)-1)=((j-1:Nat):Int) by omega])|(refine oD 121 ?_;refine abA rfl rfl rfl fZ ?_;rw [show ((j:Int)-1)=((j-1:Nat):Int) by omega])|(refine oD 124 ?_;refine abA rfl rfl rfl fZ ?_;rw [show ((j:Int)-1)=((j-1:Nat):Int) by omega])|(refine oI ?_;refine a8A rfl rfl (λ _=>rfl) rfl rfl _ rfl oZ ?_)|(refine oL ?_;refine amA ho5 rfl (λ _=>rfl) rfl oZ ?_;rw [czA])|refine yO ?_|(refine yC ?_ ?_<;>intro hc)|(refine yV ?_;first|(refine oC 171 ?_;refine a3A (f:=171) rfl rfl rfl rfl  (.val (.bool true)) (by intro u1 u2 w e hu1 hu2;(try obtain rfl:u1=_:=hu1);(try obtain rfl:u2=_:=hu2);exact arA (by rw [hp]) (b8A _ _ _)) ?_))|(refine yN hK ?_;clear hK K))|(refine oCX ?_;first|refine aqA (id:=23) [15,17] kZ kZ kZ (a7A ?_))|refine wG ?_|(refine yR ?_;intro K hK)|refine wPh ?_|fail)
      refine anA (j:=j) rfl he5 ho5 rfl rfl oZ (λ _=>rfl) (λ wS1 heS1 hoS1=>?_);refine a7A ?_
      repeat' (first|(refine yL ?_;first|refine yB ?_|(refine oD 132 ?_;refine a8A rfl rfl (λ _=>rfl) rfl rfl ((j-1)) oZ oZ ?_)|(refine oD 121 ?_;refine abA rfl rfl rfl fZ ?_;rw [show ((j:Int)-1)=((j-1:Nat):Int) by omega])|refine yO ?_|(refine yC ?_ ?_<;>intro hc)|(refine yN hK ?_;clear hK K))|refine wG ?_|(refine yR ?_;intro K hK)|refine wPh ?_|fail)
      refine anA (j:=(j-1)) rfl heS1 hoS1 rfl rfl (by rw [List.length_set];omega) (λ _=>rfl) (λ wS heS hoS=>?_);rw [b6A] at hoS;refine apA ?_
      repeat' (first|(refine yL ?_;first|refine yB ?_|refine yO ?_|(refine yC ?_ ?_<;>intro hc)|(refine yN hK ?_;clear hK K))|refine wG ?_|(refine yR ?_;intro K hK)|refine wPh ?_|fail)
      exact a6A (j+1,Go.Sort.swp D5 j (j-1)) (λ w6 e6=>⟨heS.trans e6,by dsimp only;omega,by dsimp only;rw [swp_size];exact hs5',hoS.ext e6,hr5⟩) eZ (by dsimp only;exact sZ)
    ·rw [Go.Sort.shiftUp_stop (.inl hjb)] at hr5
     subst hr5
     repeat' (first|(refine yL ?_;first|refine a0A rfl ?_|refine yO ?_|(refine yC ?_ ?_<;>intro hc)|(refine yN hK ?_;clear hK K))|refine wG ?_|(refine yR ?_;intro K hK)|fail)
     exact a6A (s,i3,D5) (λ w6 e6=>⟨he5.trans e6,by dsimp only;omega,hs4,ho5.ext e6,by dsimp only;omega,by dsimp only;omega,c3⟩) eZ (by dsimp only;exact sZ)
   ·skip
    rw [if_neg oZ] at e4;rw [e4] at c3;exact a6A (s,i3,D3) (λ w6 e6=>⟨heX.trans e6,by dsimp only;omega,hs3,hoX.ext e6,by dsimp only;omega,by dsimp only;omega,c3⟩) eZ (by dsimp only;exact sZ)
end Srt
end Go.Proofs.YtlnaebejmjmepaaGreatDoor
end
section
namespace Go.Proofs.YtlnaebejmjmepaaGreatDoor
namespace Srt
open Go.LA Go.ArrP Go.RowKit
theorem ykA {w:World} (n:Nat) (hn:n<18446744073709551616):Fc Tryz.prog 162 #[.int .u64 n] w (Ret w (.val (.int .i64 (Go.Sort.bitsLen n:Nat)))):=by
 have D32:∀ m:Nat,4294967296≤m→Go.Sort.bitsLen m=32+Go.Sort.bitsLen (m / 4294967296):=λ m h=>Go.Sort.bitsLen_div (k:=32) h
 have D16:∀ m:Nat,65536≤m→Go.Sort.bitsLen m=16+Go.Sort.bitsLen (m / 65536):=λ m h=>Go.Sort.bitsLen_div (k:=16) h
 have D8:∀ m:Nat,256≤m→Go.Sort.bitsLen m=8+Go.Sort.bitsLen (m / 256):=λ m h=>Go.Sort.bitsLen_div (k:=8) h
 refine Fc.of (args:=[_]) Tryz.func162 rfl rfl Tryz.ntmps162 nZ ?_
 repeat' (first|(refine yL ?_;first|refine a0A rfl ?_|(refine oD 22 ?_;refine c2B rfl rfl rfl rfl oZ oZ (by decide +kernel) (λ vT hT hT8=>?_))|refine yO ?_|(refine yC ?_ ?_<;>intro hc)|(refine yN hK ?_;clear hK K))|refine wG ?_|(refine yR ?_;intro K hK)|fail)
 all_goals (refine a9A rfl rfl (Ext.refl _) ?_;congr 1)
 ·have z:((n:Int) / 4294967296 / 65536 / 256).toNat=n / 4294967296 / 65536 / 256:=oZ
  rw [z] at hT;have z2:Go.Sort.bitsLen n=56+Go.Sort.bitsLen (n / 4294967296 / 65536 / 256):=by (rw [D32 _ oZ,D16 _ oZ,D8 _ oZ]) <;> omega
  omega
 ·have z:((n:Int) / 4294967296 / 65536).toNat=n / 4294967296 / 65536:=oZ
  rw [z] at hT;have z2:Go.Sort.bitsLen n=48+Go.Sort.bitsLen (n / 4294967296 / 65536):=by (rw [D32 _ oZ,D16 _ oZ]) <;> omega
  omega
 ·have z:((n:Int) / 4294967296 / 256).toNat=n / 4294967296 / 256:=oZ
  rw [z] at hT;have z2:Go.Sort.bitsLen n=40+Go.Sort.bitsLen (n / 4294967296 / 256):=by (rw [D32 _ oZ,D8 _ oZ]) <;> omega
  omega
 ·have z:((n:Int) / 4294967296).toNat=n / 4294967296:=oZ
  rw [z] at hT;have z2:Go.Sort.bitsLen n=32+Go.Sort.bitsLen (n / 4294967296):=by (rw [D32 _ oZ]) <;> omega
  omega
 ·have z:((n:Int) / 65536 / 256).toNat=n / 65536 / 256:=oZ
  rw [z] at hT;have z2:Go.Sort.bitsLen n=24+Go.Sort.bitsLen (n / 65536 / 256):=by (rw [D16 _ oZ,D8 _ oZ]) <;> omega
  omega
 ·have z:((n:Int) / 65536).toNat=n / 65536:=oZ
  rw [z] at hT;have z2:Go.Sort.bitsLen n=16+Go.Sort.bitsLen (n / 65536):=by (rw [D16 _ oZ]) <;> omega
  omega
 ·have z:((n:Int) / 256).toNat=n / 256:=oZ
  rw [z] at hT;have z2:Go.Sort.bitsLen n=8+Go.Sort.bitsLen (n / 256):=by (rw [D8 _ oZ]) <;> omega
  omega
 ·have z:((n:Int)).toNat=n:=oZ
  rw [z] at hT;have z2:Go.Sort.bitsLen n=0+Go.Sort.bitsLen (n):=oZ;omega
theorem hkA {w:World} (n:Nat) (hn:n<18446744073709551616):Fc Tryz.prog 111 #[.int .u64 n] w (Ret w (.val (.int .i64 (Go.Sort.bitsLen n:Nat)))):=by
 refine Fc.of (args:=[_]) Tryz.func111 rfl rfl Tryz.ntmps111 nZ ?_
 repeat' (first|(refine yL ?_;first|refine a0A rfl ?_|refine yO ?_|(refine yC ?_ ?_<;>intro hc)|(refine yV ?_;first|(refine oC 162 ?_;refine a2A (f:=162) rfl rfl rfl  (.val (.int .i64 (Go.Sort.bitsLen n:Nat))) (by intro u1 w e hu1;(try obtain rfl:u1=_:=hu1);exact ykA n hn) ?_))|(refine yN hK ?_;clear hK K))|refine wG ?_|(refine yR ?_;intro K hK)|fail)
 exact a9A rfl rfl (Ext.refl _) rfl
theorem wgA {w:World} (n:Nat) (hn:n<4611686018427387904):Fc Tryz.prog 185 #[.int .i64 n] w (Ret w (.val (.int .u64 ((2 ^ Go.Sort.bitsLen n:Nat):Int)))):=by
 have hb:=(Go.Sort.bitsLen_le_iff n 62).2 oZ;refine Fc.of (args:=[_]) Tryz.func185 rfl rfl Tryz.ntmps185 nZ ?_
 repeat' (first|(refine yL ?_;first|refine a0A rfl ?_|refine yO ?_|(refine yC ?_ ?_<;>intro hc)|(refine yV ?_;first|(refine oC 111 ?_;refine a2A (f:=111) rfl rfl rfl  (.val (.int .i64 (Go.Sort.bitsLen n:Nat))) (by intro u1 w e hu1;(try obtain rfl:u1=_:=hu1);exact hkA n oZ) ?_))|(refine yN hK ?_;clear hK K))|refine wG ?_|(refine yR ?_;intro K hK)|fail)
 refine a9A rfl rfl (Ext.refl _) ?_
 congr 1;rw [IntKind.wrap_u64,Int.toNat_natCast,Int.one_mul];have:=Nat.pow_le_pow_right (n:=2) oZ hb;rw [show ((2:Int) ^ Go.Sort.bitsLen n)=((2 ^ Go.Sort.bitsLen n:Nat):Int) by push_cast;rfl]
 generalize 2 ^ Go.Sort.bitsLen n=p at *
 omega
end Srt
end Go.Proofs.YtlnaebejmjmepaaGreatDoor
end
