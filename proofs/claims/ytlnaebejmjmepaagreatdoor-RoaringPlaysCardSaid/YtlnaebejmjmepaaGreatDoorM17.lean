import Derived.Test.YtlnaebejmjmepaaGreatDoorM16
set_option linter.unusedSimpArgs false
set_option linter.unusedVariables false
set_option maxRecDepth 3000
set_option maxHeartbeats 16000000
section
namespace Go.Proofs.YtlnaebejmjmepaaGreatDoor
namespace Srt
open Go.LA Go.ArrP Go.RowKit
theorem yaA (w:World) (a:Int):Fc Tryz.prog 189 #[.int .u32 a] w (Ret w (.val (.bool false))):=by
 refine Fc.of (args:=[_]) Tryz.func189 rfl rfl Tryz.ntmps189 nZ ?_
 repeat' (first|(refine yL ?_;first|refine a0A rfl ?_|refine yO ?_|(refine yC ?_ ?_<;>intro hc)|(refine yN hK ?_;clear hK K))|refine wG ?_|(refine yR ?_;intro K hK)|fail)
 exact a9A rfl rfl (Ext.refl _) rfl
theorem b7A (w:World) (a b:Int):Fc Tryz.prog 158 #[.int .u32 a,.int .u32 b] w (Ret w (.val (.bool (Go.Sort.ltInt a b)))):=by
 refine Fc.of (args:=[_,_]) Tryz.func158 rfl rfl Tryz.ntmps158 nZ ?_
 repeat' (first|(refine yL ?_;first|refine a0A rfl ?_|refine yO ?_|(refine yC ?_ ?_<;>intro hc)|(refine yV ?_;first|(refine oC 189 ?_;refine a2A (f:=189) rfl rfl rfl  (.val (.bool false)) (by intro u1 w e hu1;(try obtain rfl:u1=_:=hu1);exact yaA _ _) ?_))|(refine yN hK ?_;clear hK K))|refine wG ?_|(refine yR ?_;intro K hK)|fail)
 all_goals (refine a9A rfl rfl (Ext.refl _) ?_;unfold Go.Sort.ltInt;simp [hc])
abbrev d5A (w0 w:World) (b cap n:Nat) (D:Array Int):Prop:=OwnI w0.heap.size 49 .u32 w (.slice (some ⟨b,0,none⟩) n cap) D.toList
def viA (w0:World) (b cap n:Nat) (D:Array Int):Ending→World→Prop:=λ e w'=>e=.returned (.tuple #[])∧Ext w0 w'∧d5A w0 w' b cap n D
theorem yqA {w0 w:World} {b cap n:Nat} {D:Array Int} (he0:Ext w0 w) (ho0:d5A w0 w b cap n D) (hn:n=D.size) (lo hi:Nat) (h1:lo≤hi) (h2:hi≤D.size) (hb:D.size<4611686018427387904) :
 Fc Tryz.prog 152 #[.slice (some ⟨b,0,none⟩) n cap,.int .i64 lo,.int .i64 hi] w (viA w0 b cap n (Go.Sort.insertionSort Go.Sort.ltInt D lo hi)):=by
 refine Fc.of (args:=[_,_,_]) Tryz.func152 rfl rfl Tryz.ntmps152 nZ ?_
 repeat' (first|(refine yL ?_;first|refine a0A rfl ?_|refine yO ?_|(refine yC ?_ ?_<;>intro hc)|(refine yN hK ?_;clear hK K))|refine wG ?_|(refine yR ?_;intro K hK)|fail)
 refine agA (ι:=Nat × Array Int) (λ i=>[(0,.val (.slice (some ⟨b,0,none⟩) n cap)),(1,.val (.int .i64 lo)),(2,.val (.int .i64 hi)),(6,.val (.int .i64 (i.1:Int)))])
  (λ i w'=>Ext w0 w'∧lo+1≤i.1∧i.1≤hi+1∧i.2.size=D.size∧d5A w0 w' b cap n i.2∧Go.Sort.insOuter Go.Sort.ltInt lo hi i.1 i.2=Go.Sort.insertionSort Go.Sort.ltInt D lo hi) (λ i=>hi+1-i.1)
  (λ w2 e2=>⟨(lo+1,D),⟨he0.trans e2,Nat.le_refl _,by dsimp only;omega,rfl,ho0.ext e2,rfl⟩,sZ⟩) ?_
 rintro ⟨i,D1⟩ w1 ⟨he1,hi1,hi2,hs1,ho1,hr1⟩;dsimp only at hi1 hi2 hs1 ho1 hr1 ⊢
 by_cases hlt:i<hi
 ·rw [Go.Sort.insOuter,if_pos hlt] at hr1
  repeat' (first|(refine yL ?_;first|refine a0A rfl ?_|refine yO ?_|(refine yC ?_ ?_<;>intro hc)|(refine yN hK ?_;clear hK K))|refine wG ?_|(refine yR ?_;intro K hK)|fail)
  refine agA (ι:=Nat × Array Int) (λ j=>[(0,.val (.slice (some ⟨b,0,none⟩) n cap)),(1,.val (.int .i64 lo)),(2,.val (.int .i64 hi)),(6,.val (.int .i64 (i:Int))),(7,.val (.int .i64 (j.1:Int)))])
   (λ j w'=>Ext w0 w'∧j.1≤i∧j.2.size=D.size∧d5A w0 w' b cap n j.2∧Go.Sort.insOuter Go.Sort.ltInt lo hi (i+1) (Go.Sort.insInner Go.Sort.ltInt lo j.1 j.2)=Go.Sort.insertionSort Go.Sort.ltInt D lo hi) (λ j=>j.1)
   (λ w2 e2=>⟨(i,D1),⟨he1.trans e2,Nat.le_refl _,hs1,ho1.ext e2,hr1⟩,sZ⟩) ?_
  rintro ⟨j,D2⟩ w2 ⟨he2,hj1,hs2,ho2,hr2⟩;dsimp only at hj1 hs2 ho2 hr2 ⊢;have hl2:=b0A D2;cases j with
  | zero =>
    repeat' (first|(refine yL ?_;first|refine a0A rfl ?_|refine yO ?_|(refine yC ?_ ?_<;>intro hc)|(refine yN hK ?_;clear hK K))|refine wG ?_|(refine yR ?_;intro K hK)|fail)
    exact a6A (i+1,D2) (λ w5 e5=>⟨he2.trans e5,by dsimp only;omega,by dsimp only;omega,hs2,ho2.ext e5,hr2⟩) eZ sZ
  | succ j =>
    by_cases hjl:lo<j+1
    ·cases hl:Go.Sort.ltInt D2[j+1]! D2[j]!
     ·have hr3:Go.Sort.insInner Go.Sort.ltInt lo (j+1) D2=D2:=by rw [Go.Sort.insInner,hl];simp
      rw [hr3] at hr2
      repeat' (first|(refine yL ?_;first|refine a0A rfl ?_|(refine oI ?_;refine a8A rfl rfl (λ _=>rfl) rfl rfl _ rfl oZ ?_)|(refine oL ?_;refine amA ho2 rfl (λ _=>rfl) rfl oZ ?_;rw [czA])|(refine oD 27 ?_;refine a8A rfl rfl (λ _=>rfl) rfl rfl j oZ oZ ?_)|refine yO ?_|(refine yC ?_ ?_<;>intro hc)|(refine yV ?_;first|(refine oC 158 ?_;refine a3A (f:=158) rfl rfl rfl rfl  (.val (.bool false)) (by intro u1 u2 w e hu1 hu2;(try obtain rfl:u1=_:=hu1);(try obtain rfl:u2=_:=hu2);exact arA (by rw [hl]) (b7A _ _ _)) ?_))|(refine yN hK ?_;clear hK K))|refine wG ?_|(refine yR ?_;intro K hK)|fail)
      exact a6A (i+1,D2) (λ w5 e5=>⟨he2.trans e5,by dsimp only;omega,by dsimp only;omega,hs2,ho2.ext e5,hr2⟩) eZ sZ
     ·have hr3:Go.Sort.insInner Go.Sort.ltInt lo (j+1) D2=Go.Sort.insInner Go.Sort.ltInt lo j (Go.Sort.swp D2 (j+1) j):=by rw [Go.Sort.insInner,hl];simp [hjl]
      rw [hr3] at hr2
      repeat' (first|(refine yL ?_;first|refine yB ?_|(refine oI ?_;refine a8A rfl rfl (λ _=>rfl) rfl rfl _ rfl oZ ?_)|(refine oL ?_;refine amA ho2 rfl (λ _=>rfl) rfl oZ ?_;rw [czA])|(refine oD 27 ?_;refine a8A rfl rfl (λ _=>rfl) rfl rfl j oZ oZ ?_)|(refine oD 41 ?_;refine a8A rfl rfl (λ _=>rfl) rfl rfl j oZ oZ ?_)|refine yO ?_|(refine yC ?_ ?_<;>intro hc)|(refine yV ?_;first|(refine oC 158 ?_;refine a3A (f:=158) rfl rfl rfl rfl  (.val (.bool true)) (by intro u1 u2 w e hu1 hu2;(try obtain rfl:u1=_:=hu1);(try obtain rfl:u2=_:=hu2);exact arA (by rw [hl]) (b7A _ _ _)) ?_))|(refine yN hK ?_;clear hK K))|(refine oCX ?_;first|refine aqA (id:=6) [15,17] kZ kZ kZ (a7A ?_))|refine wG ?_|(refine yR ?_;intro K hK)|refine wPh ?_|fail)
      refine anA (j:=j+1) rfl he2 ho2 rfl rfl oZ (λ _=>rfl) (λ wS1 heS1 hoS1=>?_);refine a7A ?_
      repeat' (first|(refine yL ?_;first|refine yB ?_|(refine oD 48 ?_;refine a8A rfl rfl (λ _=>rfl) rfl rfl (j) oZ oZ ?_)|refine yO ?_|(refine yC ?_ ?_<;>intro hc)|(refine yN hK ?_;clear hK K))|refine wG ?_|(refine yR ?_;intro K hK)|refine wPh ?_|fail)
      refine anA (j:=j) rfl heS1 hoS1 rfl rfl (by rw [List.length_set];omega) (λ _=>rfl) (λ wS heS hoS=>?_);rw [b6A] at hoS;refine apA ?_
      repeat' (first|(refine yL ?_;first|refine yB ?_|refine yO ?_|(refine yC ?_ ?_<;>intro hc)|(refine yN hK ?_;clear hK K))|refine wG ?_|(refine yR ?_;intro K hK)|refine wPh ?_|fail)
      exact a6A (j,Go.Sort.swp D2 (j+1) j) (λ w5 e5=>⟨heS.trans e5,by dsimp only;omega,by dsimp only;rw [swp_size];exact hs2,hoS.ext e5,hr2⟩) eZ sZ
    ·have hr3:Go.Sort.insInner Go.Sort.ltInt lo (j+1) D2=D2:=by rw [Go.Sort.insInner];simp [hjl]
     rw [hr3] at hr2
     repeat' (first|(refine yL ?_;first|refine a0A rfl ?_|refine yO ?_|(refine yC ?_ ?_<;>intro hc)|(refine yN hK ?_;clear hK K))|refine wG ?_|(refine yR ?_;intro K hK)|fail)
     exact a6A (i+1,D2) (λ w5 e5=>⟨he2.trans e5,by dsimp only;omega,by dsimp only;omega,hs2,ho2.ext e5,hr2⟩) eZ sZ
 ·rw [Go.Sort.insOuter,if_neg hlt] at hr1
  repeat' (first|(refine yL ?_;first|refine a0A rfl ?_|refine yO ?_|(refine yC ?_ ?_<;>intro hc)|(refine yN hK ?_;clear hK K))|refine wG ?_|(refine yR ?_;intro K hK)|fail)
  refine bdA rfl (λ w5 e5=>⟨rfl,he1.trans e5,hr1▸ho1.ext e5⟩) (.inl rfl)
theorem n7A {w0 w:World} {b cap n:Nat} {D:Array Int} (he0:Ext w0 w) (ho0:d5A w0 w b cap n D) (hn:n=D.size) (lo hi first:Nat) (h1:lo≤hi) (h2:first+hi≤D.size) (hb:D.size<4611686018427387904) :
 Fc Tryz.prog 184 #[.slice (some ⟨b,0,none⟩) n cap,.int .i64 lo,.int .i64 hi,.int .i64 first] w (viA w0 b cap n (Go.Sort.siftDown Go.Sort.ltInt hi first lo D)):=by
 refine Fc.of (args:=[_,_,_,_]) Tryz.func184 rfl rfl Tryz.ntmps184 nZ ?_
 repeat' (first|(refine yL ?_;first|refine a0A rfl ?_|refine yO ?_|(refine yC ?_ ?_<;>intro hc)|(refine yN hK ?_;clear hK K))|refine wG ?_|(refine yR ?_;intro K hK)|fail)
 refine agA (ι:=Nat × Array Int) (λ i=>[(0,.val (.slice (some ⟨b,0,none⟩) n cap)),(2,.val (.int .i64 hi)),(3,.val (.int .i64 first)),(8,.val (.int .i64 (i.1:Int)))])
  (λ i w'=>Ext w0 w'∧i.1≤hi∧i.2.size=D.size∧d5A w0 w' b cap n i.2∧Go.Sort.siftDown Go.Sort.ltInt hi first i.1 i.2=Go.Sort.siftDown Go.Sort.ltInt hi first lo D) (λ i=>hi-i.1)
  (λ w2 e2=>⟨(lo,D),⟨he0.trans e2,h1,rfl,ho0.ext e2,rfl⟩,sZ⟩) ?_
 rintro ⟨r,D1⟩ w1 ⟨he1,hr0,hs1,ho1,hr1⟩;dsimp only at hr0 hs1 ho1 hr1 ⊢;have hl1:=b0A D1
 by_cases hlt:2*r+1 ≥ hi
 ·have hst:Go.Sort.siftDown Go.Sort.ltInt hi first r D1=D1:=by rw [Go.Sort.siftDown,dif_pos hlt]
  rw [hst] at hr1
  repeat' (first|(refine yL ?_;first|refine a0A rfl ?_|refine yO ?_|(refine yC ?_ ?_<;>intro hc)|(refine yN hK ?_;clear hK K))|refine wG ?_|(refine yR ?_;intro K hK)|fail)
  exact bdA rfl (λ w5 e5=>⟨rfl,he1.trans e5,hr1▸ho1.ext e5⟩) (.inl rfl)
 ·by_cases h22:2*r+1+1<hi
  ·cases hll:Go.Sort.ltInt D1[first+(2*r+1)]! D1[first+(2*r+1)+1]!
   ·have q0:True:=trivial
    have hgo:=sift_go (lt:=Go.Sort.ltInt) (hi:=hi) (first:=first) (d:=D1) (r:=r) (c:=2*r+1) oZ (by rw [hll];simp);cases hl:Go.Sort.ltInt D1[first+r]! D1[first+(2*r+1)]!
    ·rw [hl] at hgo
     simp only [Bool.false_eq_true,if_false] at hgo;rw [hgo] at hr1
     repeat' (first|(refine yL ?_;first|refine a0A rfl ?_|(refine oD 35 ?_;refine oC 158 ?_;refine a3A (f:=158) rfl rfl rfl rfl  (.val (.bool false)) (by intro u1 u2 w e hu1 hu2;(try obtain rfl:u1=_:=hu1);(try obtain rfl:u2=_:=hu2);exact arA (by rw [hll]) (b7A _ _ _)) ?_)|(refine oD 26 ?_;refine a8A rfl rfl (λ _=>rfl) rfl rfl (first+(2*r+1)) oZ oZ ?_)|(refine oD 33 ?_;refine a8A rfl rfl (λ _=>rfl) rfl rfl (first+(2*r+1)+1) oZ oZ ?_)|(refine oD 43 ?_;refine a8A rfl rfl (λ _=>rfl) rfl rfl (first+r) oZ oZ ?_)|(refine oD 49 ?_;refine a8A rfl rfl (λ _=>rfl) rfl rfl (first+(2*r+1)) oZ oZ ?_)|(refine oL ?_;refine amA ho1 rfl (λ _=>rfl) rfl oZ ?_;rw [czA])|(refine oD 51 ?_;refine oC 158 ?_;refine a3A (f:=158) rfl rfl rfl rfl  (.val (.bool false)) (by intro u1 u2 w e hu1 hu2;(try obtain rfl:u1=_:=hu1);(try obtain rfl:u2=_:=hu2);exact arA (by rw [hl]) (b7A _ _ _)) ?_)|refine yO ?_|(refine yC ?_ ?_<;>intro hc)|(refine yN hK ?_;clear hK K))|refine wG ?_|(refine yR ?_;intro K hK)|fail)
     exact bdA rfl (λ w5 e5=>⟨rfl,he1.trans e5,hr1▸ho1.ext e5⟩) (.inr rfl)
    ·rw [hl] at hgo
     simp only [if_true] at hgo;rw [hgo] at hr1
     repeat' (first|(refine yL ?_;first|refine yB ?_|(refine oD 35 ?_;refine oC 158 ?_;refine a3A (f:=158) rfl rfl rfl rfl  (.val (.bool false)) (by intro u1 u2 w e hu1 hu2;(try obtain rfl:u1=_:=hu1);(try obtain rfl:u2=_:=hu2);exact arA (by rw [hll]) (b7A _ _ _)) ?_)|(refine oD 26 ?_;refine a8A rfl rfl (λ _=>rfl) rfl rfl (first+(2*r+1)) oZ oZ ?_)|(refine oD 33 ?_;refine a8A rfl rfl (λ _=>rfl) rfl rfl (first+(2*r+1)+1) oZ oZ ?_)|(refine oD 43 ?_;refine a8A rfl rfl (λ _=>rfl) rfl rfl (first+r) oZ oZ ?_)|(refine oD 49 ?_;refine a8A rfl rfl (λ _=>rfl) rfl rfl (first+(2*r+1)) oZ oZ ?_)|(refine oD 65 ?_;refine a8A rfl rfl (λ _=>rfl) rfl rfl (first+(2*r+1)) oZ oZ ?_)|(refine oD 71 ?_;refine a8A rfl rfl (λ _=>rfl) rfl rfl (first+r) oZ oZ ?_)|(refine oD 73 ?_;refine a8A rfl rfl (λ _=>rfl) rfl rfl (first+r) oZ oZ ?_)|(refine oL ?_;refine amA ho1 rfl (λ _=>rfl) rfl oZ ?_;rw [czA])|(refine oD 51 ?_;refine oC 158 ?_;refine a3A (f:=158) rfl rfl rfl rfl  (.val (.bool true)) (by intro u1 u2 w e hu1 hu2;(try obtain rfl:u1=_:=hu1);(try obtain rfl:u2=_:=hu2);exact arA (by rw [hl]) (b7A _ _ _)) ?_)|refine yO ?_|(refine yC ?_ ?_<;>intro hc)|(refine yN hK ?_;clear hK K))|(refine oCX ?_;first|refine aqA (id:=6) [21,23] kZ kZ kZ (a7A ?_))|refine wG ?_|(refine yR ?_;intro K hK)|refine wPh ?_|fail)
     refine anA (j:=first+r) rfl he1 ho1 rfl rfl oZ (λ _=>rfl) (λ wS1 heS1 hoS1=>?_);refine a7A ?_
     repeat' (first|(refine yL ?_;first|refine yB ?_|(refine oD 74 ?_;refine a8A rfl rfl (λ _=>rfl) rfl rfl (first+(2*r+1)) oZ oZ ?_)|refine yO ?_|(refine yC ?_ ?_<;>intro hc)|(refine yN hK ?_;clear hK K))|refine wG ?_|(refine yR ?_;intro K hK)|refine wPh ?_|fail)
     refine anA (j:=first+(2*r+1)) rfl heS1 hoS1 rfl rfl (by rw [List.length_set];omega) (λ _=>rfl) (λ wS heS hoS=>?_);rw [b6A] at hoS;refine apA ?_
     repeat' (first|(refine yL ?_;first|refine yB ?_|refine yO ?_|(refine yC ?_ ?_<;>intro hc)|(refine yN hK ?_;clear hK K))|refine wG ?_|(refine yR ?_;intro K hK)|refine wPh ?_|fail)
     exact a6A (2*r+1,Go.Sort.swp D1 (first+r) (first+(2*r+1))) (λ w5 e5=>⟨heS.trans e5,by dsimp only;omega,by dsimp only;rw [swp_size];exact hs1,hoS.ext e5,hr1⟩) eZ sZ
   ·have q0:True:=trivial
    have hgo:=sift_go (lt:=Go.Sort.ltInt) (hi:=hi) (first:=first) (d:=D1) (r:=r) (c:=2*r+2) oZ (by rw [hll];simp [h22]);cases hl:Go.Sort.ltInt D1[first+r]! D1[first+(2*r+2)]!
    ·rw [hl] at hgo
     simp only [Bool.false_eq_true,if_false] at hgo;rw [hgo] at hr1
     repeat' (first|(refine yL ?_;first|refine a0A rfl ?_|(refine oD 35 ?_;refine oC 158 ?_;refine a3A (f:=158) rfl rfl rfl rfl  (.val (.bool true)) (by intro u1 u2 w e hu1 hu2;(try obtain rfl:u1=_:=hu1);(try obtain rfl:u2=_:=hu2);exact arA (by rw [hll]) (b7A _ _ _)) ?_)|(refine oD 26 ?_;refine a8A rfl rfl (λ _=>rfl) rfl rfl (first+(2*r+1)) oZ oZ ?_)|(refine oD 33 ?_;refine a8A rfl rfl (λ _=>rfl) rfl rfl (first+(2*r+1)+1) oZ oZ ?_)|(refine oD 43 ?_;refine a8A rfl rfl (λ _=>rfl) rfl rfl (first+r) oZ oZ ?_)|(refine oD 49 ?_;refine a8A rfl rfl (λ _=>rfl) rfl rfl (first+(2*r+2)) oZ oZ ?_)|(refine oL ?_;refine amA ho1 rfl (λ _=>rfl) rfl oZ ?_;rw [czA])|(refine oD 51 ?_;refine oC 158 ?_;refine a3A (f:=158) rfl rfl rfl rfl  (.val (.bool false)) (by intro u1 u2 w e hu1 hu2;(try obtain rfl:u1=_:=hu1);(try obtain rfl:u2=_:=hu2);exact arA (by rw [hl]) (b7A _ _ _)) ?_)|refine yO ?_|(refine yC ?_ ?_<;>intro hc)|(refine yN hK ?_;clear hK K))|refine wG ?_|(refine yR ?_;intro K hK)|fail)
     exact bdA rfl (λ w5 e5=>⟨rfl,he1.trans e5,hr1▸ho1.ext e5⟩) (.inr rfl)
    ·rw [hl] at hgo
     simp only [if_true] at hgo;rw [hgo] at hr1
     repeat' (first|(refine yL ?_;first|refine yB ?_|(refine oD 35 ?_;refine oC 158 ?_;refine a3A (f:=158) rfl rfl rfl rfl  (.val (.bool true)) (by intro u1 u2 w e hu1 hu2;(try obtain rfl:u1=_:=hu1);(try obtain rfl:u2=_:=hu2);exact arA (by rw [hll]) (b7A _ _ _)) ?_)|(refine oD 26 ?_;refine a8A rfl rfl (λ _=>rfl) rfl rfl (first+(2*r+1)) oZ oZ ?_)|(refine oD 33 ?_;refine a8A rfl rfl (λ _=>rfl) rfl rfl (first+(2*r+1)+1) oZ oZ ?_)|(refine oD 43 ?_;refine a8A rfl rfl (λ _=>rfl) rfl rfl (first+r) oZ oZ ?_)|(refine oD 49 ?_;refine a8A rfl rfl (λ _=>rfl) rfl rfl (first+(2*r+2)) oZ oZ ?_)|(refine oD 65 ?_;refine a8A rfl rfl (λ _=>rfl) rfl rfl (first+(2*r+2)) oZ oZ ?_)|(refine oD 71 ?_;refine a8A rfl rfl (λ _=>rfl) rfl rfl (first+r) oZ oZ ?_)|(refine oD 73 ?_;refine a8A rfl rfl (λ _=>rfl) rfl rfl (first+r) oZ oZ ?_)|(refine oL ?_;refine amA ho1 rfl (λ _=>rfl) rfl oZ ?_;rw [czA])|(refine oD 51 ?_;refine oC 158 ?_;refine a3A (f:=158) rfl rfl rfl rfl  (.val (.bool true)) (by intro u1 u2 w e hu1 hu2;(try obtain rfl:u1=_:=hu1);(try obtain rfl:u2=_:=hu2);exact arA (by rw [hl]) (b7A _ _ _)) ?_)|refine yO ?_|(refine yC ?_ ?_<;>intro hc)|(refine yN hK ?_;clear hK K))|(refine oCX ?_;first|refine aqA (id:=6) [21,23] kZ kZ kZ (a7A ?_))|refine wG ?_|(refine yR ?_;intro K hK)|refine wPh ?_|fail)
     refine anA (j:=first+r) rfl he1 ho1 rfl rfl oZ (λ _=>rfl) (λ wS1 heS1 hoS1=>?_);refine a7A ?_
     repeat' (first|(refine yL ?_;first|refine yB ?_|(refine oD 74 ?_;refine a8A rfl rfl (λ _=>rfl) rfl rfl (first+(2*r+2)) oZ oZ ?_)|refine yO ?_|(refine yC ?_ ?_<;>intro hc)|(refine yN hK ?_;clear hK K))|refine wG ?_|(refine yR ?_;intro K hK)|refine wPh ?_|fail)
     refine anA (j:=first+(2*r+2)) rfl heS1 hoS1 rfl rfl (by rw [List.length_set];omega) (λ _=>rfl) (λ wS heS hoS=>?_);rw [b6A] at hoS;refine apA ?_
     repeat' (first|(refine yL ?_;first|refine yB ?_|refine yO ?_|(refine yC ?_ ?_<;>intro hc)|(refine yN hK ?_;clear hK K))|refine wG ?_|(refine yR ?_;intro K hK)|refine wPh ?_|fail)
     exact a6A (2*r+2,Go.Sort.swp D1 (first+r) (first+(2*r+2))) (λ w5 e5=>⟨heS.trans e5,by dsimp only;omega,by dsimp only;rw [swp_size];exact hs1,hoS.ext e5,hr1⟩) eZ sZ
  ·have q0:True:=trivial
   have hgo:=sift_go (lt:=Go.Sort.ltInt) (hi:=hi) (first:=first) (d:=D1) (r:=r) (c:=2*r+1) oZ (by simp [h22]);cases hl:Go.Sort.ltInt D1[first+r]! D1[first+(2*r+1)]!
   ·rw [hl] at hgo
    simp only [Bool.false_eq_true,if_false] at hgo;rw [hgo] at hr1
    repeat' (first|(refine yL ?_;first|refine a0A rfl ?_|(refine oD 26 ?_;refine a8A rfl rfl (λ _=>rfl) rfl rfl (first+(2*r+1)) oZ oZ ?_)|(refine oD 33 ?_;refine a8A rfl rfl (λ _=>rfl) rfl rfl (first+(2*r+1)+1) oZ oZ ?_)|(refine oD 43 ?_;refine a8A rfl rfl (λ _=>rfl) rfl rfl (first+r) oZ oZ ?_)|(refine oD 49 ?_;refine a8A rfl rfl (λ _=>rfl) rfl rfl (first+(2*r+1)) oZ oZ ?_)|(refine oL ?_;refine amA ho1 rfl (λ _=>rfl) rfl oZ ?_;rw [czA])|(refine oD 51 ?_;refine oC 158 ?_;refine a3A (f:=158) rfl rfl rfl rfl  (.val (.bool false)) (by intro u1 u2 w e hu1 hu2;(try obtain rfl:u1=_:=hu1);(try obtain rfl:u2=_:=hu2);exact arA (by rw [hl]) (b7A _ _ _)) ?_)|refine yO ?_|(refine yC ?_ ?_<;>intro hc)|(refine yN hK ?_;clear hK K))|refine wG ?_|(refine yR ?_;intro K hK)|fail)
    exact bdA rfl (λ w5 e5=>⟨rfl,he1.trans e5,hr1▸ho1.ext e5⟩) (.inr rfl)
   ·rw [hl] at hgo
    simp only [if_true] at hgo;rw [hgo] at hr1
    repeat' (first|(refine yL ?_;first|refine yB ?_|(refine oD 26 ?_;refine a8A rfl rfl (λ _=>rfl) rfl rfl (first+(2*r+1)) oZ oZ ?_)|(refine oD 33 ?_;refine a8A rfl rfl (λ _=>rfl) rfl rfl (first+(2*r+1)+1) oZ oZ ?_)|(refine oD 43 ?_;refine a8A rfl rfl (λ _=>rfl) rfl rfl (first+r) oZ oZ ?_)|(refine oD 49 ?_;refine a8A rfl rfl (λ _=>rfl) rfl rfl (first+(2*r+1)) oZ oZ ?_)|(refine oD 65 ?_;refine a8A rfl rfl (λ _=>rfl) rfl rfl (first+(2*r+1)) oZ oZ ?_)|(refine oD 71 ?_;refine a8A rfl rfl (λ _=>rfl) rfl rfl (first+r) oZ oZ ?_)|(refine oD 73 ?_;refine a8A rfl rfl (λ _=>rfl) rfl rfl (first+r) oZ oZ ?_)|(refine oL ?_;refine amA ho1 rfl (λ _=>rfl) rfl oZ ?_;rw [czA])|(refine oD 51 ?_;refine oC 158 ?_;refine a3A (f:=158) rfl rfl rfl rfl  (.val (.bool true)) (by intro u1 u2 w e hu1 hu2;(try obtain rfl:u1=_:=hu1);(try obtain rfl:u2=_:=hu2);exact arA (by rw [hl]) (b7A _ _ _)) ?_)|refine yO ?_|(refine yC ?_ ?_<;>intro hc)|(refine yN hK ?_;clear hK K))|(refine oCX ?_;first|refine aqA (id:=6) [21,23] kZ kZ kZ (a7A ?_))|refine wG ?_|(refine yR ?_;intro K hK)|refine wPh ?_|fail)
    refine anA (j:=first+r) rfl he1 ho1 rfl rfl oZ (λ _=>rfl) (λ wS1 heS1 hoS1=>?_);refine a7A ?_
    repeat' (first|(refine yL ?_;first|refine yB ?_|(refine oD 74 ?_;refine a8A rfl rfl (λ _=>rfl) rfl rfl (first+(2*r+1)) oZ oZ ?_)|refine yO ?_|(refine yC ?_ ?_<;>intro hc)|(refine yN hK ?_;clear hK K))|refine wG ?_|(refine yR ?_;intro K hK)|refine wPh ?_|fail)
    refine anA (j:=first+(2*r+1)) rfl heS1 hoS1 rfl rfl (by rw [List.length_set];omega) (λ _=>rfl) (λ wS heS hoS=>?_);rw [b6A] at hoS;refine apA ?_
    repeat' (first|(refine yL ?_;first|refine yB ?_|refine yO ?_|(refine yC ?_ ?_<;>intro hc)|(refine yN hK ?_;clear hK K))|refine wG ?_|(refine yR ?_;intro K hK)|refine wPh ?_|fail)
    exact a6A (2*r+1,Go.Sort.swp D1 (first+r) (first+(2*r+1))) (λ w5 e5=>⟨heS.trans e5,by dsimp only;omega,by dsimp only;rw [swp_size];exact hs1,hoS.ext e5,hr1⟩) eZ sZ
theorem ulA {w0 w:World} {b cap n:Nat} {D:Array Int} (he0:Ext w0 w) (ho0:d5A w0 w b cap n D) (hn:n=D.size) (lo hi:Nat) (h1:lo≤hi) (h2:hi≤D.size) (hb:D.size<4611686018427387904) :
 Fc Tryz.prog 153 #[.slice (some ⟨b,0,none⟩) n cap,.int .i64 lo,.int .i64 hi] w (viA w0 b cap n (Go.Sort.heapSort Go.Sort.ltInt D lo hi)):=by
 obtain ⟨m,hm⟩:∃ m:Nat,m=hi-lo:=⟨_,rfl⟩;have hmi:(hi:Int)-(lo:Int)=(m:Int):=oZ;have hhalf:=nsA m oZ;unfold Go.Sort.heapSort;rw [← hm];refine Fc.of (args:=[_,_,_]) Tryz.func153 rfl rfl Tryz.ntmps153 nZ ?_
 repeat' (first|(refine yL ?_;first|refine a0A rfl ?_|(refine oD 14 ?_;refine abA rfl rfl rfl (by rw [hmi];dsimp only [fits];omega) ?_;rw [hmi])|(refine oD 17 ?_;refine seA rfl rfl rfl dZ ?_;rw [hhalf])|refine yO ?_|(refine yC ?_ ?_<;>intro hc)|(refine yN hK ?_;clear hK K))|refine wG ?_|(refine yR ?_;intro K hK)|fail)
 refine agA (ι:=Nat × Array Int) (λ i=>[(0,.val (.slice (some ⟨b,0,none⟩) n cap)),(6,.val (.int .i64 lo)),(7,.val (.int .i64 0)),(8,.val (.int .i64 m)),(9,.val (.int .i64 ((i.1:Int)-1)))])
  (λ i w'=>Ext w0 w'∧i.1≤(m-1) / 2+1∧i.2.size=D.size∧d5A w0 w' b cap n i.2∧Go.Sort.heapBuild Go.Sort.ltInt m lo i.1 i.2=Go.Sort.heapBuild Go.Sort.ltInt m lo ((m-1) / 2+1) D) (λ i=>i.1)
  (λ w2 e2=>⟨((m-1) / 2+1,D),⟨he0.trans e2,Nat.le_refl _,rfl,ho0.ext e2,rfl⟩,sZ⟩) ?_
 rintro ⟨i,D1⟩ w1 ⟨he1,hi0,hs1,ho1,hr1⟩;dsimp only at hi0 hs1 ho1 hr1 ⊢;cases i with
 | succ i =>
   rw [Go.Sort.heapBuild] at hr1
   repeat' (first|(refine yL ?_;first|refine a0A rfl ?_|(refine oD 26 ?_;refine a4A (hK _ _ (faA (f:=184) (λ w'=>Ext w0 w'∧d5A w0 w' b cap n (Go.Sort.siftDown Go.Sort.ltInt m lo i D1)) (λ w' e=>by rw [show (((i+1:Nat):Int)-1)=(i:Int) by omega];exact n7A (he1.trans e) (ho1.ext e) (hn.trans hs1.symm) i m lo oZ oZ oZ) rfl dZ rfl rfl rfl rfl rfl (λ w2 hw2=>?_)));clear hK K;obtain ⟨he2,ho2⟩:=hw2)|refine yO ?_|(refine yC ?_ ?_<;>intro hc)|(refine yN hK ?_;clear hK K))|refine wG ?_|(refine yR ?_;intro K hK)|fail)
   exact a6A (i,Go.Sort.siftDown Go.Sort.ltInt m lo i D1) (λ w5 e5=>⟨he2.trans e5,by dsimp only;omega,(sift_size _ _ _ (Nat.le_refl _)).trans hs1,ho2.ext e5,hr1⟩) eZ sZ
 | zero =>
   rw [Go.Sort.heapBuild] at hr1;rw [← hr1]
   repeat' (first|(refine yL ?_;first|refine a0A rfl ?_|refine yO ?_|(refine yC ?_ ?_<;>intro hc)|(refine yN hK ?_;clear hK K))|refine wG ?_|(refine yR ?_;intro K hK)|fail)
   refine agA (ι:=Nat × Array Int) (λ i=>[(0,.val (.slice (some ⟨b,0,none⟩) n cap)),(6,.val (.int .i64 lo)),(7,.val (.int .i64 0)),(10,.val (.int .i64 ((i.1:Int)-1)))])
    (λ i w'=>Ext w0 w'∧i.1≤m∧i.2.size=D.size∧d5A w0 w' b cap n i.2∧Go.Sort.heapPop Go.Sort.ltInt lo i.1 i.2=Go.Sort.heapPop Go.Sort.ltInt lo m D1) (λ i=>i.1)
    (λ w2 e2=>⟨(m,D1),⟨he1.trans e2,Nat.le_refl _,hs1,ho1.ext e2,rfl⟩,sZ⟩) ?_
   rintro ⟨i,D2⟩ w2 ⟨he2,hi2,hs2,ho2,hr2⟩;dsimp only at hi2 hs2 ho2 hr2 ⊢;have hl2:=b0A D2;cases i with
   | succ i =>
     rw [Go.Sort.heapPop] at hr2
     repeat' (first|(refine yL ?_;first|refine yB ?_|(refine oD 43 ?_;refine a8A rfl rfl (λ _=>rfl) rfl rfl (lo+i) oZ oZ ?_)|(refine oD 47 ?_;refine a8A rfl rfl (λ _=>rfl) rfl rfl lo rfl oZ ?_)|(refine oD 49 ?_;refine a8A rfl rfl (λ _=>rfl) rfl rfl lo rfl oZ ?_)|(refine oL ?_;refine amA ho2 rfl (λ _=>rfl) rfl oZ ?_;rw [czA])|refine yO ?_|(refine yC ?_ ?_<;>intro hc)|(refine yN hK ?_;clear hK K))|(refine oCX ?_;first|refine aqA (id:=10) [17,19] kZ kZ kZ (a7A ?_))|refine wG ?_|(refine yR ?_;intro K hK)|refine wPh ?_|fail)
     refine anA (j:=lo) rfl he2 ho2 rfl rfl oZ (λ _=>rfl) (λ wS1 heS1 hoS1=>?_);refine a7A ?_
     repeat' (first|(refine yL ?_;first|refine yB ?_|(refine oD 50 ?_;refine a8A rfl rfl (λ _=>rfl) rfl rfl (lo+i) oZ oZ ?_)|refine yO ?_|(refine yC ?_ ?_<;>intro hc)|(refine yN hK ?_;clear hK K))|refine wG ?_|(refine yR ?_;intro K hK)|refine wPh ?_|fail)
     refine anA (j:=lo+i) rfl heS1 hoS1 rfl rfl (by rw [List.length_set];omega) (λ _=>rfl) (λ wS heS hoS=>?_);rw [b6A] at hoS;refine apA ?_
     repeat' (first|(refine yL ?_;first|refine yB ?_|refine yO ?_|(refine yC ?_ ?_<;>intro hc)|(refine yN hK ?_;clear hK K))|refine wG ?_|(refine yR ?_;intro K hK)|refine wPh ?_|fail)
     repeat' (first|(refine yL ?_;first|refine a0A rfl ?_|(refine oD 55 ?_;refine a4A (hK _ _ (faA (f:=184) (λ w'=>Ext w0 w'∧d5A w0 w' b cap n (Go.Sort.siftDown Go.Sort.ltInt i lo 0 (Go.Sort.swp D2 lo (lo+i)))) (λ w' e=>by rw [show (((i+1:Nat):Int)-1)=(i:Int) by omega];exact n7A (heS.trans e) (hoS.ext e) (by rw [swp_size];omega) 0 i lo oZ (by rw [swp_size];omega) (by rw [swp_size];omega)) rfl dZ rfl rfl rfl rfl rfl (λ w3 hw3=>?_)));clear hK K;obtain ⟨he3,ho3⟩:=hw3)|refine yO ?_|(refine yC ?_ ?_<;>intro hc)|(refine yN hK ?_;clear hK K))|refine wG ?_|(refine yR ?_;intro K hK)|fail)
     exact a6A (i,Go.Sort.siftDown Go.Sort.ltInt i lo 0 (Go.Sort.swp D2 lo (lo+i))) (λ w5 e5=>⟨he3.trans e5,by dsimp only;omega,(sift_size _ _ _ (Nat.le_refl _)).trans ((swp_size _ _ _).trans hs2),ho3.ext e5,hr2⟩) eZ sZ
   | zero =>
     rw [Go.Sort.heapPop] at hr2
     repeat' (first|(refine yL ?_;first|refine a0A rfl ?_|refine yO ?_|(refine yC ?_ ?_<;>intro hc)|(refine yN hK ?_;clear hK K))|refine wG ?_|(refine yR ?_;intro K hK)|fail)
     exact bdA rfl (λ w5 e5=>⟨rfl,he2.trans e5,hr2▸ho2.ext e5⟩) (.inl rfl)
theorem xuA {w0 w:World} {b cap n:Nat} {D:Array Int} (he0:Ext w0 w) (ho0:d5A w0 w b cap n D) (hn:n=D.size) (lo hi:Nat) (h1:lo<hi) (h2:hi≤D.size) (hb:D.size<4611686018427387904) :
 Fc Tryz.prog 156 #[.slice (some ⟨b,0,none⟩) n cap,.int .i64 lo,.int .i64 hi] w (viA w0 b cap n (Go.Sort.reverseRange D lo hi)):=by
 unfold Go.Sort.reverseRange;refine Fc.of (args:=[_,_,_]) Tryz.func156 rfl rfl Tryz.ntmps156 nZ ?_
 repeat' (first|(refine yL ?_;first|refine a0A rfl ?_|refine yO ?_|(refine yC ?_ ?_<;>intro hc)|(refine yN hK ?_;clear hK K))|refine wG ?_|(refine yR ?_;intro K hK)|fail)
 rw [show ((hi:Int)-1)=((hi-1:Nat):Int) by omega]
 refine agA (ι:=Nat × Nat × Array Int) (λ i=>[(0,.val (.slice (some ⟨b,0,none⟩) n cap)),(6,.val (.int .i64 (i.1:Int))),(7,.val (.int .i64 (i.2.1:Int)))])
  (λ i w'=>Ext w0 w'∧i.1≤hi∧i.2.1<hi∧i.2.2.size=D.size∧d5A w0 w' b cap n i.2.2∧Go.Sort.reverseLoop i.1 i.2.1 i.2.2=Go.Sort.reverseLoop lo (hi-1) D) (λ i=>i.2.1-i.1)
  (λ w2 e2=>⟨(lo,hi-1,D),⟨he0.trans e2,by dsimp only;omega,by dsimp only;omega,rfl,ho0.ext e2,rfl⟩,sZ⟩) ?_
 rintro ⟨i,j,D1⟩ w1 ⟨he1,hi0,hj0,hs1,ho1,hr1⟩;dsimp only at hi0 hj0 hs1 ho1 hr1 ⊢;have hl1:=b0A D1
 by_cases hlt:i<j
 ·rw [Go.Sort.reverseLoop,if_pos hlt] at hr1
  repeat' (first|(refine yL ?_;first|refine yB ?_|(refine oI ?_;refine a8A rfl rfl (λ _=>rfl) rfl rfl _ rfl oZ ?_)|(refine oL ?_;refine amA ho1 rfl (λ _=>rfl) rfl oZ ?_;rw [czA])|refine yO ?_|(refine yC ?_ ?_<;>intro hc)|(refine yN hK ?_;clear hK K))|(refine oCX ?_;first|refine aqA (id:=3) [13,15] kZ kZ kZ (a7A ?_))|refine wG ?_|(refine yR ?_;intro K hK)|refine wPh ?_|fail)
  refine anA (j:=i) rfl he1 ho1 rfl rfl oZ (λ _=>rfl) (λ wS1 heS1 hoS1=>?_);refine a7A ?_
  repeat' (first|(refine yL ?_;first|refine yB ?_|(refine oD 27 ?_;refine a8A rfl rfl (λ _=>rfl) rfl rfl (j) oZ oZ ?_)|refine yO ?_|(refine yC ?_ ?_<;>intro hc)|(refine yN hK ?_;clear hK K))|refine wG ?_|(refine yR ?_;intro K hK)|refine wPh ?_|fail)
  refine anA (j:=j) rfl heS1 hoS1 rfl rfl (by rw [List.length_set];omega) (λ _=>rfl) (λ wS heS hoS=>?_);rw [b6A] at hoS;refine apA ?_
  repeat' (first|(refine yL ?_;first|refine yB ?_|refine yO ?_|(refine yC ?_ ?_<;>intro hc)|(refine yN hK ?_;clear hK K))|refine wG ?_|(refine yR ?_;intro K hK)|refine wPh ?_|fail)
  exact a6A (i+1,j-1,Go.Sort.swp D1 i j) (λ w5 e5=>⟨heS.trans e5,by dsimp only;omega,by dsimp only;omega,by dsimp only;rw [swp_size];exact hs1,hoS.ext e5,hr1⟩) eZ (by dsimp only;exact sZ)
 ·rw [Go.Sort.reverseLoop,if_neg hlt] at hr1
  repeat' (first|(refine yL ?_;first|refine a0A rfl ?_|refine yO ?_|(refine yC ?_ ?_<;>intro hc)|(refine yN hK ?_;clear hK K))|refine wG ?_|(refine yR ?_;intro K hK)|fail)
  exact bdA rfl (λ w5 e5=>⟨rfl,he1.trans e5,hr1▸ho1.ext e5⟩) (.inl rfl)
theorem twA {w0 w:World} {b cap n:Nat} {D0:Array Int} (he0:Ext w0 w) (ho0:d5A w0 w b cap n D0) (hn:n=D0.size) (lo hi pv:Nat) (h1:lo≤pv) (h2:pv<hi) (h3:hi≤D0.size) (hb:D0.size<4611686018427387904) :
 Fc Tryz.prog 160 #[.slice (some ⟨b,0,none⟩) n cap,.int .i64 lo,.int .i64 hi,.int .i64 pv] w (λ e w'=>e=.returned (.tuple #[.int .i64 ((Go.Sort.partition Go.Sort.ltInt D0 lo hi pv).1:Int),.bool (Go.Sort.partition Go.Sort.ltInt D0 lo hi pv).2.1])∧Ext w0 w'∧d5A w0 w' b cap n (Go.Sort.partition Go.Sort.ltInt D0 lo hi pv).2.2):=by
 have hl0:=b0A D0;refine Fc.of (args:=[_,_,_,_]) Tryz.func160 rfl rfl Tryz.ntmps160 nZ ?_
 repeat' (first|(refine yL ?_;first|refine yB ?_|(refine oI ?_;refine a8A rfl rfl (λ _=>rfl) rfl rfl _ rfl oZ ?_)|(refine oL ?_;refine amA ho0 rfl (λ _=>rfl) rfl oZ ?_;rw [czA])|refine yO ?_|(refine yC ?_ ?_<;>intro hc)|(refine yN hK ?_;clear hK K))|(refine oCX ?_;first|refine aqA (id:=1) [13,15] kZ kZ kZ (a7A ?_))|refine wG ?_|(refine yR ?_;intro K hK)|refine wPh ?_|fail)
 refine anA (j:=lo) rfl he0 ho0 rfl rfl oZ (λ _=>rfl) (λ wS1 heS1 hoS1=>?_);refine a7A ?_
 repeat' (first|(refine yL ?_;first|refine yB ?_|(refine oD 25 ?_;refine a8A rfl rfl (λ _=>rfl) rfl rfl (pv) oZ oZ ?_)|refine yO ?_|(refine yC ?_ ?_<;>intro hc)|(refine yN hK ?_;clear hK K))|refine wG ?_|(refine yR ?_;intro K hK)|refine wPh ?_|fail)
 refine anA (j:=pv) rfl heS1 hoS1 rfl rfl (by rw [List.length_set];omega) (λ _=>rfl) (λ wS heS hoS=>?_);rw [b6A] at hoS;obtain ⟨D,hD⟩:∃ D,D=Go.Sort.swp D0 lo pv:=⟨_,rfl⟩;rw [← hD] at hoS;have hs:D.size=D0.size:=by rw [hD,swp_size]
 have hl:=b0A D;obtain ⟨i2,hi2⟩:∃ i2,i2=Go.Sort.scanUp (λ x=>Go.Sort.ltInt x D[lo]!) D (hi-1) (lo+1):=⟨_,rfl⟩;obtain ⟨j2,hj2⟩:∃ j2,j2=Go.Sort.scanDown (λ x=>!Go.Sort.ltInt x D[lo]!) D i2 (hi-1):=⟨_,rfl⟩;have bi2:=djA (λ x=>Go.Sort.ltInt x D[lo]!) D (hi-1) _ (lo+1) (Nat.le_refl _);have bj2:=cxA (λ x=>!Go.Sort.ltInt x D[lo]!) D i2 (hi-1);rw [← hi2] at bi2;rw [← hj2] at bj2;have hpe:=q9A (lt:=Go.Sort.ltInt) hD hi2 hj2;refine apA ?_
 repeat' (first|(refine yL ?_;first|refine yB ?_|(refine oD 27 ?_;refine beA rfl rfl rfl fZ ?_;rw [show ((lo:Int)+1)=((lo+1:Nat):Int) by omega])|(refine oD 29 ?_;refine abA rfl rfl rfl fZ ?_;rw [show ((hi:Int)-1)=((hi-1:Nat):Int) by omega])|(refine oI ?_;refine a8A rfl rfl (λ _=>rfl) rfl rfl _ rfl oZ ?_)|(refine oL ?_;refine amA hoS rfl (λ _=>rfl) rfl oZ ?_;rw [czA])|refine yO ?_|(refine yC ?_ ?_<;>intro hc)|(refine yN hK ?_;clear hK K))|(refine oCX ?_;first|refine dqA 0 [(0,.val (.slice (some ⟨b,0,none⟩) n cap)),(1,.val (.int .i64 lo)),(2,.val (.int .i64 hi)),(10,.val (.int .i64 ((i2:Nat):Int))),(11,.val (.int .i64 ((hi-1:Nat):Int)))] ?_ ?_|refine dqA 2 [(0,.val (.slice (some ⟨b,0,none⟩) n cap)),(1,.val (.int .i64 lo)),(2,.val (.int .i64 hi)),(10,.val (.int .i64 ((i2:Nat):Int))),(11,.val (.int .i64 ((j2:Nat):Int)))] ?_ ?_|refine aqA (id:=8) [13,15] kZ kZ kZ (a7A ?_)|refine aqA (id:=10) [13,15] kZ kZ kZ (a7A ?_))|refine wG ?_|(refine yR ?_;intro K hK)|refine wPh ?_|fail)
 ·have q0:True:=trivial
  refine b5A (ι:=Nat) (λ i=>[(0,.val (.slice (some ⟨b,0,none⟩) n cap)),(1,.val (.int .i64 lo)),(2,.val (.int .i64 hi)),(10,.val (.int .i64 (i:Int))),(11,.val (.int .i64 ((hi-1:Nat):Int)))])
   (λ i=>lo+1≤i∧i≤max (lo+1) (hi-1+1)∧Go.Sort.scanUp (λ x=>Go.Sort.ltInt x D[lo]!) D (hi-1) i=i2) (λ i=>hi-1+1-i) (lo+1) ⟨Nat.le_refl _,by omega,by rw [hi2]⟩ sZ ?_
  rintro i ⟨g1,g2,g3⟩;have hl5:=b0A D
  by_cases hij:i≤hi-1
  ·cases hp:Go.Sort.ltInt D[i]! D[lo]!
   ·rw [bvA (p:=λ x=>Go.Sort.ltInt x D[lo]!) (d:=D) (.inr hp)] at g3
    repeat' (first|(refine yL ?_;first|refine a0A rfl ?_|(refine oI ?_;refine a8A rfl rfl (λ _=>rfl) rfl rfl _ rfl oZ ?_)|(refine oL ?_;refine amA hoS rfl (λ _=>rfl) rfl oZ ?_;rw [czA])|refine yO ?_|(refine yC ?_ ?_<;>intro hc)|(refine yV ?_;first|(refine oC 158 ?_;refine a3A (f:=158) rfl rfl rfl rfl  (.val (.bool false)) (by intro u1 u2 w e hu1 hu2;(try obtain rfl:u1=_:=hu1);(try obtain rfl:u2=_:=hu2);exact arA (by rw [hp]) (b7A _ _ _)) ?_))|(refine yN hK ?_;clear hK K))|refine wG ?_|(refine yR ?_;intro K hK)|fail)
    (subst g3;exact caA sZ)
   ·rw [scanUp_go (p:=λ x=>Go.Sort.ltInt x D[lo]!) (d:=D) hij hp] at g3
    repeat' (first|(refine yL ?_;first|refine a0A rfl ?_|(refine oI ?_;refine a8A rfl rfl (λ _=>rfl) rfl rfl _ rfl oZ ?_)|(refine oL ?_;refine amA hoS rfl (λ _=>rfl) rfl oZ ?_;rw [czA])|refine yO ?_|(refine yC ?_ ?_<;>intro hc)|(refine yV ?_;first|(refine oC 158 ?_;refine a3A (f:=158) rfl rfl rfl rfl  (.val (.bool true)) (by intro u1 u2 w e hu1 hu2;(try obtain rfl:u1=_:=hu1);(try obtain rfl:u2=_:=hu2);exact arA (by rw [hp]) (b7A _ _ _)) ?_))|(refine yN hK ?_;clear hK K))|refine wG ?_|(refine yR ?_;intro K hK)|fail)
    exact bpA (i+1) ⟨by omega,by omega,g3⟩ oZ sZ
  ·rw [bvA (p:=λ x=>Go.Sort.ltInt x D[lo]!) (d:=D) (.inl hij)] at g3
   subst g3
   repeat' (first|(refine yL ?_;first|refine a0A rfl ?_|refine yO ?_|(refine yC ?_ ?_<;>intro hc)|(refine yN hK ?_;clear hK K))|refine wG ?_|(refine yR ?_;intro K hK)|fail)
   exact caA sZ
 ·have q0:True:=trivial
  refine b5A (ι:=Nat) (λ j=>[(0,.val (.slice (some ⟨b,0,none⟩) n cap)),(1,.val (.int .i64 lo)),(2,.val (.int .i64 hi)),(10,.val (.int .i64 ((i2:Nat):Int))),(11,.val (.int .i64 (j:Int)))])
   (λ j=>(i2≤j+1∨j=hi-1)∧j≤hi-1∧Go.Sort.scanDown (λ x=>!Go.Sort.ltInt x D[lo]!) D (i2) j=j2) (λ j=>j) (hi-1) ⟨.inr rfl,Nat.le_refl _,by rw [hj2]⟩ sZ ?_
  rintro j ⟨g1,g2,g3⟩;have hl5:=b0A D
  by_cases hij:i2≤j
  ·obtain ⟨j,rfl⟩:∃ k,j=k+1:=⟨j-1,by omega⟩
   cases hp:Go.Sort.ltInt D[j+1]! D[lo]!
   ·rw [scanDown_go (p:=λ x=>!Go.Sort.ltInt x D[lo]!) (d:=D) hij (by show (!_)=true;rw [hp];rfl)] at g3
    repeat' (first|(refine yL ?_;first|refine a0A rfl ?_|(refine oI ?_;refine a8A rfl rfl (λ _=>rfl) rfl rfl _ rfl oZ ?_)|(refine oL ?_;refine amA hoS rfl (λ _=>rfl) rfl oZ ?_;rw [czA])|refine yO ?_|(refine yC ?_ ?_<;>intro hc)|(refine yV ?_;first|(refine oC 158 ?_;refine a3A (f:=158) rfl rfl rfl rfl  (.val (.bool false)) (by intro u1 u2 w e hu1 hu2;(try obtain rfl:u1=_:=hu1);(try obtain rfl:u2=_:=hu2);exact arA (by rw [hp]) (b7A _ _ _)) ?_))|(refine yN hK ?_;clear hK K))|refine wG ?_|(refine yR ?_;intro K hK)|fail)
    exact bpA j ⟨by omega,by omega,g3⟩ oZ sZ
   ·rw [bfA (p:=λ x=>!Go.Sort.ltInt x D[lo]!) (d:=D) (.inr (by show (!_)=false;rw [hp];rfl))] at g3
    repeat' (first|(refine yL ?_;first|refine a0A rfl ?_|(refine oI ?_;refine a8A rfl rfl (λ _=>rfl) rfl rfl _ rfl oZ ?_)|(refine oL ?_;refine amA hoS rfl (λ _=>rfl) rfl oZ ?_;rw [czA])|refine yO ?_|(refine yC ?_ ?_<;>intro hc)|(refine yV ?_;first|(refine oC 158 ?_;refine a3A (f:=158) rfl rfl rfl rfl  (.val (.bool true)) (by intro u1 u2 w e hu1 hu2;(try obtain rfl:u1=_:=hu1);(try obtain rfl:u2=_:=hu2);exact arA (by rw [hp]) (b7A _ _ _)) ?_))|(refine yN hK ?_;clear hK K))|refine wG ?_|(refine yR ?_;intro K hK)|fail)
    (subst g3;exact caA sZ)
  ·rw [bfA (p:=λ x=>!Go.Sort.ltInt x D[lo]!) (d:=D) (.inl hij)] at g3
   subst g3
   repeat' (first|(refine yL ?_;first|refine a0A rfl ?_|refine yO ?_|(refine yC ?_ ?_<;>intro hc)|(refine yN hK ?_;clear hK K))|refine wG ?_|(refine yR ?_;intro K hK)|fail)
   exact caA sZ
 ·rw [if_pos (show i2 > j2 by omega)] at hpe
  rw [hpe];refine anA (j:=j2) rfl heS hoS rfl rfl oZ (λ _=>rfl) (λ wS1 heS1 hoS1=>?_);refine a7A ?_
  repeat' (first|(refine yL ?_;first|refine yB ?_|(refine oD 79 ?_;refine a8A rfl rfl (λ _=>rfl) rfl rfl (lo) oZ oZ ?_)|refine yO ?_|(refine yC ?_ ?_<;>intro hc)|(refine yN hK ?_;clear hK K))|refine wG ?_|(refine yR ?_;intro K hK)|refine wPh ?_|fail)
  refine anA (j:=lo) rfl heS1 hoS1 rfl rfl (by rw [List.length_set];omega) (λ _=>rfl) (λ wS heS hoS=>?_);rw [b6A] at hoS;refine apA ?_
  repeat' (first|(refine yL ?_;first|refine yB ?_|refine yO ?_|(refine yC ?_ ?_<;>intro hc)|(refine yN hK ?_;clear hK K))|refine wG ?_|(refine yR ?_;intro K hK)|refine wPh ?_|fail)
  exact e2A rfl (λ x y w5 e5 hx hy=>by obtain rfl:x=_:=hx;obtain rfl:y=_:=hy;exact ⟨rfl,Ext.trans (by assumption) e5,OwnI.ext (by assumption) e5⟩)
 ·rw [if_neg (show ¬ i2 > j2 by omega)] at hpe
  rw [hpe];refine anA (j:=i2) rfl heS hoS rfl rfl oZ (λ _=>rfl) (λ wS1 heS1 hoS1=>?_);refine a7A ?_
  repeat' (first|(refine yL ?_;first|refine yB ?_|(refine oD 94 ?_;refine a8A rfl rfl (λ _=>rfl) rfl rfl (j2) oZ oZ ?_)|refine yO ?_|(refine yC ?_ ?_<;>intro hc)|(refine yN hK ?_;clear hK K))|refine wG ?_|(refine yR ?_;intro K hK)|refine wPh ?_|fail)
  refine anA (j:=j2) rfl heS1 hoS1 rfl rfl (by rw [List.length_set];omega) (λ _=>rfl) (λ wS heS hoS=>?_);rw [b6A] at hoS;obtain ⟨R,hR⟩:∃ R,R=Go.Sort.partLoop Go.Sort.ltInt lo (i2+1) (j2-1) (Go.Sort.swp D i2 j2):=⟨_,rfl⟩;rw [← hR];refine apA ?_
  repeat' (first|(refine yL ?_;first|refine yB ?_|refine yO ?_|(refine yC ?_ ?_<;>intro hc)|(refine yN hK ?_;clear hK K))|refine wG ?_|(refine yR ?_;intro K hK)|refine wPh ?_|fail)
  refine agA (ι:=Nat × Nat × Array Int) (λ i=>[(0,.val (.slice (some ⟨b,0,none⟩) n cap)),(1,.val (.int .i64 lo)),(2,.val (.int .i64 hi)),(10,.val (.int .i64 (i.1:Int))),(11,.val (.int .i64 (i.2.1:Int)))])
   (λ i w'=>Ext w0 w'∧i.2.2.size=D0.size∧d5A w0 w' b cap n i.2.2∧lo+1≤i.1∧i.1≤i.2.1+2∧lo≤i.2.1∧i.2.1≤hi-1∧Go.Sort.partLoop Go.Sort.ltInt lo i.1 i.2.1 i.2.2=R) (λ i=>i.2.1+2-i.1)
   (λ w2 e2=>⟨(i2+1,j2-1,Go.Sort.swp D i2 j2),⟨heS.trans e2,by dsimp only;rw [swp_size];exact hs,hoS.ext e2,by dsimp only;omega,by dsimp only;omega,by dsimp only;omega,by dsimp only;omega,hR.symm⟩,by dsimp only;exact sZ⟩) ?_
  rintro ⟨ii,jj,D1⟩ w1 ⟨he1,hs1,ho1,c1,c2,c3,c4,c5⟩;dsimp only at hs1 ho1 c1 c2 c3 c4 c5 ⊢;have hl1:=b0A D1;obtain ⟨i3,hi3⟩:∃ i3,i3=Go.Sort.scanUp (λ x=>Go.Sort.ltInt x D1[lo]!) D1 jj ii:=⟨_,rfl⟩;obtain ⟨j3,hj3⟩:∃ j3,j3=Go.Sort.scanDown (λ x=>!Go.Sort.ltInt x D1[lo]!) D1 i3 jj:=⟨_,rfl⟩;have bi3:=djA (λ x=>Go.Sort.ltInt x D1[lo]!) D1 jj _ ii (Nat.le_refl _);have bj3:=cxA (λ x=>!Go.Sort.ltInt x D1[lo]!) D1 i3 jj;rw [← hi3] at bi3;rw [← hj3] at bj3;have hpl:=partLoop_eq (lt:=Go.Sort.ltInt) (a:=lo) hi3 hj3 oZ;rw [hpl] at c5;clear hpl hpe hR heS hoS heS1 hoS1 hD hi2 hj2 bi2 bj2
  repeat' (first|(refine yL ?_;first|refine yB ?_|(refine oI ?_;refine a8A rfl rfl (λ _=>rfl) rfl rfl _ rfl oZ ?_)|(refine oL ?_;refine amA ho1 rfl (λ _=>rfl) rfl oZ ?_;rw [czA])|refine yO ?_|(refine yC ?_ ?_<;>intro hc)|(refine yN hK ?_;clear hK K))|(refine oCX ?_;first|refine dqA 6 [(0,.val (.slice (some ⟨b,0,none⟩) n cap)),(1,.val (.int .i64 lo)),(2,.val (.int .i64 hi)),(10,.val (.int .i64 ((i3:Nat):Int))),(11,.val (.int .i64 ((jj:Nat):Int)))] ?_ ?_|refine dqA 8 [(0,.val (.slice (some ⟨b,0,none⟩) n cap)),(1,.val (.int .i64 lo)),(2,.val (.int .i64 hi)),(10,.val (.int .i64 ((i3:Nat):Int))),(11,.val (.int .i64 ((j3:Nat):Int)))] ?_ ?_|refine aqA (id:=18) [13,15] kZ kZ kZ (a7A ?_)|refine aqA (id:=21) [13,15] kZ kZ kZ (a7A ?_))|refine wG ?_|(refine yR ?_;intro K hK)|refine wPh ?_|fail)
  ·have q0:True:=trivial
   refine b5A (ι:=Nat) (λ i=>[(0,.val (.slice (some ⟨b,0,none⟩) n cap)),(1,.val (.int .i64 lo)),(2,.val (.int .i64 hi)),(10,.val (.int .i64 (i:Int))),(11,.val (.int .i64 ((jj:Nat):Int)))])
    (λ i=>ii≤i∧i≤max (ii) (jj+1)∧Go.Sort.scanUp (λ x=>Go.Sort.ltInt x D1[lo]!) D1 (jj) i=i3) (λ i=>jj+1-i) (ii) ⟨Nat.le_refl _,by omega,by rw [hi3]⟩ sZ ?_
   rintro i ⟨g1,g2,g3⟩;have hl5:=b0A D1
   by_cases hij:i≤jj
   ·cases hp:Go.Sort.ltInt D1[i]! D1[lo]!
    ·rw [bvA (p:=λ x=>Go.Sort.ltInt x D1[lo]!) (d:=D1) (.inr hp)] at g3
     repeat' (first|(refine yL ?_;first|refine a0A rfl ?_|(refine oI ?_;refine a8A rfl rfl (λ _=>rfl) rfl rfl _ rfl oZ ?_)|(refine oL ?_;refine amA ho1 rfl (λ _=>rfl) rfl oZ ?_;rw [czA])|refine yO ?_|(refine yC ?_ ?_<;>intro hc)|(refine yV ?_;first|(refine oC 158 ?_;refine a3A (f:=158) rfl rfl rfl rfl  (.val (.bool false)) (by intro u1 u2 w e hu1 hu2;(try obtain rfl:u1=_:=hu1);(try obtain rfl:u2=_:=hu2);exact arA (by rw [hp]) (b7A _ _ _)) ?_))|(refine yN hK ?_;clear hK K))|refine wG ?_|(refine yR ?_;intro K hK)|fail)
     (subst g3;exact caA sZ)
    ·rw [scanUp_go (p:=λ x=>Go.Sort.ltInt x D1[lo]!) (d:=D1) hij hp] at g3
     repeat' (first|(refine yL ?_;first|refine a0A rfl ?_|(refine oI ?_;refine a8A rfl rfl (λ _=>rfl) rfl rfl _ rfl oZ ?_)|(refine oL ?_;refine amA ho1 rfl (λ _=>rfl) rfl oZ ?_;rw [czA])|refine yO ?_|(refine yC ?_ ?_<;>intro hc)|(refine yV ?_;first|(refine oC 158 ?_;refine a3A (f:=158) rfl rfl rfl rfl  (.val (.bool true)) (by intro u1 u2 w e hu1 hu2;(try obtain rfl:u1=_:=hu1);(try obtain rfl:u2=_:=hu2);exact arA (by rw [hp]) (b7A _ _ _)) ?_))|(refine yN hK ?_;clear hK K))|refine wG ?_|(refine yR ?_;intro K hK)|fail)
     exact bpA (i+1) ⟨by omega,by omega,g3⟩ oZ sZ
   ·rw [bvA (p:=λ x=>Go.Sort.ltInt x D1[lo]!) (d:=D1) (.inl hij)] at g3
    subst g3
    repeat' (first|(refine yL ?_;first|refine a0A rfl ?_|refine yO ?_|(refine yC ?_ ?_<;>intro hc)|(refine yN hK ?_;clear hK K))|refine wG ?_|(refine yR ?_;intro K hK)|fail)
    exact caA sZ
  ·have q0:True:=trivial
   refine b5A (ι:=Nat) (λ j=>[(0,.val (.slice (some ⟨b,0,none⟩) n cap)),(1,.val (.int .i64 lo)),(2,.val (.int .i64 hi)),(10,.val (.int .i64 ((i3:Nat):Int))),(11,.val (.int .i64 (j:Int)))])
    (λ j=>(i3≤j+1∨j=jj)∧j≤jj∧Go.Sort.scanDown (λ x=>!Go.Sort.ltInt x D1[lo]!) D1 (i3) j=j3) (λ j=>j) (jj) ⟨.inr rfl,Nat.le_refl _,by rw [hj3]⟩ sZ ?_
   rintro j ⟨g1,g2,g3⟩;have hl5:=b0A D1
   by_cases hij:i3≤j
   ·obtain ⟨j,rfl⟩:∃ k,j=k+1:=⟨j-1,by omega⟩
    cases hp:Go.Sort.ltInt D1[j+1]! D1[lo]!
    ·rw [scanDown_go (p:=λ x=>!Go.Sort.ltInt x D1[lo]!) (d:=D1) hij (by show (!_)=true;rw [hp];rfl)] at g3
     repeat' (first|(refine yL ?_;first|refine a0A rfl ?_|(refine oI ?_;refine a8A rfl rfl (λ _=>rfl) rfl rfl _ rfl oZ ?_)|(refine oL ?_;refine amA ho1 rfl (λ _=>rfl) rfl oZ ?_;rw [czA])|refine yO ?_|(refine yC ?_ ?_<;>intro hc)|(refine yV ?_;first|(refine oC 158 ?_;refine a3A (f:=158) rfl rfl rfl rfl  (.val (.bool false)) (by intro u1 u2 w e hu1 hu2;(try obtain rfl:u1=_:=hu1);(try obtain rfl:u2=_:=hu2);exact arA (by rw [hp]) (b7A _ _ _)) ?_))|(refine yN hK ?_;clear hK K))|refine wG ?_|(refine yR ?_;intro K hK)|fail)
     exact bpA j ⟨by omega,by omega,g3⟩ oZ sZ
    ·rw [bfA (p:=λ x=>!Go.Sort.ltInt x D1[lo]!) (d:=D1) (.inr (by show (!_)=false;rw [hp];rfl))] at g3
     repeat' (first|(refine yL ?_;first|refine a0A rfl ?_|(refine oI ?_;refine a8A rfl rfl (λ _=>rfl) rfl rfl _ rfl oZ ?_)|(refine oL ?_;refine amA ho1 rfl (λ _=>rfl) rfl oZ ?_;rw [czA])|refine yO ?_|(refine yC ?_ ?_<;>intro hc)|(refine yV ?_;first|(refine oC 158 ?_;refine a3A (f:=158) rfl rfl rfl rfl  (.val (.bool true)) (by intro u1 u2 w e hu1 hu2;(try obtain rfl:u1=_:=hu1);(try obtain rfl:u2=_:=hu2);exact arA (by rw [hp]) (b7A _ _ _)) ?_))|(refine yN hK ?_;clear hK K))|refine wG ?_|(refine yR ?_;intro K hK)|fail)
     (subst g3;exact caA sZ)
   ·rw [bfA (p:=λ x=>!Go.Sort.ltInt x D1[lo]!) (d:=D1) (.inl hij)] at g3
    subst g3
    repeat' (first|(refine yL ?_;first|refine a0A rfl ?_|refine yO ?_|(refine yC ?_ ?_<;>intro hc)|(refine yN hK ?_;clear hK K))|refine wG ?_|(refine yR ?_;intro K hK)|fail)
    exact caA sZ
  ·rw [if_pos (show i3 > j3 by omega)] at c5
   subst c5;refine anA (j:=j3) rfl he1 ho1 rfl rfl oZ (λ _=>rfl) (λ wS1 heS1 hoS1=>?_);refine a7A ?_
   repeat' (first|(refine yL ?_;first|refine yB ?_|(refine oD 166 ?_;refine a8A rfl rfl (λ _=>rfl) rfl rfl (lo) oZ oZ ?_)|refine yO ?_|(refine yC ?_ ?_<;>intro hc)|(refine yN hK ?_;clear hK K))|refine wG ?_|(refine yR ?_;intro K hK)|refine wPh ?_|fail)
   refine anA (j:=lo) rfl heS1 hoS1 rfl rfl (by rw [List.length_set];omega) (λ _=>rfl) (λ wS heS hoS=>?_);rw [b6A] at hoS;refine apA ?_
   repeat' (first|(refine yL ?_;first|refine yB ?_|refine yO ?_|(refine yC ?_ ?_<;>intro hc)|(refine yN hK ?_;clear hK K))|refine wG ?_|(refine yR ?_;intro K hK)|refine wPh ?_|fail)
   exact e2A rfl (λ x y w5 e5 hx hy=>by obtain rfl:x=_:=hx;obtain rfl:y=_:=hy;exact ⟨rfl,Ext.trans (by assumption) e5,OwnI.ext (by assumption) e5⟩)
  ·rw [if_neg (show ¬ i3 > j3 by omega)] at c5
   refine anA (j:=i3) rfl he1 ho1 rfl rfl oZ (λ _=>rfl) (λ wS1 heS1 hoS1=>?_);refine a7A ?_
   repeat' (first|(refine yL ?_;first|refine yB ?_|(refine oD 148 ?_;refine a8A rfl rfl (λ _=>rfl) rfl rfl (j3) oZ oZ ?_)|refine yO ?_|(refine yC ?_ ?_<;>intro hc)|(refine yN hK ?_;clear hK K))|refine wG ?_|(refine yR ?_;intro K hK)|refine wPh ?_|fail)
   refine anA (j:=j3) rfl heS1 hoS1 rfl rfl (by rw [List.length_set];omega) (λ _=>rfl) (λ wS heS hoS=>?_);rw [b6A] at hoS;refine apA ?_
   repeat' (first|(refine yL ?_;first|refine yB ?_|refine yO ?_|(refine yC ?_ ?_<;>intro hc)|(refine yN hK ?_;clear hK K))|refine wG ?_|(refine yR ?_;intro K hK)|refine wPh ?_|fail)
   exact a6A (i3+1,j3-1,Go.Sort.swp D1 i3 j3) (λ w5 e5=>⟨heS.trans e5,by dsimp only;rw [swp_size];exact hs1,hoS.ext e5,by dsimp only;omega,by dsimp only;omega,by dsimp only;omega,by dsimp only;omega,c5⟩) eZ (by dsimp only;exact sZ)
theorem qaA {w0 w:World} {b cap n:Nat} {D0:Array Int} (he0:Ext w0 w) (ho0:d5A w0 w b cap n D0) (hn:n=D0.size) (lo hi pv:Nat) (h1:lo≤pv) (h2:pv<hi) (h3:hi≤D0.size) (hb:D0.size<4611686018427387904) :
 Fc Tryz.prog 159 #[.slice (some ⟨b,0,none⟩) n cap,.int .i64 lo,.int .i64 hi,.int .i64 pv] w (λ e w'=>e=.returned (.int .i64 ((Go.Sort.partitionEqual Go.Sort.ltInt D0 lo hi pv).1:Int))∧Ext w0 w'∧d5A w0 w' b cap n (Go.Sort.partitionEqual Go.Sort.ltInt D0 lo hi pv).2):=by
 have hl0:=b0A D0;unfold Go.Sort.partitionEqual;refine Fc.of (args:=[_,_,_,_]) Tryz.func159 rfl rfl Tryz.ntmps159 nZ ?_
 repeat' (first|(refine yL ?_;first|refine yB ?_|(refine oI ?_;refine a8A rfl rfl (λ _=>rfl) rfl rfl _ rfl oZ ?_)|(refine oL ?_;refine amA ho0 rfl (λ _=>rfl) rfl oZ ?_;rw [czA])|refine yO ?_|(refine yC ?_ ?_<;>intro hc)|(refine yN hK ?_;clear hK K))|(refine oCX ?_;first|refine aqA (id:=1) [13,15] kZ kZ kZ (a7A ?_))|refine wG ?_|(refine yR ?_;intro K hK)|refine wPh ?_|fail)
 refine anA (j:=lo) rfl he0 ho0 rfl rfl oZ (λ _=>rfl) (λ wS1 heS1 hoS1=>?_);refine a7A ?_
 repeat' (first|(refine yL ?_;first|refine yB ?_|(refine oD 24 ?_;refine a8A rfl rfl (λ _=>rfl) rfl rfl (pv) oZ oZ ?_)|refine yO ?_|(refine yC ?_ ?_<;>intro hc)|(refine yN hK ?_;clear hK K))|refine wG ?_|(refine yR ?_;intro K hK)|refine wPh ?_|fail)
 refine anA (j:=pv) rfl heS1 hoS1 rfl rfl (by rw [List.length_set];omega) (λ _=>rfl) (λ wS heS hoS=>?_);rw [b6A] at hoS;obtain ⟨D,hD⟩:∃ D,D=Go.Sort.swp D0 lo pv:=⟨_,rfl⟩;rw [← hD] at hoS ⊢;have hs:D.size=D0.size:=by rw [hD,swp_size]
 obtain ⟨R,hR⟩:∃ R,R=Go.Sort.partEqLoop Go.Sort.ltInt lo (lo+1) (hi-1) D:=⟨_,rfl⟩;rw [← hR];refine apA ?_
 repeat' (first|(refine yL ?_;first|refine yB ?_|(refine oD 26 ?_;refine beA rfl rfl rfl fZ ?_;rw [show ((lo:Int)+1)=((lo+1:Nat):Int) by omega])|(refine oD 28 ?_;refine abA rfl rfl rfl fZ ?_;rw [show ((hi:Int)-1)=((hi-1:Nat):Int) by omega])|refine yO ?_|(refine yC ?_ ?_<;>intro hc)|(refine yN hK ?_;clear hK K))|refine wG ?_|(refine yR ?_;intro K hK)|refine wPh ?_|fail)
 refine agA (ι:=Nat × Nat × Array Int) (λ i=>[(0,.val (.slice (some ⟨b,0,none⟩) n cap)),(1,.val (.int .i64 lo)),(2,.val (.int .i64 hi)),(9,.val (.int .i64 (i.1:Int))),(10,.val (.int .i64 (i.2.1:Int)))])
  (λ i w'=>Ext w0 w'∧i.2.2.size=D0.size∧d5A w0 w' b cap n i.2.2∧lo+1≤i.1∧i.1≤i.2.1+2∧lo≤i.2.1∧i.2.1≤hi-1∧Go.Sort.partEqLoop Go.Sort.ltInt lo i.1 i.2.1 i.2.2=R) (λ i=>i.2.1+2-i.1)
  (λ w2 e2=>⟨(lo+1,hi-1,D),⟨heS.trans e2,hs,hoS.ext e2,by dsimp only;omega,by dsimp only;omega,by dsimp only;omega,by dsimp only;omega,hR.symm⟩,by dsimp only;exact sZ⟩) ?_
 rintro ⟨ii,jj,D1⟩ w1 ⟨he1,hs1,ho1,c1,c2,c3,c4,c5⟩;dsimp only at hs1 ho1 c1 c2 c3 c4 c5 ⊢;have hl1:=b0A D1;obtain ⟨i3,hi3⟩:∃ i3,i3=Go.Sort.scanUp (λ x=>!Go.Sort.ltInt D1[lo]! x) D1 jj ii:=⟨_,rfl⟩;obtain ⟨j3,hj3⟩:∃ j3,j3=Go.Sort.scanDown (λ x=>Go.Sort.ltInt D1[lo]! x) D1 i3 jj:=⟨_,rfl⟩;have bi3:=djA (λ x=>!Go.Sort.ltInt D1[lo]! x) D1 jj _ ii (Nat.le_refl _);have bj3:=cxA (λ x=>Go.Sort.ltInt D1[lo]! x) D1 i3 jj;rw [← hi3] at bi3;rw [← hj3] at bj3;have hpl:=partEqLoop_eq (lt:=Go.Sort.ltInt) (a:=lo) hi3 hj3 oZ;rw [hpl] at c5;clear hpl hR heS hoS heS1 hoS1 hD
 repeat' (first|(refine yL ?_;first|refine yB ?_|(refine oI ?_;refine a8A rfl rfl (λ _=>rfl) rfl rfl _ rfl oZ ?_)|(refine oL ?_;refine amA ho1 rfl (λ _=>rfl) rfl oZ ?_;rw [czA])|refine yO ?_|(refine yC ?_ ?_<;>intro hc)|(refine yN hK ?_;clear hK K))|(refine oCX ?_;first|refine dqA 2 [(0,.val (.slice (some ⟨b,0,none⟩) n cap)),(1,.val (.int .i64 lo)),(2,.val (.int .i64 hi)),(9,.val (.int .i64 ((i3:Nat):Int))),(10,.val (.int .i64 ((jj:Nat):Int)))] ?_ ?_|refine dqA 4 [(0,.val (.slice (some ⟨b,0,none⟩) n cap)),(1,.val (.int .i64 lo)),(2,.val (.int .i64 hi)),(9,.val (.int .i64 ((i3:Nat):Int))),(10,.val (.int .i64 ((j3:Nat):Int)))] ?_ ?_|refine aqA (id:=8) [13,15] kZ kZ kZ (a7A ?_))|refine wG ?_|(refine yR ?_;intro K hK)|refine wPh ?_|fail)
 ·have q0:True:=trivial
  refine b5A (ι:=Nat) (λ i=>[(0,.val (.slice (some ⟨b,0,none⟩) n cap)),(1,.val (.int .i64 lo)),(2,.val (.int .i64 hi)),(9,.val (.int .i64 (i:Int))),(10,.val (.int .i64 ((jj:Nat):Int)))])
   (λ i=>ii≤i∧i≤max (ii) (jj+1)∧Go.Sort.scanUp (λ x=>!Go.Sort.ltInt D1[lo]! x) D1 (jj) i=i3) (λ i=>jj+1-i) (ii) ⟨Nat.le_refl _,by omega,by rw [hi3]⟩ sZ ?_
  rintro i ⟨g1,g2,g3⟩;have hl5:=b0A D1
  by_cases hij:i≤jj
  ·cases hp:Go.Sort.ltInt D1[lo]! D1[i]!
   ·rw [scanUp_go (p:=λ x=>!Go.Sort.ltInt D1[lo]! x) (d:=D1) hij (by show (!_)=true;rw [hp];rfl)] at g3
    repeat' (first|(refine yL ?_;first|refine a0A rfl ?_|(refine oI ?_;refine a8A rfl rfl (λ _=>rfl) rfl rfl _ rfl oZ ?_)|(refine oL ?_;refine amA ho1 rfl (λ _=>rfl) rfl oZ ?_;rw [czA])|refine yO ?_|(refine yC ?_ ?_<;>intro hc)|(refine yV ?_;first|(refine oC 158 ?_;refine a3A (f:=158) rfl rfl rfl rfl  (.val (.bool false)) (by intro u1 u2 w e hu1 hu2;(try obtain rfl:u1=_:=hu1);(try obtain rfl:u2=_:=hu2);exact arA (by rw [hp]) (b7A _ _ _)) ?_))|(refine yN hK ?_;clear hK K))|refine wG ?_|(refine yR ?_;intro K hK)|fail)
    exact bpA (i+1) ⟨by omega,by omega,g3⟩ oZ sZ
   ·rw [bvA (p:=λ x=>!Go.Sort.ltInt D1[lo]! x) (d:=D1) (.inr (by show (!_)=false;rw [hp];rfl))] at g3
    repeat' (first|(refine yL ?_;first|refine a0A rfl ?_|(refine oI ?_;refine a8A rfl rfl (λ _=>rfl) rfl rfl _ rfl oZ ?_)|(refine oL ?_;refine amA ho1 rfl (λ _=>rfl) rfl oZ ?_;rw [czA])|refine yO ?_|(refine yC ?_ ?_<;>intro hc)|(refine yV ?_;first|(refine oC 158 ?_;refine a3A (f:=158) rfl rfl rfl rfl  (.val (.bool true)) (by intro u1 u2 w e hu1 hu2;(try obtain rfl:u1=_:=hu1);(try obtain rfl:u2=_:=hu2);exact arA (by rw [hp]) (b7A _ _ _)) ?_))|(refine yN hK ?_;clear hK K))|refine wG ?_|(refine yR ?_;intro K hK)|fail)
    (subst g3;exact caA sZ)
  ·rw [bvA (p:=λ x=>!Go.Sort.ltInt D1[lo]! x) (d:=D1) (.inl hij)] at g3
   subst g3
   repeat' (first|(refine yL ?_;first|refine a0A rfl ?_|refine yO ?_|(refine yC ?_ ?_<;>intro hc)|(refine yN hK ?_;clear hK K))|refine wG ?_|(refine yR ?_;intro K hK)|fail)
   exact caA sZ
 ·have q0:True:=trivial
  refine b5A (ι:=Nat) (λ j=>[(0,.val (.slice (some ⟨b,0,none⟩) n cap)),(1,.val (.int .i64 lo)),(2,.val (.int .i64 hi)),(9,.val (.int .i64 ((i3:Nat):Int))),(10,.val (.int .i64 (j:Int)))])
   (λ j=>(i3≤j+1∨j=jj)∧j≤jj∧Go.Sort.scanDown (λ x=>Go.Sort.ltInt D1[lo]! x) D1 (i3) j=j3) (λ j=>j) (jj) ⟨.inr rfl,Nat.le_refl _,by rw [hj3]⟩ sZ ?_
  rintro j ⟨g1,g2,g3⟩;have hl5:=b0A D1
  by_cases hij:i3≤j
  ·obtain ⟨j,rfl⟩:∃ k,j=k+1:=⟨j-1,by omega⟩
   cases hp:Go.Sort.ltInt D1[lo]! D1[j+1]!
   ·rw [bfA (p:=λ x=>Go.Sort.ltInt D1[lo]! x) (d:=D1) (.inr hp)] at g3
    repeat' (first|(refine yL ?_;first|refine a0A rfl ?_|(refine oI ?_;refine a8A rfl rfl (λ _=>rfl) rfl rfl _ rfl oZ ?_)|(refine oL ?_;refine amA ho1 rfl (λ _=>rfl) rfl oZ ?_;rw [czA])|refine yO ?_|(refine yC ?_ ?_<;>intro hc)|(refine yV ?_;first|(refine oC 158 ?_;refine a3A (f:=158) rfl rfl rfl rfl  (.val (.bool false)) (by intro u1 u2 w e hu1 hu2;(try obtain rfl:u1=_:=hu1);(try obtain rfl:u2=_:=hu2);exact arA (by rw [hp]) (b7A _ _ _)) ?_))|(refine yN hK ?_;clear hK K))|refine wG ?_|(refine yR ?_;intro K hK)|fail)
    (subst g3;exact caA sZ)
   ·rw [scanDown_go (p:=λ x=>Go.Sort.ltInt D1[lo]! x) (d:=D1) hij hp] at g3
    repeat' (first|(refine yL ?_;first|refine a0A rfl ?_|(refine oI ?_;refine a8A rfl rfl (λ _=>rfl) rfl rfl _ rfl oZ ?_)|(refine oL ?_;refine amA ho1 rfl (λ _=>rfl) rfl oZ ?_;rw [czA])|refine yO ?_|(refine yC ?_ ?_<;>intro hc)|(refine yV ?_;first|(refine oC 158 ?_;refine a3A (f:=158) rfl rfl rfl rfl  (.val (.bool true)) (by intro u1 u2 w e hu1 hu2;(try obtain rfl:u1=_:=hu1);(try obtain rfl:u2=_:=hu2);exact arA (by rw [hp]) (b7A _ _ _)) ?_))|(refine yN hK ?_;clear hK K))|refine wG ?_|(refine yR ?_;intro K hK)|fail)
    exact bpA j ⟨by omega,by omega,g3⟩ oZ sZ
  ·rw [bfA (p:=λ x=>Go.Sort.ltInt D1[lo]! x) (d:=D1) (.inl hij)] at g3
   subst g3
   repeat' (first|(refine yL ?_;first|refine a0A rfl ?_|refine yO ?_|(refine yC ?_ ?_<;>intro hc)|(refine yN hK ?_;clear hK K))|refine wG ?_|(refine yR ?_;intro K hK)|fail)
   exact caA sZ
 ·rw [if_pos (show i3 > j3 by omega)] at c5
  subst c5
  repeat' (first|(refine yL ?_;first|refine a0A rfl ?_|refine yO ?_|(refine yC ?_ ?_<;>intro hc)|(refine yN hK ?_;clear hK K))|refine wG ?_|(refine yR ?_;intro K hK)|fail)
  exact c6A rfl (λ x w5 e5 hx=>by obtain rfl:x=_:=hx;exact ⟨rfl,Ext.trans (by assumption) e5,OwnI.ext (by assumption) e5⟩)
 ·rw [if_neg (show ¬ i3 > j3 by omega)] at c5
  refine anA (j:=i3) rfl he1 ho1 rfl rfl oZ (λ _=>rfl) (λ wS1 heS1 hoS1=>?_);refine a7A ?_
  repeat' (first|(refine yL ?_;first|refine yB ?_|(refine oD 78 ?_;refine a8A rfl rfl (λ _=>rfl) rfl rfl (j3) oZ oZ ?_)|refine yO ?_|(refine yC ?_ ?_<;>intro hc)|(refine yN hK ?_;clear hK K))|refine wG ?_|(refine yR ?_;intro K hK)|refine wPh ?_|fail)
  refine anA (j:=j3) rfl heS1 hoS1 rfl rfl (by rw [List.length_set];omega) (λ _=>rfl) (λ wS heS hoS=>?_);rw [b6A] at hoS;refine apA ?_
  repeat' (first|(refine yL ?_;first|refine yB ?_|refine yO ?_|(refine yC ?_ ?_<;>intro hc)|(refine yN hK ?_;clear hK K))|refine wG ?_|(refine yR ?_;intro K hK)|refine wPh ?_|fail)
  exact a6A (i3+1,j3-1,Go.Sort.swp D1 i3 j3) (λ w5 e5=>⟨heS.trans e5,by dsimp only;rw [swp_size];exact hs1,hoS.ext e5,by dsimp only;omega,by dsimp only;omega,by dsimp only;omega,by dsimp only;omega,c5⟩) eZ (by dsimp only;exact sZ)
theorem tsA {w0 w:World} {b cap n:Nat} {D0:Array Int} (he0:Ext w0 w) (ho0:d5A w0 w b cap n D0) (hn:n=D0.size) (lo hi:Nat) (h1:lo<hi) (h2:hi≤D0.size) (hb:D0.size<4611686018427387904) :
 Fc Tryz.prog 157 #[.slice (some ⟨b,0,none⟩) n cap,.int .i64 lo,.int .i64 hi] w (λ e w'=>e=.returned (.bool (Go.Sort.partialInsertionSort Go.Sort.ltInt D0 lo hi).2)∧Ext w0 w'∧d5A w0 w' b cap n (Go.Sort.partialInsertionSort Go.Sort.ltInt D0 lo hi).1):=by
 unfold Go.Sort.partialInsertionSort;obtain ⟨R,hR⟩:∃ R,R=Go.Sort.partialIns Go.Sort.ltInt lo hi 5 (lo+1) D0:=⟨_,rfl⟩;rw [← hR];refine Fc.of (args:=[_,_,_]) Tryz.func157 rfl rfl Tryz.ntmps157 nZ ?_
 repeat' (first|(refine yL ?_;first|refine a0A rfl ?_|(refine oD 12 ?_;refine beA rfl rfl rfl fZ ?_;rw [show ((lo:Int)+1)=((lo+1:Nat):Int) by omega])|refine yO ?_|(refine yC ?_ ?_<;>intro hc)|(refine yN hK ?_;clear hK K))|refine wG ?_|(refine yR ?_;intro K hK)|fail)
 refine agA (ι:=Nat × Nat × Array Int) (λ i=>[(0,.val (.slice (some ⟨b,0,none⟩) n cap)),(1,.val (.int .i64 lo)),(2,.val (.int .i64 hi)),(6,.val (.bool false)),(7,.val (.int .i64 (i.2.1:Int))),(8,.val (.int .i64 (5-(i.1:Int))))])
  (λ i w'=>Ext w0 w'∧i.1≤5∧i.2.2.size=D0.size∧d5A w0 w' b cap n i.2.2∧lo+1≤i.2.1∧i.2.1≤hi∧Go.Sort.partialIns Go.Sort.ltInt lo hi i.1 i.2.1 i.2.2=R) (λ i=>i.1)
  (λ w2 e2=>⟨(5,lo+1,D0),⟨he0.trans e2,Nat.le_refl _,rfl,ho0.ext e2,Nat.le_refl _,by dsimp only;omega,hR.symm⟩,by dsimp only;exact sZ⟩) ?_
 rintro ⟨s,ii,D⟩ w1 ⟨he1,hs5,hs1,ho1,c1,c2,c3⟩;dsimp only at hs5 hs1 ho1 c1 c2 c3 ⊢;have hl1:=b0A D;cases s with
 | zero =>
   rw [Go.Sort.partialIns] at c3;subst c3
   repeat' (first|(refine yL ?_;first|refine a0A rfl ?_|refine yO ?_|(refine yC ?_ ?_<;>intro hc)|(refine yN hK ?_;clear hK K))|refine wG ?_|(refine yR ?_;intro K hK)|fail)
   exact c6A rfl (λ x w5 e5 hx=>by obtain rfl:x=_:=hx;exact ⟨rfl,Ext.trans (by assumption) e5,OwnI.ext (by assumption) e5⟩)
 | succ s =>
 obtain ⟨i3,hi3⟩:∃ i3,i3=Go.Sort.scanSorted Go.Sort.ltInt D hi ii:=⟨_,rfl⟩;have bi3:=Go.Sort.scanSorted_bd (lt:=Go.Sort.ltInt) (d:=D) (b:=hi) _ ii (Nat.le_refl _) c2;rw [← hi3] at bi3
 repeat' (first|(refine yL ?_;first|refine yB ?_|(refine oI ?_;refine a8A rfl rfl (λ _=>rfl) rfl rfl _ rfl oZ ?_)|(refine oL ?_;refine amA ho1 rfl (λ _=>rfl) rfl oZ ?_;rw [czA])|(refine oD 46 ?_;refine abA rfl rfl rfl fZ ?_;rw [show ((i3:Int)-1)=((i3-1:Nat):Int) by omega])|(refine oD 49 ?_;refine abA rfl rfl rfl fZ ?_;rw [show ((i3:Int)-1)=((i3-1:Nat):Int) by omega])|refine yO ?_|(refine yC ?_ ?_<;>intro hc)|(refine yN hK ?_;clear hK K))|(refine oCX ?_;first|refine dqA 2 [(0,.val (.slice (some ⟨b,0,none⟩) n cap)),(1,.val (.int .i64 lo)),(2,.val (.int .i64 hi)),(6,.val (.bool false)),(7,.val (.int .i64 (i3:Nat))),(8,.val (.int .i64 (5-((s+1:Nat):Int))))] ?_ ?_|refine aqA (id:=11) [15,17] kZ kZ kZ (a7A ?_))|refine wG ?_|(refine yR ?_;intro K hK)|refine wPh ?_|fail)
 ·refine b5A (ι:=Nat) (λ i=>[(0,.val (.slice (some ⟨b,0,none⟩) n cap)),(1,.val (.int .i64 lo)),(2,.val (.int .i64 hi)),(6,.val (.bool false)),(7,.val (.int .i64 (i:Nat))),(8,.val (.int .i64 (5-((s+1:Nat):Int))))])
   (λ i=>ii≤i∧i≤hi∧Go.Sort.scanSorted Go.Sort.ltInt D hi i=i3) (λ i=>hi-i) ii ⟨Nat.le_refl _,c2,by rw [hi3]⟩ sZ ?_
  rintro i ⟨g1,g2,g3⟩
  by_cases hij:i<hi
  ·cases hp:Go.Sort.ltInt D[i]! D[i-1]!
   ·rw [Go.Sort.scanSorted_go hij hp] at g3
    repeat' (first|(refine yL ?_;first|refine a0A rfl ?_|(refine oD 27 ?_;refine abA rfl rfl rfl fZ ?_;rw [show ((i:Int)-1)=((i-1:Nat):Int) by omega])|(refine oI ?_;refine a8A rfl rfl (λ _=>rfl) rfl rfl _ rfl oZ ?_)|(refine oL ?_;refine amA ho1 rfl (λ _=>rfl) rfl oZ ?_;rw [czA])|refine yO ?_|(refine yC ?_ ?_<;>intro hc)|(refine yV ?_;first|(refine oC 158 ?_;refine a3A (f:=158) rfl rfl rfl rfl  (.val (.bool false)) (by intro u1 u2 w e hu1 hu2;(try obtain rfl:u1=_:=hu1);(try obtain rfl:u2=_:=hu2);exact arA (by rw [hp]) (b7A _ _ _)) ?_))|(refine yN hK ?_;clear hK K))|refine wG ?_|(refine yR ?_;intro K hK)|fail)
    exact bpA (i+1) ⟨by omega,by omega,g3⟩ oZ sZ
   ·rw [Go.Sort.scanSorted_stop (.inr hp)] at g3
    subst g3
    repeat' (first|(refine yL ?_;first|refine a0A rfl ?_|(refine oD 27 ?_;refine abA rfl rfl rfl fZ ?_;rw [show ((i:Int)-1)=((i-1:Nat):Int) by omega])|(refine oI ?_;refine a8A rfl rfl (λ _=>rfl) rfl rfl _ rfl oZ ?_)|(refine oL ?_;refine amA ho1 rfl (λ _=>rfl) rfl oZ ?_;rw [czA])|refine yO ?_|(refine yC ?_ ?_<;>intro hc)|(refine yV ?_;first|(refine oC 158 ?_;refine a3A (f:=158) rfl rfl rfl rfl  (.val (.bool true)) (by intro u1 u2 w e hu1 hu2;(try obtain rfl:u1=_:=hu1);(try obtain rfl:u2=_:=hu2);exact arA (by rw [hp]) (b7A _ _ _)) ?_))|(refine yN hK ?_;clear hK K))|refine wG ?_|(refine yR ?_;intro K hK)|fail)
    exact caA sZ
  ·rw [Go.Sort.scanSorted_stop (.inl hij)] at g3
   subst g3
   repeat' (first|(refine yL ?_;first|refine a0A rfl ?_|refine yO ?_|(refine yC ?_ ?_<;>intro hc)|(refine yN hK ?_;clear hK K))|refine wG ?_|(refine yR ?_;intro K hK)|fail)
   exact caA sZ
 ·skip
  rw [Go.Sort.pI_end hi3 oZ] at c3;subst c3;exact c6A rfl (λ x w5 e5 hx=>by obtain rfl:x=_:=hx;exact ⟨rfl,Ext.trans (by assumption) e5,OwnI.ext (by assumption) e5⟩)
 ·skip
  rw [Go.Sort.pI_short hi3 oZ oZ] at c3;subst c3;exact c6A rfl (λ x w5 e5 hx=>by obtain rfl:x=_:=hx;exact ⟨rfl,Ext.trans (by assumption) e5,OwnI.ext (by assumption) e5⟩)
 ·skip
  refine anA (j:=i3) rfl he1 ho1 rfl rfl oZ (λ _=>rfl) (λ wS1 heS1 hoS1=>?_);refine a7A ?_
  repeat' (first|(refine yL ?_;first|refine yB ?_|(refine oD 57 ?_;refine a8A rfl rfl (λ _=>rfl) rfl rfl ((i3-1)) oZ oZ ?_)|(refine oD 46 ?_;refine abA rfl rfl rfl fZ ?_;rw [show ((i3:Int)-1)=((i3-1:Nat):Int) by omega])|refine yO ?_|(refine yC ?_ ?_<;>intro hc)|(refine yN hK ?_;clear hK K))|refine wG ?_|(refine yR ?_;intro K hK)|refine wPh ?_|fail)
  refine anA (j:=(i3-1)) rfl heS1 hoS1 rfl rfl (by rw [List.length_set];omega) (λ _=>rfl) (λ wS heS hoS=>?_);rw [b6A] at hoS;obtain ⟨D2,e2⟩:∃ D2,D2=Go.Sort.swp D i3 (i3-1):=⟨_,rfl⟩;obtain ⟨D3,e3⟩:∃ D3,D3=if i3-lo ≥ 2 then Go.Sort.shiftDown Go.Sort.ltInt (i3-1) D2 else D2:=⟨_,rfl⟩
  obtain ⟨D4,e4⟩:∃ D4,D4=if hi-i3 ≥ 2 then Go.Sort.shiftUp Go.Sort.ltInt hi (i3+1) D3 else D3:=⟨_,rfl⟩
  rw [Go.Sort.pI_go hi3 oZ oZ e2 e3 e4] at c3;rw [← e2] at hoS;have hs2:D2.size=D0.size:=by rw [e2,swp_size];exact hs1
  have hs3:D3.size=D0.size:=by rw [e3];split;exact (Go.Sort.shiftDown_size _ _).trans hs2;exact hs2
  have hs4:D4.size=D0.size:=by rw [e4];split;exact (Go.Sort.shiftUp_size _ _ _ (Nat.le_refl _)).trans hs3;exact hs3
  refine apA ?_
  repeat' (first|(refine yL ?_;first|refine yB ?_|(refine oD 63 ?_;refine abA rfl rfl rfl fZ ?_;rw [show ((i3:Int)-1)=((i3-1:Nat):Int) by omega])|refine yO ?_|(refine yC ?_ ?_<;>intro hc)|(refine yN hK ?_;clear hK K))|(refine oCX ?_;first|refine cmA (id:=12) (ι:=Unit) (λ _=>[(0,.val (.slice (some ⟨b,0,none⟩) n cap)),(1,.val (.int .i64 lo)),(2,.val (.int .i64 hi)),(6,.val (.bool false)),(7,.val (.int .i64 (i3:Nat))),(8,.val (.int .i64 (5-((s+1:Nat):Int))))]) (λ _ w'=>Ext w0 w'∧d5A w0 w' b cap n D3) ?_ ?_)|refine wG ?_|(refine yR ?_;intro K hK)|refine wPh ?_|fail)
  ·skip
   rw [if_pos oZ] at e3
   refine agA (ι:=Nat × Array Int) (λ i=>[(0,.val (.slice (some ⟨b,0,none⟩) n cap)),(1,.val (.int .i64 lo)),(2,.val (.int .i64 hi)),(6,.val (.bool false)),(7,.val (.int .i64 (i3:Nat))),(8,.val (.int .i64 (5-((s+1:Nat):Int)))),(9,.val (.int .i64 (i.1:Int)))])
    (λ i w'=>Ext w0 w'∧i.1≤i3-1∧i.2.size=D0.size∧d5A w0 w' b cap n i.2∧Go.Sort.shiftDown Go.Sort.ltInt i.1 i.2=D3) (λ i=>i.1)
    (λ w2 e2=>⟨(i3-1,D2),⟨heS.trans e2,Nat.le_refl _,hs2,hoS.ext e2,e3.symm⟩,by dsimp only;exact sZ⟩) ?_
   rintro ⟨j,D5⟩ w5 ⟨he5,hj5,hs5',ho5,hr5⟩;dsimp only at hj5 hs5' ho5 hr5 ⊢;have hl5:=b0A D5;clear heS hoS heS1 hoS1;cases j with
   | zero =>
     rw [Go.Sort.shiftDown] at hr5;subst hr5
     repeat' (first|(refine yL ?_;first|refine a0A rfl ?_|refine yO ?_|(refine yC ?_ ?_<;>intro hc)|(refine yN hK ?_;clear hK K))|refine wG ?_|(refine yR ?_;intro K hK)|fail)
     exact a6A () (λ w6 e6=>⟨he5.trans e6,ho5.ext e6⟩) oZ sZ
   | succ j =>
     rw [Go.Sort.shiftDown] at hr5;cases hp:Go.Sort.ltInt D5[j+1]! D5[j]!
     ·rw [hp,if_pos (by rfl)] at hr5
      subst hr5
      repeat' (first|(refine yL ?_;first|refine a0A rfl ?_|(refine oD 74 ?_;refine abA rfl rfl rfl fZ ?_;rw [show (((j+1:Nat):Int)-1)=(j:Int) by omega])|(refine oI ?_;refine a8A rfl rfl (λ _=>rfl) rfl rfl _ rfl oZ ?_)|(refine oL ?_;refine amA ho5 rfl (λ _=>rfl) rfl oZ ?_;rw [czA])|refine yO ?_|(refine yC ?_ ?_<;>intro hc)|(refine yV ?_;first|(refine oC 158 ?_;refine a3A (f:=158) rfl rfl rfl rfl  (.val (.bool false)) (by intro u1 u2 w e hu1 hu2;(try obtain rfl:u1=_:=hu1);(try obtain rfl:u2=_:=hu2);exact arA (by rw [hp]) (b7A _ _ _)) ?_))|(refine yN hK ?_;clear hK K))|refine wG ?_|(refine yR ?_;intro K hK)|fail)
      exact a6A () (λ w6 e6=>⟨he5.trans e6,ho5.ext e6⟩) oZ sZ
     ·rw [hp,if_neg (by simp)] at hr5
      repeat' (first|(refine yL ?_;first|refine yB ?_|(refine oD 74 ?_;refine abA rfl rfl rfl fZ ?_;rw [show (((j+1:Nat):Int)-1)=(j:Int) by omega])|(refine oD 83 ?_;refine abA rfl rfl rfl fZ ?_;rw [show (((j+1:Nat):Int)-1)=(j:Int) by omega])|(refine oD 86 ?_;refine abA rfl rfl rfl fZ ?_;rw [show (((j+1:Nat):Int)-1)=(j:Int) by omega])|(refine oI ?_;refine a8A rfl rfl (λ _=>rfl) rfl rfl _ rfl oZ ?_)|(refine oL ?_;refine amA ho5 rfl (λ _=>rfl) rfl oZ ?_;rw [czA])|refine yO ?_|(refine yC ?_ ?_<;>intro hc)|(refine yV ?_;first|(refine oC 158 ?_;refine a3A (f:=158) rfl rfl rfl rfl  (.val (.bool true)) (by intro u1 u2 w e hu1 hu2;(try obtain rfl:u1=_:=hu1);(try obtain rfl:u2=_:=hu2);exact arA (by rw [hp]) (b7A _ _ _)) ?_))|(refine yN hK ?_;clear hK K))|(refine oCX ?_;first|refine aqA (id:=17) [15,17] kZ kZ kZ (a7A ?_))|refine wG ?_|(refine yR ?_;intro K hK)|refine wPh ?_|fail)
      refine anA (j:=(j+1)) rfl he5 ho5 rfl rfl oZ (λ _=>rfl) (λ wS1 heS1 hoS1=>?_);refine a7A ?_
      repeat' (first|(refine yL ?_;first|refine yB ?_|(refine oD 94 ?_;refine a8A rfl rfl (λ _=>rfl) rfl rfl (j) oZ oZ ?_)|(refine oD 83 ?_;refine abA rfl rfl rfl fZ ?_;rw [show (((j+1:Nat):Int)-1)=(j:Int) by omega])|refine yO ?_|(refine yC ?_ ?_<;>intro hc)|(refine yN hK ?_;clear hK K))|refine wG ?_|(refine yR ?_;intro K hK)|refine wPh ?_|fail)
      refine anA (j:=j) rfl heS1 hoS1 rfl rfl (by rw [List.length_set];omega) (λ _=>rfl) (λ wS heS hoS=>?_);rw [b6A] at hoS;refine apA ?_
      repeat' (first|(refine yL ?_;first|refine yB ?_|(refine oD 67 ?_;refine abA rfl rfl rfl fZ ?_;rw [show (((j+1:Nat):Int)-1)=(j:Int) by omega])|refine yO ?_|(refine yC ?_ ?_<;>intro hc)|(refine yN hK ?_;clear hK K))|refine wG ?_|(refine yR ?_;intro K hK)|refine wPh ?_|fail)
      exact a6A (j,Go.Sort.swp D5 (j+1) j) (λ w6 e6=>⟨heS.trans e6,by dsimp only;omega,by dsimp only;rw [swp_size];exact hs5',hoS.ext e6,hr5⟩) eZ (by dsimp only;exact sZ)
  ·skip
   rw [if_neg oZ] at e3;exact a6A () (λ w6 e6=>⟨heS.trans e6,by rw [e3];exact hoS.ext e6⟩) oZ sZ
  ·rintro-wX ⟨heX,hoX⟩
   have hl3:=b0A D3
   repeat' (first|(refine yL ?_;first|refine a0A rfl ?_|(refine oD 100 ?_;refine beA rfl rfl rfl fZ ?_;rw [show ((i3:Int)+1)=((i3+1:Nat):Int) by omega])|refine yO ?_|(refine yC ?_ ?_<;>intro hc)|(refine yN hK ?_;clear hK K))|refine wG ?_|(refine yR ?_;intro K hK)|fail)
   ·skip
    rw [if_pos oZ] at e4
    refine agA (ι:=Nat × Array Int) (λ i=>[(0,.val (.slice (some ⟨b,0,none⟩) n cap)),(1,.val (.int .i64 lo)),(2,.val (.int .i64 hi)),(6,.val (.bool false)),(7,.val (.int .i64 (i3:Nat))),(8,.val (.int .i64 (5-((s+1:Nat):Int)))),(10,.val (.int .i64 (i.1:Int)))])
     (λ i w'=>Ext w0 w'∧i3+1≤i.1∧i.2.size=D0.size∧d5A w0 w' b cap n i.2∧Go.Sort.shiftUp Go.Sort.ltInt hi i.1 i.2=D4) (λ i=>hi-i.1)
     (λ w2 e2=>⟨(i3+1,D3),⟨heX.trans e2,Nat.le_refl _,hs3,hoX.ext e2,e4.symm⟩,by dsimp only;exact sZ⟩) ?_
    rintro ⟨j,D5⟩ w5 ⟨he5,hj5,hs5',ho5,hr5⟩;dsimp only at hj5 hs5' ho5 hr5 ⊢;have hl5:=b0A D5;clear heS hoS heS1 hoS1
    by_cases hjb:j<hi
    ·cases hp:Go.Sort.ltInt D5[j]! D5[j-1]!
     ·rw [Go.Sort.shiftUp_stop (.inr hp)] at hr5
      subst hr5
      repeat' (first|(refine yL ?_;first|refine a0A rfl ?_|(refine oD 112 ?_;refine abA rfl rfl rfl fZ ?_;rw [show ((j:Int)-1)=((j-1:Nat):Int) by omega])|(refine oI ?_;refine a8A rfl rfl (λ _=>rfl) rfl rfl _ rfl oZ ?_)|(refine oL ?_;refine amA ho5 rfl (λ _=>rfl) rfl oZ ?_;rw [czA])|refine yO ?_|(refine yC ?_ ?_<;>intro hc)|(refine yV ?_;first|(refine oC 158 ?_;refine a3A (f:=158) rfl rfl rfl rfl  (.val (.bool false)) (by intro u1 u2 w e hu1 hu2;(try obtain rfl:u1=_:=hu1);(try obtain rfl:u2=_:=hu2);exact arA (by rw [hp]) (b7A _ _ _)) ?_))|(refine yN hK ?_;clear hK K))|refine wG ?_|(refine yR ?_;intro K hK)|fail)
      exact a6A (s,i3,D5) (λ w6 e6=>⟨he5.trans e6,by dsimp only;omega,hs4,ho5.ext e6,by dsimp only;omega,by dsimp only;omega,c3⟩) eZ (by dsimp only;exact sZ)
     ·rw [Go.Sort.shiftUp_go hjb hp] at hr5
      repeat' (first|(refine yL ?_;first|refine yB ?_|(refine oD 112 ?_;refine abA rfl rfl rfl fZ ?_;rw [show ((j:Int)-1)=((j-1:Nat):Int) by omega])|(refine oD 121 ?_;refine abA rfl rfl rfl fZ ?_;rw [show ((j:Int)-1)=((j-1:Nat):Int) by omega])|(refine oD 124 ?_;refine abA rfl rfl rfl fZ ?_;rw [show ((j:Int)-1)=((j-1:Nat):Int) by omega])|(refine oI ?_;refine a8A rfl rfl (λ _=>rfl) rfl rfl _ rfl oZ ?_)|(refine oL ?_;refine amA ho5 rfl (λ _=>rfl) rfl oZ ?_;rw [czA])|refine yO ?_|(refine yC ?_ ?_<;>intro hc)|(refine yV ?_;first|(refine oC 158 ?_;refine a3A (f:=158) rfl rfl rfl rfl  (.val (.bool true)) (by intro u1 u2 w e hu1 hu2;(try obtain rfl:u1=_:=hu1);(try obtain rfl:u2=_:=hu2);exact arA (by rw [hp]) (b7A _ _ _)) ?_))|(refine yN hK ?_;clear hK K))|(refine oCX ?_;first|refine aqA (id:=23) [15,17] kZ kZ kZ (a7A ?_))|refine wG ?_|(refine yR ?_;intro K hK)|refine wPh ?_|fail)
      refine anA (j:=j) rfl he5 ho5 rfl rfl oZ (λ _=>rfl) (λ wS1 heS1 hoS1=>?_);refine a7A ?_
      repeat' (first|(refine yL ?_;first|refine yB ?_|(refine oD 132 ?_;refine a8A rfl rfl (λ _=>rfl) rfl rfl ((j-1)) oZ oZ ?_)|(refine oD 121 ?_;refine abA rfl rfl rfl fZ ?_;rw [show ((j:Int)-1)=((j-1:Nat):Int) by omega])|refine yO ?_|(refine yC ?_ ?_<;>intro hc)|(refine yN hK ?_;clear hK K))|refine wG ?_|(refine yR ?_;intro K hK)|refine wPh ?_|fail)
      refine anA (j:=(j-1)) rfl heS1 hoS1 rfl rfl (by rw [List.length_set];omega) (λ _=>rfl) (λ wS heS hoS=>?_);rw [b6A] at hoS;refine apA ?_
      repeat' (first|(refine yL ?_;first|refine yB ?_|refine yO ?_|(refine yC ?_ ?_<;>intro hc)|(refine yN hK ?_;clear hK K))|refine wG ?_|(refine yR ?_;intro K hK)|refine wPh ?_|fail)
      exact a6A (j+1,Go.Sort.swp D5 j (j-1)) (λ w6 e6=>⟨heS.trans e6,by dsimp only;omega,by dsimp only;rw [swp_size];exact hs5',hoS.ext e6,hr5⟩) eZ (by dsimp only;exact sZ)
    ·rw [Go.Sort.shiftUp_stop (.inl hjb)] at hr5
     subst hr5
     repeat' (first|(refine yL ?_;first|refine a0A rfl ?_|refine yO ?_|(refine yC ?_ ?_<;>intro hc)|(refine yN hK ?_;clear hK K))|refine wG ?_|(refine yR ?_;intro K hK)|fail)
     exact a6A (s,i3,D5) (λ w6 e6=>⟨he5.trans e6,by dsimp only;omega,hs4,ho5.ext e6,by dsimp only;omega,by dsimp only;omega,c3⟩) eZ (by dsimp only;exact sZ)
   ·skip
    rw [if_neg oZ] at e4;rw [e4] at c3;exact a6A (s,i3,D3) (λ w6 e6=>⟨heX.trans e6,by dsimp only;omega,hs3,hoX.ext e6,by dsimp only;omega,by dsimp only;omega,c3⟩) eZ (by dsimp only;exact sZ)
theorem zdA {w0 w:World} {b cap n:Nat} {D0:Array Int} (he0:Ext w0 w) (ho0:d5A w0 w b cap n D0) (hn:n=D0.size) (lo hi:Nat) (h1:lo≤hi) (h2:hi≤D0.size) (hb:D0.size<4611686018427387904) :
 Fc Tryz.prog 154 #[.slice (some ⟨b,0,none⟩) n cap,.int .i64 lo,.int .i64 hi] w (λ e w'=>e=.returned (.tuple #[])∧Ext w0 w'∧∃ D',Go.Sort.PermIn lo hi D0 D'∧d5A w0 w' b cap n D'):=by
 obtain ⟨L,hL⟩:∃ L,L=hi-lo:=⟨_,rfl⟩;have hl0:=b0A D0
 by_cases h8:8≤L
 ·obtain ⟨M,hM⟩:∃ M,M=2 ^ Go.Sort.bitsLen L:=⟨_,rfl⟩
  have hM1:0<M:=by rw [hM];exact Nat.two_pow_pos _
  have hM2:M≤2*L:=by rw [hM];exact Go.Sort.two_pow_bitsLen_le oZ
  have hnp:=λ w=>wgA (w:=w) L oZ
  rw [← hM] at hnp;refine Fc.of (args:=[_,_,_]) Tryz.func154 rfl rfl Tryz.ntmps154 nZ ?_
  repeat' (first|(refine yL ?_;first|refine a0A rfl ?_|(refine oD 13 ?_;refine abA rfl rfl rfl fZ ?_;rw [show ((hi:Int)-lo)=(L:Int) by omega])|(refine oD 7 ?_;refine a4A (hK _ _ (c5A rfl rfl dZ (λ _=>rfl) (λ _=>rfl) (λ _=>rfl) rfl (by intro u hu;simp [Value.cells] at hu;subst hu;rfl) (λ rb wx ex hbx hbc=>?_)));clear hK K)|refine yO ?_|(refine yC ?_ ?_<;>intro hc)|(refine yV ?_;first|(refine oC 185 ?_;refine a2A (f:=185) rfl rfl rfl  (.val (.int .u64 (M:Int))) (by intro u1 w e hu1;(try obtain rfl:u1=_:=hu1);exact hnp _) ?_))|(refine yN hK ?_;clear hK K))|refine wG ?_|(refine yR ?_;intro K hK)|fail)
  have heX:Ext w0 wx:=he0.trans ex;have hr:OwnI w0.heap.size 182 .u64 wx (.slice (some ⟨rb,0,none⟩) 1 1) [(L:Int)]:=⟨rfl,.inr ⟨rb,1,_,rfl,Nat.le_trans he0.size hbx,hbc,Nat.le_refl _,by decide,rfl,rfl⟩⟩;have hoX:d5A w0 wx b cap n D0:=ho0.ext ex
  refine agA (ι:=Nat × Array Int × Nat) (λ i=>[(0,.val (.slice (some ⟨b,0,none⟩) n cap)),(1,.val (.int .i64 lo)),(6,.val (.int .i64 (L:Int))),(7,.val (.pointer (some ⟨rb,0,none⟩))),(8,.val (.int .u64 (M:Int))),(9,.val (.int .i64 ((lo+L / 4*2-1+i.1:Nat):Int)))])
   (λ i w'=>Ext w0 w'∧i.1≤3∧Go.Sort.PermIn lo hi D0 i.2.1∧d5A w0 w' b cap n i.2.1∧i.2.2<18446744073709551616∧OwnI w0.heap.size 182 .u64 w' (.slice (some ⟨rb,0,none⟩) 1 1) [(i.2.2:Int)]) (λ i=>3-i.1)
   (λ w2 e2=>⟨(0,D0,L),⟨heX.trans e2,Nat.zero_le _,Go.Sort.permIn_refl _ _ _,hoX.ext e2,by dsimp only;omega,hr.ext e2⟩,by dsimp only;exact sZ⟩) ?_
  rintro ⟨t,D,r⟩ w1 ⟨he1,ht3,hp1,ho1,hr1,hw1⟩;dsimp only at ht3 hp1 ho1 hr1 hw1 ⊢;have hs1:D.size=D0.size:=hp1.1;have hl1:=b0A D;clear heX hr hoX
  by_cases ht:t<3
  ·have q0:True:=trivial
   repeat' (first|(refine yL ?_;first|refine a0A rfl ?_|(refine oD 36 ?_;refine a4A (hK _ _ (grA (f:=186) rfl dZ rfl rfl (λ v w'=>∃ c:Nat,v=.int .u64 (c:Int)∧c<18446744073709551616∧Ext w0 w'∧OwnI w0.heap.size 182 .u64 w' (.slice (some ⟨rb,0,none⟩) 1 1) [(c:Int)]∧d5A w0 w' b cap n D) (λ w' e=>(pbA (he1.trans e) (hw1.ext e) oZ (ho1.ext e) dZ).mono (by rintro e5 w5 ⟨c,h1,h2⟩;exact ⟨_,h1,c,rfl,h2⟩)) (λ v w2 hv=>?_)));clear hK K;obtain ⟨c,rfl,hcB,he2,hr2,ho2⟩:=hv)|(refine oD 38 ?_;refine abA rfl rfl rfl fZ ?_;rw [show ((M:Int)-1)=((M-1:Nat):Int) by omega])|(refine oD 39 ?_;refine sqA rfl rfl rfl (λ q hq=>?_) oZ oZ)|(refine oD 46 ?_;refine abA rfl rfl rfl fZ ?_;rw [show ((q:Int)-L)=((q-L:Nat):Int) by omega])|refine yO ?_|(refine yC ?_ ?_<;>intro hc)|(refine yN hK ?_;clear hK K))|(refine oCX ?_;first|refine cmA (id:=8) (ι:=Nat) (λ o=>[(0,.val (.slice (some ⟨b,0,none⟩) n cap)),(1,.val (.int .i64 lo)),(6,.val (.int .i64 (L:Int))),(7,.val (.pointer (some ⟨rb,0,none⟩))),(8,.val (.int .u64 (M:Int))),(9,.val (.int .i64 ((lo+L / 4*2-1+t:Nat):Int))),(10,.val (.int .i64 (o:Int)))]) (λ o w'=>Ext w0 w'∧o<L∧(∃ c3:Nat,c3<18446744073709551616∧OwnI w0.heap.size 182 .u64 w' (.slice (some ⟨rb,0,none⟩) 1 1) [(c3:Int)])∧d5A w0 w' b cap n D) ?_ ?_)|refine wG ?_|(refine yR ?_;intro K hK)|(refine oLX ?_;first|(refine aiA rfl ?_;intro K hK))|fail)
   ·exact a6A (q-L) (λ w6 e6=>⟨he2.trans e6,by omega,⟨c,hcB,hr2.ext e6⟩,ho2.ext e6⟩) oZ sZ
   ·exact a6A q (λ w6 e6=>⟨he2.trans e6,by omega,⟨c,hcB,hr2.ext e6⟩,ho2.ext e6⟩) oZ sZ
   ·rintro o w3 ⟨he3,ho,⟨c3,hc3,hr3⟩,ho3⟩
    repeat' (first|(refine yL ?_;first|refine yB ?_|(refine oI ?_;refine a8A rfl rfl (λ _=>rfl) rfl rfl _ rfl oZ ?_)|(refine oL ?_;refine amA ho3 rfl (λ _=>rfl) rfl oZ ?_;rw [czA])|(refine oD 52 ?_;refine beA rfl rfl rfl fZ ?_;rw [show ((lo:Int)+o)=((lo+o:Nat):Int) by omega])|(refine oD 56 ?_;refine beA rfl rfl rfl fZ ?_;rw [show ((lo:Int)+o)=((lo+o:Nat):Int) by omega])|refine yO ?_|(refine yC ?_ ?_<;>intro hc)|(refine yN hK ?_;clear hK K))|(refine oCX ?_;first|refine aqA (id:=10) [17,19] kZ kZ kZ (a7A ?_))|refine wG ?_|(refine yR ?_;intro K hK)|refine wPh ?_|fail)
    refine gfA (j:=lo+L / 4*2-1+t) rfl he3 ho3 hr3 dZ rfl rfl oZ (λ _=>rfl) (λ wS1 heS1 hoS1 hrS1=>?_);refine a7A ?_
    repeat' (first|(refine yL ?_;first|refine yB ?_|(refine oD 64 ?_;refine a8A rfl rfl (λ _=>rfl) rfl rfl (lo+o) oZ oZ ?_)|(refine oD 52 ?_;refine beA rfl rfl rfl fZ ?_;rw [show ((lo:Int)+o)=((lo+o:Nat):Int) by omega])|refine yO ?_|(refine yC ?_ ?_<;>intro hc)|(refine yN hK ?_;clear hK K))|refine wG ?_|(refine yR ?_;intro K hK)|refine wPh ?_|fail)
    refine gfA (j:=lo+o) rfl heS1 hoS1 hrS1 dZ rfl rfl (by rw [List.length_set];omega) (λ _=>rfl) (λ wS heS hoS hrS=>?_);rw [b6A] at hoS;refine apA ?_
    repeat' (first|(refine yL ?_;first|refine yB ?_|refine yO ?_|(refine yC ?_ ?_<;>intro hc)|(refine yN hK ?_;clear hK K))|refine wG ?_|(refine yR ?_;intro K hK)|refine wPh ?_|fail)
    exact a6A (t+1,Go.Sort.swp D (lo+L / 4*2-1+t) (lo+o),c3) (λ w6 e6=>⟨heS.trans e6,by dsimp only;omega,Go.Sort.permIn_trans _ _ _ _ _ hp1 (Go.Sort.swp_permIn _ _ _ _ _ oZ oZ oZ oZ oZ),hoS.ext e6,hc3,hrS.ext e6⟩) eZ (by dsimp only;exact sZ)
  ·have q0:True:=trivial
   repeat' (first|(refine yL ?_;first|refine a0A rfl ?_|refine yO ?_|(refine yC ?_ ?_<;>intro hc)|(refine yN hK ?_;clear hK K))|refine wG ?_|(refine yR ?_;intro K hK)|fail)
   exact bdA rfl (λ w5 e5=>⟨rfl,he1.trans e5,D,hp1,ho1.ext e5⟩) (.inl rfl)
 ·have q0:True:=trivial
  refine Fc.of (args:=[_,_,_]) Tryz.func154 rfl rfl Tryz.ntmps154 nZ ?_
  repeat' (first|(refine yL ?_;first|refine a0A rfl ?_|refine yO ?_|(refine yC ?_ ?_<;>intro hc)|(refine yN hK ?_;clear hK K))|refine wG ?_|(refine yR ?_;intro K hK)|fail)
  exact bdA rfl (λ w5 e5=>⟨rfl,he0.trans e5,D0,Go.Sort.permIn_refl _ _ _,ho0.ext e5⟩) (.inl rfl)
theorem k8A {w0 w:World} {b cap n sb:Nat} {D:Array Int} (he0:Ext w0 w) (ho0:d5A w0 w b cap n D) (hs0:Sw w0 w sb) (hn:n=D.size) (hb:D.size<4611686018427387904) (lo hi:Nat) (h2:hi≤D.size) (x y:Nat) (hx:lo≤x∧x<hi) (hy:lo≤y∧y<hi) :
 Fc Tryz.prog 198 #[(.slice (some ⟨b,0,none⟩) n cap),.int .i64 x,.int .i64 y,(.pointer (some ⟨sb,0,none⟩))] w (λ e w'=>∃ p q:Nat,e=.returned (.tuple #[.int .i64 p,.int .i64 q])∧(lo≤p∧p<hi)∧(lo≤q∧q<hi)∧Ext w0 w'∧d5A w0 w' b cap n D∧Sw w0 w' sb):=by
 have hl:=b0A D;obtain ⟨s,hs⟩:=hs0;cases hp:Go.Sort.ltInt D[y]! D[x]!
 ·have q0:True:=trivial
  refine Fc.of (args:=[_,_,_,_]) Tryz.func198 rfl rfl Tryz.ntmps198 nZ ?_
  repeat' (first|(refine yL ?_;first|refine a0A rfl ?_|(refine oI ?_;refine a8A rfl rfl (λ _=>rfl) rfl rfl _ rfl oZ ?_)|(refine oL ?_;refine amA ho0 rfl (λ _=>rfl) rfl oZ ?_;rw [czA])|refine yO ?_|(refine yC ?_ ?_<;>intro hc)|(refine yV ?_;first|(refine oC 158 ?_;refine a3A (f:=158) rfl rfl rfl rfl  (.val (.bool false)) (by intro u1 u2 w e hu1 hu2;(try obtain rfl:u1=_:=hu1);(try obtain rfl:u2=_:=hu2);exact arA (by rw [hp]) (b7A _ _ _)) ?_))|(refine yN hK ?_;clear hK K))|refine wG ?_|(refine yR ?_;intro K hK)|fail)
  exact e2A rfl (λ u v w5 e5 hu hv=>by obtain rfl:u=_:=hu;obtain rfl:v=_:=hv;exact ⟨x,y,rfl,hx,hy,he0.trans e5,ho0.ext e5,s,hs.ext e5⟩)
 ·have q0:True:=trivial
  refine Fc.of (args:=[_,_,_,_]) Tryz.func198 rfl rfl Tryz.ntmps198 nZ ?_
  repeat' (first|(refine yL ?_;first|refine a0A rfl ?_|(refine oD 21 ?_;refine amA hs rfl (λ _=>rfl) rfl (by exact Nat.zero_lt_one) ?_;rw [show [s].getD 0 0=s from rfl])|(refine oD 22 ?_;refine l3A rfl rfl rfl ?_)|(refine afA rfl rfl ?_)|(refine oSt ?_;refine a4A (hK _ _ (saA (j:=0) rfl he0 hs ho0 dZ rfl rfl (by exact Nat.zero_lt_one) (λ _=>rfl) (λ w1 he1 hs1 ho1=>?_)));clear hK K)|(refine oI ?_;refine a8A rfl rfl (λ _=>rfl) rfl rfl _ rfl oZ ?_)|(refine oL ?_;refine amA ho0 rfl (λ _=>rfl) rfl oZ ?_;rw [czA])|refine yO ?_|(refine yC ?_ ?_<;>intro hc)|(refine yV ?_;first|(refine oC 158 ?_;refine a3A (f:=158) rfl rfl rfl rfl  (.val (.bool true)) (by intro u1 u2 w e hu1 hu2;(try obtain rfl:u1=_:=hu1);(try obtain rfl:u2=_:=hu2);exact arA (by rw [hp]) (b7A _ _ _)) ?_))|(refine yN hK ?_;clear hK K))|refine wG ?_|(refine yR ?_;intro K hK)|fail)
  exact e2A rfl (λ u v w5 e5 hu hv=>by obtain rfl:u=_:=hu;obtain rfl:v=_:=hv;exact ⟨y,x,rfl,hy,hx,he1.trans e5,ho1.ext e5,_,OwnI.ext hs1 e5⟩)
theorem qtA {w0 w:World} {b cap n sb:Nat} {D:Array Int} (he0:Ext w0 w) (ho0:d5A w0 w b cap n D) (hs0:Sw w0 w sb) (hn:n=D.size) (hb:D.size<4611686018427387904) (lo hi:Nat) (h2:hi≤D.size) (x y z:Nat) (hx:lo≤x∧x<hi) (hy:lo≤y∧y<hi) (hz:lo≤z∧z<hi) :
 Fc Tryz.prog 188 #[(.slice (some ⟨b,0,none⟩) n cap),.int .i64 x,.int .i64 y,.int .i64 z,(.pointer (some ⟨sb,0,none⟩))] w (λ e w'=>∃ p:Nat,e=.returned (.int .i64 p)∧(lo≤p∧p<hi)∧Ext w0 w'∧d5A w0 w' b cap n D∧Sw w0 w' sb):=by
 refine Fc.of (args:=[_,_,_,_,_]) Tryz.func188 rfl rfl Tryz.ntmps188 nZ ?_
 repeat' (first|(refine yL ?_;first|refine a0A rfl ?_|(refine oD 16 ?_;refine a4A (hK _ _ (doA (f:=198) rfl dZ rfl rfl rfl rfl rfl (λ v w'=>∃ p q:Nat,v=.tuple #[.int .i64 p,.int .i64 q]∧(lo≤p∧p<hi)∧(lo≤q∧q<hi)∧Ext w0 w'∧d5A w0 w' b cap n D∧Sw w0 w' sb) (λ w' e=>(k8A (he0.trans e) (ho0.ext e) (hs0.ext e) hn hb lo hi h2 x y oZ oZ).mono (by rintro e5 w5 ⟨p,q,h1,h2⟩;exact ⟨_,h1,p,q,rfl,h2⟩)) (λ v w1 hv=>?_)));clear hK K;obtain ⟨p1,q1,rfl,bp1,bq1,he1,ho1,hs1⟩:=hv)|(refine oD 24 ?_;refine a4A (hK _ _ (doA (f:=198) rfl dZ rfl rfl rfl rfl rfl (λ v w'=>∃ p q:Nat,v=.tuple #[.int .i64 p,.int .i64 q]∧(lo≤p∧p<hi)∧(lo≤q∧q<hi)∧Ext w0 w'∧d5A w0 w' b cap n D∧Sw w0 w' sb) (λ w' e=>(k8A (he1.trans e) (ho1.ext e) (hs1.ext e) hn hb lo hi h2 q1 z oZ oZ).mono (by rintro e5 w5 ⟨p,q,h1,h2⟩;exact ⟨_,h1,p,q,rfl,h2⟩)) (λ v w2 hv=>?_)));clear hK K;obtain ⟨p2,q2,rfl,bp2,bq2,he2,ho2,hs2⟩:=hv)|(refine oD 32 ?_;refine a4A (hK _ _ (doA (f:=198) rfl dZ rfl rfl rfl rfl rfl (λ v w'=>∃ p q:Nat,v=.tuple #[.int .i64 p,.int .i64 q]∧(lo≤p∧p<hi)∧(lo≤q∧q<hi)∧Ext w0 w'∧d5A w0 w' b cap n D∧Sw w0 w' sb) (λ w' e=>(k8A (he2.trans e) (ho2.ext e) (hs2.ext e) hn hb lo hi h2 p1 p2 oZ oZ).mono (by rintro e5 w5 ⟨p,q,h1,h2⟩;exact ⟨_,h1,p,q,rfl,h2⟩)) (λ v w3 hv=>?_)));clear hK K;obtain ⟨p3,q3,rfl,bp3,bq3,he3,ho3,hs3⟩:=hv)|(refine ctA rfl rfl ?_)|(refine csA rfl rfl ?_)|refine yO ?_|(refine yC ?_ ?_<;>intro hc)|(refine yN hK ?_;clear hK K))|refine wG ?_|(refine yR ?_;intro K hK)|(refine oLX ?_;first|(refine aiA rfl ?_;intro K hK))|fail)
 exact c6A rfl (λ u w5 e5 hu=>by obtain rfl:u=_:=hu;exact ⟨q3,rfl,bq3,he3.trans e5,ho3.ext e5,hs3.ext e5⟩)
theorem kcA {w0 w:World} {b cap n sb:Nat} {D:Array Int} (he0:Ext w0 w) (ho0:d5A w0 w b cap n D) (hs0:Sw w0 w sb) (hn:n=D.size) (hb:D.size<4611686018427387904) (lo hi:Nat) (h2:hi≤D.size) (x:Nat) (hx:lo+1≤x∧x+1<hi) :
 Fc Tryz.prog 187 #[(.slice (some ⟨b,0,none⟩) n cap),.int .i64 x,(.pointer (some ⟨sb,0,none⟩))] w (λ e w'=>∃ p:Nat,e=.returned (.int .i64 p)∧(lo≤p∧p<hi)∧Ext w0 w'∧d5A w0 w' b cap n D∧Sw w0 w' sb):=by
 refine Fc.of (args:=[_,_,_]) Tryz.func187 rfl rfl Tryz.ntmps187 nZ ?_
 repeat' (first|(refine yL ?_;first|refine a0A rfl ?_|(refine oD 9 ?_;refine abA rfl rfl rfl fZ ?_;rw [show ((x:Int)-1)=((x-1:Nat):Int) by omega])|(refine oD 12 ?_;refine beA rfl rfl rfl fZ ?_;rw [show ((x:Int)+1)=((x+1:Nat):Int) by omega])|(refine oD 14 ?_;refine a4A (hK _ _ (hzA (f:=188) rfl dZ rfl rfl rfl rfl rfl rfl (λ v w'=>∃ p:Nat,v=.int .i64 p∧(lo≤p∧p<hi)∧Ext w0 w'∧d5A w0 w' b cap n D∧Sw w0 w' sb) (λ w' e=>(qtA (he0.trans e) (ho0.ext e) (hs0.ext e) hn hb lo hi h2 (x-1) x (x+1) oZ oZ oZ).mono (by rintro e5 w5 ⟨p,h1,h2⟩;exact ⟨_,h1,p,rfl,h2⟩)) (λ v w1 hv=>?_)));clear hK K;obtain ⟨p,rfl,bp,he1,ho1,hs1⟩:=hv)|(refine ctA rfl rfl ?_)|(refine csA rfl rfl ?_)|refine yO ?_|(refine yC ?_ ?_<;>intro hc)|(refine yN hK ?_;clear hK K))|refine wG ?_|(refine yR ?_;intro K hK)|(refine oLX ?_;first|(refine aiA rfl ?_;intro K hK))|fail)
 exact c6A rfl (λ u w5 e5 hu=>by obtain rfl:u=_:=hu;exact ⟨p,rfl,bp,he1.trans e5,ho1.ext e5,hs1.ext e5⟩)
theorem z8A {w0 w:World} {b cap n:Nat} {D:Array Int} (he0:Ext w0 w) (ho0:d5A w0 w b cap n D) (hn:n=D.size) (hb:D.size<4611686018427387904) (lo hi:Nat) (h1:lo<hi) (h2:hi≤D.size) :
 Fc Tryz.prog 155 #[(.slice (some ⟨b,0,none⟩) n cap),.int .i64 lo,.int .i64 hi] w (λ e w'=>∃ (p:Nat) (h:Int),e=.returned (.tuple #[.int .i64 p,.int .i64 h])∧(lo≤p∧p<hi)∧Ext w0 w'∧d5A w0 w' b cap n D):=by
 obtain ⟨L,hL⟩:∃ L,L=hi-lo:=⟨_,rfl⟩;refine Fc.of (args:=[_,_,_]) Tryz.func155 rfl rfl Tryz.ntmps155 nZ ?_
 repeat' (first|(refine yL ?_;first|refine a0A rfl ?_|(refine oD 15 ?_;refine abA rfl rfl rfl fZ ?_;rw [show ((hi:Int)-lo)=(L:Int) by omega])|(refine oD 9 ?_;refine a4A (hK _ _ (sbA rfl dZ (λ _=>rfl) (λ sb wx ex hbx hbc=>?_)));clear hK K;have heX:Ext w0 wx:=he0.trans ex;have hsX:Sw w0 wx sb:=⟨0,rfl,.inr ⟨sb,1,_,rfl,Nat.le_trans he0.size hbx,hbc,Nat.le_refl _,by decide,rfl,rfl⟩⟩;have hoX:d5A w0 wx b cap n D:=ho0.ext ex)|(refine oD 20 ?_;refine beA rfl rfl rfl fZ ?_;rw [show ((lo:Int)+(L:Int) / 4*1)=((lo+L / 4*1:Nat):Int) by omega])|(refine oD 25 ?_;refine beA rfl rfl rfl fZ ?_;rw [show ((lo:Int)+(L:Int) / 4*2)=((lo+L / 4*2:Nat):Int) by omega])|(refine oD 30 ?_;refine beA rfl rfl rfl fZ ?_;rw [show ((lo:Int)+(L:Int) / 4*3)=((lo+L / 4*3:Nat):Int) by omega])|(refine oD 37 ?_;refine a4A (hK _ _ (cbA (f:=187) rfl dZ rfl rfl rfl rfl (λ v w'=>∃ p:Nat,v=.int .i64 p∧(lo≤p∧p<hi)∧Ext w0 w'∧d5A w0 w' b cap n D∧Sw w0 w' sb) (λ w' e=>(kcA (heX.trans e) (hoX.ext e) (hsX.ext e) hn hb lo hi h2 (lo+L / 4*1) oZ).mono (by rintro e5 w5 ⟨p,h1,h2⟩;exact ⟨_,h1,p,rfl,h2⟩)) (λ v w1 hv=>?_)));clear hK K;obtain ⟨p1,rfl,bp1,he1,ho1,hs1⟩:=hv)|(refine oD 40 ?_;refine a4A (hK _ _ (cbA (f:=187) rfl dZ rfl rfl rfl rfl (λ v w'=>∃ p:Nat,v=.int .i64 p∧(lo≤p∧p<hi)∧Ext w0 w'∧d5A w0 w' b cap n D∧Sw w0 w' sb) (λ w' e=>(kcA (he1.trans e) (ho1.ext e) (hs1.ext e) hn hb lo hi h2 (lo+L / 4*2) oZ).mono (by rintro e5 w5 ⟨p,h1,h2⟩;exact ⟨_,h1,p,rfl,h2⟩)) (λ v w2 hv=>?_)));clear hK K;obtain ⟨p2,rfl,bp2,he2,ho2,hs2⟩:=hv)|(refine oD 43 ?_;refine a4A (hK _ _ (cbA (f:=187) rfl dZ rfl rfl rfl rfl (λ v w'=>∃ p:Nat,v=.int .i64 p∧(lo≤p∧p<hi)∧Ext w0 w'∧d5A w0 w' b cap n D∧Sw w0 w' sb) (λ w' e=>(kcA (he2.trans e) (ho2.ext e) (hs2.ext e) hn hb lo hi h2 (lo+L / 4*3) oZ).mono (by rintro e5 w5 ⟨p,h1,h2⟩;exact ⟨_,h1,p,rfl,h2⟩)) (λ v w3 hv=>?_)));clear hK K;obtain ⟨p3,rfl,bp3,he3,ho3,hs3⟩:=hv)|(refine ctA rfl rfl ?_)|(refine csA rfl rfl ?_)|refine yO ?_|(refine yC ?_ ?_<;>intro hc)|(refine yN hK ?_;clear hK K))|(refine oCX ?_;first|refine cmA (id:=6) (ι:=Nat) (λ j=>[(9,.val (.pointer (some ⟨sb,0,none⟩))),(11,.val (.int .i64 (j:Int)))]) (λ p w'=>(lo≤p∧p<hi)∧Ext w0 w'∧d5A w0 w' b cap n D∧Sw w0 w' sb) ?_ ?_|refine cmA (id:=7) (ι:=Nat × Nat × Nat) (λ i=>[(0,.val (.slice (some ⟨b,0,none⟩) n cap)),(1,.val (.int .i64 lo)),(9,.val (.pointer (some ⟨sb,0,none⟩))),(10,.val (.int .i64 ((i.1:Nat):Int))),(11,.val (.int .i64 ((i.2.1:Nat):Int))),(12,.val (.int .i64 ((i.2.2:Nat):Int)))]) (λ i w'=>(lo≤i.1∧i.1<hi)∧(lo≤i.2.1∧i.2.1<hi)∧(lo≤i.2.2∧i.2.2<hi)∧Ext w0 w'∧d5A w0 w' b cap n D∧Sw w0 w' sb) ?_ ?_)|refine wG ?_|(refine yR ?_;intro K hK)|(refine oLX ?_;first|(refine aiA rfl ?_;intro K hK))|fail)
 ·exact a6A (p1,p2,p3) (λ w6 e6=>⟨bp1,bp2,bp3,he3.trans e6,ho3.ext e6,hs3.ext e6⟩) oZ (by dsimp only;exact sZ)
 ·exact a6A (lo+L / 4*1,lo+L / 4*2,lo+L / 4*3) (λ w6 e6=>⟨by dsimp only;omega,by dsimp only;omega,by dsimp only;omega,heX.trans e6,hoX.ext e6,hsX.ext e6⟩) oZ (by dsimp only;exact sZ)
 ·rintro ⟨i,j,k⟩ w3 ⟨bi,bj,bk,he3,ho3,hs3⟩
  dsimp only at bi bj bk ⊢
  repeat' (first|(refine yL ?_;first|refine a0A rfl ?_|(refine oD 48 ?_;refine a4A (hK _ _ (hzA (f:=188) rfl dZ rfl rfl rfl rfl rfl rfl (λ v w'=>∃ p:Nat,v=.int .i64 p∧(lo≤p∧p<hi)∧Ext w0 w'∧d5A w0 w' b cap n D∧Sw w0 w' sb) (λ w' e=>(qtA (he3.trans e) (ho3.ext e) (hs3.ext e) hn hb lo hi h2 i j k bi bj bk).mono (by rintro e5 w5 ⟨p,h1,h2⟩;exact ⟨_,h1,p,rfl,h2⟩)) (λ v w1 hv=>?_)));clear hK K;obtain ⟨p,rfl,bp,he1,ho1,hs1⟩:=hv)|(refine ctA rfl rfl ?_)|(refine csA rfl rfl ?_)|refine yO ?_|(refine yC ?_ ?_<;>intro hc)|(refine yN hK ?_;clear hK K))|refine wG ?_|(refine yR ?_;intro K hK)|(refine oLX ?_;first|(refine aiA rfl ?_;intro K hK))|fail)
  exact a6A p (λ w6 e6=>⟨bp,he1.trans e6,ho1.ext e6,hs1.ext e6⟩) oZ sZ
 ·exact a6A (lo+L / 4*2) (λ w6 e6=>⟨by omega,heX.trans e6,hoX.ext e6,hsX.ext e6⟩) oZ sZ
 ·rintro j w3 ⟨bj,he3,ho3,s,hs3⟩
  repeat' (first|(refine yL ?_;first|refine a0A rfl ?_|(refine oD 49 ?_;refine amA hs3 rfl (λ _=>rfl) rfl (by exact Nat.zero_lt_one) ?_;rw [show [s].getD 0 0=s from rfl])|refine yO ?_|(refine yC ?_ ?_<;>intro hc)|(refine yN hK ?_;clear hK K))|refine wG ?_|(refine yR ?_;intro K hK)|fail)
  all_goals exact e2A rfl (λ u v w5 e5 hu hv=>by obtain rfl:u=_:=hu;obtain rfl:v=_:=hv;exact ⟨j,_,rfl,bj,he3.trans e5,ho3.ext e5⟩)
theorem y3A (m:Nat):∀ {w0 w:World} {b cap n:Nat} {D0:Array Int} (he0:Ext w0 w) (ho0:d5A w0 w b cap n D0) (hn:n=D0.size) (hb:D0.size<4611686018427387904) (lo hi lim:Nat) (hm:hi-lo≤m) (h1:lo≤hi) (h2:hi≤D0.size) (hB0:Go.Sort.Below Go.Sort.ltInt lo hi D0) (hl0:lim<4611686018427387904),
 Fc Tryz.prog 110 #[(.slice (some ⟨b,0,none⟩) n cap),.int .i64 lo,.int .i64 hi,.int .i64 lim] w (λ e w'=>e=.returned (.tuple #[])∧Ext w0 w'∧∃ D',Go.Sort.PermIn lo hi D0 D'∧Go.Sort.SortedIn Go.Sort.ltInt lo hi D'∧d5A w0 w' b cap n D'):=by
 induction m using Nat.strongRecOn with
 | ind m ih =>
 intro w0 w b cap n D0 he0 ho0 hn hb lo hi lim hm h1 h2 hB0 hl0;have swo:Go.Sort.SWO Go.Sort.ltInt:=Go.Sort.swo_ltInt;refine Fc.of (args:=[_,_,_,_]) Tryz.func110 rfl rfl Tryz.ntmps110 nZ ?_
 repeat' (first|(refine yL ?_;first|refine a0A rfl ?_|refine yO ?_|(refine yC ?_ ?_<;>intro hc)|(refine yN hK ?_;clear hK K))|refine wG ?_|(refine yR ?_;intro K hK)|fail)
 refine agA (ι:=Nat × Nat × Nat × Bool × Bool × Array Int) (λ i=>[(0,.val (.slice (some ⟨b,0,none⟩) n cap)),(1,.val (.int .i64 ((i.1:Nat):Int))),(2,.val (.int .i64 ((i.2.1:Nat):Int))),(3,.val (.int .i64 ((i.2.2.1:Nat):Int))),(8,.val (.bool i.2.2.2.1)),(9,.val (.bool i.2.2.2.2.1))])
  (λ i w'=>Ext w0 w'∧i.1≤i.2.1∧i.2.1≤D0.size∧i.2.2.2.2.2.size=D0.size∧i.2.1-i.1≤hi-lo∧i.2.2.1<4611686018427387904∧Go.Sort.Below Go.Sort.ltInt i.1 i.2.1 i.2.2.2.2.2∧(∀ R,Go.Sort.PermIn i.1 i.2.1 i.2.2.2.2.2 R→Go.Sort.SortedIn Go.Sort.ltInt i.1 i.2.1 R→Go.Sort.PermIn lo hi D0 R∧Go.Sort.SortedIn Go.Sort.ltInt lo hi R)∧d5A w0 w' b cap n i.2.2.2.2.2) (λ i=>i.2.1-i.1)
  (λ w2 e2=>⟨(lo,hi,lim,true,true,D0),⟨he0.trans e2,h1,h2,rfl,Nat.le_refl _,hl0,hB0,λ R p s=>⟨p,s⟩,ho0.ext e2⟩,by dsimp only;exact sZ⟩) ?_
 rintro ⟨a,z,l,wb,wp,D⟩ w1 ⟨he1,haz,hz,hs1,hza,hl1,hB1,hG1,ho1⟩;dsimp only at haz hz hs1 hza hl1 hB1 hG1 ho1 ⊢
 by_cases h12:z-a≤12
 ·have q0:True:=trivial
  repeat' (first|(refine yL ?_;first|refine a0A rfl ?_|(refine oD 21 ?_;refine abA rfl rfl rfl fZ ?_;rw [show ((z:Int)-a)=((z-a:Nat):Int) by omega])|(refine oD 27 ?_;refine a4A (hK _ _ (g9A (f:=152) (λ w'=>Ext w0 w'∧d5A w0 w' b cap n (Go.Sort.insertionSort Go.Sort.ltInt D a z)) (λ w' e=>yqA (he1.trans e) (ho1.ext e) (hn.trans hs1.symm) a z haz oZ oZ) rfl dZ rfl rfl rfl rfl (λ w2 hw2=>?_)));clear hK K;obtain ⟨he2,ho2⟩:=hw2)|refine yO ?_|(refine yC ?_ ?_<;>intro hc)|(refine yN hK ?_;clear hK K))|refine wG ?_|(refine yR ?_;intro K hK)|fail)
  have hh:=Go.Sort.insertionSort_holds (lt:=Go.Sort.ltInt) swo D a z haz oZ;have hg:=hG1 _ hh.1 hh.2;exact bdA rfl (λ w5 e5=>⟨rfl,he2.trans e5,_,hg.1,hg.2,ho2.ext e5⟩) (.inr rfl)
 by_cases hlz:l=0
 ·have q0:True:=trivial
  repeat' (first|(refine yL ?_;first|refine a0A rfl ?_|(refine oD 21 ?_;refine abA rfl rfl rfl fZ ?_;rw [show ((z:Int)-a)=((z-a:Nat):Int) by omega])|(refine oD 33 ?_;refine a4A (hK _ _ (g9A (f:=153) (λ w'=>Ext w0 w'∧d5A w0 w' b cap n (Go.Sort.heapSort Go.Sort.ltInt D a z)) (λ w' e=>ulA (he1.trans e) (ho1.ext e) (hn.trans hs1.symm) a z haz oZ oZ) rfl dZ rfl rfl rfl rfl (λ w2 hw2=>?_)));clear hK K;obtain ⟨he2,ho2⟩:=hw2)|refine yO ?_|(refine yC ?_ ?_<;>intro hc)|(refine yN hK ?_;clear hK K))|refine wG ?_|(refine yR ?_;intro K hK)|fail)
  have hh:=Go.Sort.heapSort_holds (lt:=Go.Sort.ltInt) swo D a z haz oZ;have hg:=hG1 _ hh.1 hh.2;exact bdA rfl (λ w5 e5=>⟨rfl,he2.trans e5,_,hg.1,hg.2,ho2.ext e5⟩) (.inr rfl)
 repeat' (first|(refine yL ?_;first|refine a0A rfl ?_|(refine oD 21 ?_;refine abA rfl rfl rfl fZ ?_;rw [show ((z:Int)-a)=((z-a:Nat):Int) by omega])|refine yO ?_|(refine yC ?_ ?_<;>intro hc)|(refine yN hK ?_;clear hK K))|(refine oCX ?_;first|refine l4A (id:=7) ?_)|refine wG ?_|(refine yR ?_;intro K hK)|fail)
 refine srA (cmA (id:=7) (ι:=Nat × Array Int) (λ i=>[(0,.val (.slice (some ⟨b,0,none⟩) n cap)),(1,.val (.int .i64 ((a:Nat):Int))),(2,.val (.int .i64 ((z:Nat):Int))),(3,.val (.int .i64 ((i.1:Nat):Int))),(8,.val (.bool wb)),(9,.val (.bool wp)),(10,.val (.int .i64 ((z-a:Nat):Int)))]) (λ i w'=>i.1<4611686018427387904∧Go.Sort.PermIn a z D i.2∧Ext w0 w'∧d5A w0 w' b cap n i.2) ?_ ?_)
 ·cases wb
  ·have q0:True:=trivial
   repeat' (first|(refine yL ?_;first|refine a0A rfl ?_|(refine oD 39 ?_;refine a4A (hK _ _ (g9A (f:=154) (λ w'=>Ext w0 w'∧∃ D',Go.Sort.PermIn a z D D'∧d5A w0 w' b cap n D') (λ w' e=>zdA (he1.trans e) (ho1.ext e) (hn.trans hs1.symm) a z haz oZ oZ) rfl dZ rfl rfl rfl rfl (λ w2 hw2=>?_)));clear hK K;obtain ⟨he2,D2,hp2,ho2⟩:=hw2)|(refine oD 41 ?_;refine abA rfl rfl rfl fZ ?_;rw [show ((l:Int)-1)=((l-1:Nat):Int) by omega])|refine yO ?_|(refine yC ?_ ?_<;>intro hc)|(refine yN hK ?_;clear hK K))|refine wG ?_|(refine yR ?_;intro K hK)|fail)
   exact a6A (l-1,D2) (λ w6 e6=>⟨by dsimp only;omega,hp2,he2.trans e6,ho2.ext e6⟩) oZ (by dsimp only;exact sZ)
  ·have q0:True:=trivial
   repeat' (first|(refine yL ?_;first|refine a0A rfl ?_|refine yO ?_|(refine yC ?_ ?_<;>intro hc)|(refine yN hK ?_;clear hK K))|refine wG ?_|(refine yR ?_;intro K hK)|fail)
   exact a6A (l,D) (λ w6 e6=>⟨hl1,Go.Sort.permIn_refl _ _ _,he1.trans e6,ho1.ext e6⟩) oZ (by dsimp only;exact sZ)
 rintro ⟨l2,D2⟩ w2 ⟨hl2,hp2,he2,ho2⟩;dsimp only at hl2 hp2 ho2 ⊢;have hs2:D2.size=D0.size:=hp2.1.trans hs1
 repeat' (first|(refine yL ?_;first|refine a0A rfl ?_|(refine oD 46 ?_;refine a4A (hK _ _ (cbA (f:=155) rfl dZ rfl rfl rfl rfl (λ v w'=>∃ (p:Nat) (h:Int),v=.tuple #[.int .i64 p,.int .i64 h]∧(a≤p∧p<z)∧Ext w0 w'∧d5A w0 w' b cap n D2) (λ w' e=>(z8A (he2.trans e) (ho2.ext e) (hn.trans hs2.symm) oZ a z oZ oZ).mono (by rintro e5 w5 ⟨p,h,h1,h2⟩;exact ⟨_,h1,p,h,rfl,h2⟩)) (λ v w3 hv=>?_)));clear hK K;obtain ⟨pv,hint,rfl,bpv,he3,ho3⟩:=hv)|(refine oD 54 ?_;refine a4A (hK _ _ (g9A (f:=156) (λ w'=>Ext w0 w'∧d5A w0 w' b cap n (Go.Sort.reverseRange D2 a z)) (λ w' e=>xuA (he3.trans e) (ho3.ext e) (hn.trans hs2.symm) a z oZ oZ oZ) rfl dZ rfl rfl rfl rfl (λ w4 hw4=>?_)));clear hK K;obtain ⟨he4,ho4⟩:=hw4)|(refine oD 60 ?_;refine abA rfl rfl rfl fZ ?_;rw [show ((z:Int)-1-((pv:Int)-a))=((z-1-(pv-a):Nat):Int) by omega])|(refine ctA rfl rfl ?_)|(refine csA rfl rfl ?_)|refine yO ?_|(refine yC ?_ ?_<;>intro hc)|(refine yN hK ?_;clear hK K))|(refine oCX ?_;first|refine l4A (id:=15) ?_|refine cmA (id:=11) (ι:=Nat × Int × Array Int) (λ i=>[(0,.val (.slice (some ⟨b,0,none⟩) n cap)),(1,.val (.int .i64 ((a:Nat):Int))),(2,.val (.int .i64 ((z:Nat):Int))),(3,.val (.int .i64 ((l2:Nat):Int))),(8,.val (.bool wb)),(9,.val (.bool wp)),(10,.val (.int .i64 ((z-a:Nat):Int))),(11,.val (.int .i64 ((i.1:Nat):Int))),(12,.val (.int .i64 i.2.1))]) (λ i w'=>(a≤i.1∧i.1<z)∧Go.Sort.PermIn a z D i.2.2∧Ext w0 w'∧d5A w0 w' b cap n i.2.2) ?_ ?_)|refine wG ?_|(refine yR ?_;intro K hK)|(refine oLX ?_;first|(refine aiA rfl ?_;intro K hK))|fail)
 ·exact a6A (z-1-(pv-a),1,Go.Sort.reverseRange D2 a z) (λ w6 e6=>⟨by dsimp only;omega,Go.Sort.permIn_trans _ _ _ _ _ hp2 (Go.Sort.reverseRange_holds D2 a z haz oZ),he4.trans e6,ho4.ext e6⟩) oZ (by dsimp only;exact sZ)
 ·exact a6A (pv,hint,D2) (λ w6 e6=>⟨bpv,hp2,he3.trans e6,ho3.ext e6⟩) oZ (by dsimp only;exact sZ)
 rintro ⟨p3,hint3,D3⟩ w3 ⟨bp3,hp3,he3,ho3⟩;dsimp only at bp3 hp3 ho3 ⊢;clear ho2 he2 hp2 hs2;have hs3:D3.size=D0.size:=hp3.1.trans hs1;have hB3:Go.Sort.Below Go.Sort.ltInt a z D3:=hB1.perm oZ hp3;have hpi:=Go.Sort.partialInsertionSort_holds (lt:=Go.Sort.ltInt) swo D3 a z oZ oZ hB3;refine cmA (id:=15) (ι:=Array Int) (λ i=>[(0,.val (.slice (some ⟨b,0,none⟩) n cap)),(1,.val (.int .i64 ((a:Nat):Int))),(2,.val (.int .i64 ((z:Nat):Int))),(3,.val (.int .i64 ((l2:Nat):Int))),(8,.val (.bool wb)),(9,.val (.bool wp)),(10,.val (.int .i64 ((z-a:Nat):Int))),(11,.val (.int .i64 ((p3:Nat):Int)))]) (λ i w'=>Go.Sort.PermIn a z D i∧Ext w0 w'∧d5A w0 w' b cap n i) ?_ ?_
 ·by_cases hh1:hint3=1
  ·cases hpb:(Go.Sort.partialInsertionSort Go.Sort.ltInt D3 a z).2 <;> cases wb <;> cases wp
   all_goals
    repeat' (first|(refine yL ?_;first|refine a0A rfl ?_|(refine oD 72 ?_;refine a4A (hK _ _ (cbA (f:=157) rfl dZ rfl rfl rfl rfl (λ v w'=>v=.bool (Go.Sort.partialInsertionSort Go.Sort.ltInt D3 a z).2∧Ext w0 w'∧d5A w0 w' b cap n (Go.Sort.partialInsertionSort Go.Sort.ltInt D3 a z).1) (λ w' e=>(tsA (he3.trans e) (ho3.ext e) (hn.trans hs3.symm) a z oZ oZ oZ).mono (by rintro e5 w5 ⟨h1,h2⟩;exact ⟨_,h1,rfl,h2⟩)) (λ v w5 hv=>?_)));clear hK K;obtain ⟨rfl,he5,ho5⟩:=hv;rw [hpb])|(refine ctA rfl rfl ?_)|(refine csA rfl rfl ?_)|refine yO ?_|(refine yC ?_ ?_<;>intro hc)|(refine yN hK ?_;clear hK K))|refine wG ?_|(refine yR ?_;intro K hK)|(refine oLX ?_;first|(refine aiA rfl ?_;intro K hK))|fail)
   all_goals first
    | (have hg:=hG1 _ (Go.Sort.permIn_trans _ _ _ _ _ hp3 hpi.1) (hpi.2 hpb);exact bdA rfl (λ w6 e6=>⟨rfl,he5.trans e6,_,hg.1,hg.2,ho5.ext e6⟩) (.inr rfl))
    | exact a6A (Go.Sort.partialInsertionSort Go.Sort.ltInt D3 a z).1 (λ w6 e6=>⟨Go.Sort.permIn_trans _ _ _ _ _ hp3 hpi.1,he5.trans e6,ho5.ext e6⟩) oZ sZ
    | exact a6A D3 (λ w6 e6=>⟨hp3,he3.trans e6,ho3.ext e6⟩) oZ sZ
  ·cases wb <;> cases wp
   all_goals
    repeat' (first|(refine yL ?_;first|refine a0A rfl ?_|refine yO ?_|(refine yC ?_ ?_<;>intro hc)|(refine yN hK ?_;clear hK K))|refine wG ?_|(refine yR ?_;intro K hK)|fail)
   all_goals exact a6A D3 (λ w6 e6=>⟨hp3,he3.trans e6,ho3.ext e6⟩) oZ sZ
 intro D4 w4 ⟨hp4,he4,ho4⟩;clear hpi hB3 hs3 hp3 ho3 he3;have hs4:D4.size=D0.size:=hp4.1.trans hs1;have hl4:=b0A D4;have hB4:Go.Sort.Below Go.Sort.ltInt a z D4:=hB1.perm oZ hp4
 by_cases hc:0<a∧Go.Sort.ltInt D4[a-1]! D4[p3]! = false
 ·obtain ⟨mid,D5,hx⟩:∃ mid D5,Go.Sort.partitionEqual Go.Sort.ltInt D4 a z p3=(mid,D5):=⟨_,_,rfl⟩
  obtain ⟨r1,r2,r3,r4,r5⟩:=Go.Sort.round_eq swo (Go.Sort.partitionEqual_holds Go.Sort.ltInt) hc.1 bp3.1 bp3.2 oZ hB4 hc.2 hx
  repeat' (first|(refine yL ?_;first|refine a0A rfl ?_|(refine oD 79 ?_;refine a8A rfl rfl (λ _=>rfl) rfl rfl (a-1) oZ oZ ?_)|(refine oI ?_;refine a8A rfl rfl (λ _=>rfl) rfl rfl _ rfl oZ ?_)|(refine oL ?_;refine amA ho4 rfl (λ _=>rfl) rfl oZ ?_;rw [czA])|(refine oD 92 ?_;refine a4A (hK _ _ (doA (f:=159) rfl dZ rfl rfl rfl rfl rfl (λ v w'=>v=.int .i64 (mid:Int)∧Ext w0 w'∧d5A w0 w' b cap n D5) (λ w' e=>(qaA (he4.trans e) (ho4.ext e) (hn.trans hs4.symm) a z p3 oZ oZ oZ oZ).mono (by rw [hx];rintro e5 w5 ⟨h1,h2⟩;exact ⟨_,h1,rfl,h2⟩)) (λ v w6 hv=>?_)));clear hK K;obtain ⟨rfl,he6,ho6⟩:=hv)|(refine ctA rfl rfl ?_)|(refine csA rfl rfl ?_)|refine yO ?_|(refine yC ?_ ?_<;>intro hc)|(refine yV ?_;first|(refine oC 158 ?_;refine a3A (f:=158) rfl rfl rfl rfl  (.val (.bool false)) (by intro u1 u2 w e hu1 hu2;(try obtain rfl:u1=_:=hu1);(try obtain rfl:u2=_:=hu2);exact arA (by rw [hc.2]) (b7A _ _ _)) ?_))|(refine yN hK ?_;clear hK K))|refine wG ?_|(refine yR ?_;intro K hK)|(refine oLX ?_;first|(refine aiA rfl ?_;intro K hK))|fail)
  exact a6A (mid,z,l2,wb,wp,D5) (λ w7 e7=>⟨he6.trans e7,by dsimp only;omega,by dsimp only;omega,by dsimp only;exact r3.trans hs4,by dsimp only;omega,hl2,r4,λ R p s=>hG1 R (Go.Sort.permIn_trans _ _ _ _ _ hp4 (r5 R p s).1) (r5 R p s).2,ho6.ext e7⟩) eZ (by dsimp only;exact sZ)
 refine cmA (id:=17) (ι:=Unit) (λ _=>[(0,.val (.slice (some ⟨b,0,none⟩) n cap)),(1,.val (.int .i64 ((a:Nat):Int))),(2,.val (.int .i64 ((z:Nat):Int))),(3,.val (.int .i64 ((l2:Nat):Int))),(8,.val (.bool wb)),(9,.val (.bool wp)),(10,.val (.int .i64 ((z-a:Nat):Int))),(11,.val (.int .i64 ((p3:Nat):Int)))]) (λ _ w'=>Ext w0 w'∧d5A w0 w' b cap n D4) ?_ ?_
 ·by_cases ha0:0<a
  ·cases hp:Go.Sort.ltInt D4[a-1]! D4[p3]!
   ·exact absurd ⟨ha0,hp⟩ hc
   ·have q0:True:=trivial
    repeat' (first|(refine yL ?_;first|refine a0A rfl ?_|(refine oD 79 ?_;refine a8A rfl rfl (λ _=>rfl) rfl rfl (a-1) oZ oZ ?_)|(refine oI ?_;refine a8A rfl rfl (λ _=>rfl) rfl rfl _ rfl oZ ?_)|(refine oL ?_;refine amA ho4 rfl (λ _=>rfl) rfl oZ ?_;rw [czA])|refine yO ?_|(refine yC ?_ ?_<;>intro hc)|(refine yV ?_;first|(refine oC 158 ?_;refine a3A (f:=158) rfl rfl rfl rfl  (.val (.bool true)) (by intro u1 u2 w e hu1 hu2;(try obtain rfl:u1=_:=hu1);(try obtain rfl:u2=_:=hu2);exact arA (by rw [hp]) (b7A _ _ _)) ?_))|(refine yN hK ?_;clear hK K))|refine wG ?_|(refine yR ?_;intro K hK)|fail)
    exact a6A () (λ w7 e7=>⟨he4.trans e7,ho4.ext e7⟩) oZ sZ
  ·have q0:True:=trivial
   repeat' (first|(refine yL ?_;first|refine a0A rfl ?_|refine yO ?_|(refine yC ?_ ?_<;>intro hc)|(refine yN hK ?_;clear hK K))|refine wG ?_|(refine yR ?_;intro K hK)|fail)
   exact a6A () (λ w7 e7=>⟨he4.trans e7,ho4.ext e7⟩) oZ sZ
 ·intro _ w5 ⟨he5,ho5⟩
  obtain ⟨mid,ap,D5,hx⟩:∃ mid ap D5,Go.Sort.partition Go.Sort.ltInt D4 a z p3=(mid,ap,D5):=⟨_,_,_,rfl⟩;obtain ⟨r1,r2,r3,hBa,hBr,hleft,hright⟩:=Go.Sort.round_part swo (Go.Sort.partition_holds Go.Sort.ltInt) bp3.1 bp3.2 oZ hB4 hx
  repeat' (first|(refine yL ?_;first|refine a0A rfl ?_|(refine oD 99 ?_;refine a4A (hK _ _ (doA (f:=160) rfl dZ rfl rfl rfl rfl rfl (λ v w'=>v=.tuple #[.int .i64 (mid:Int),.bool ap]∧Ext w0 w'∧d5A w0 w' b cap n D5) (λ w' e=>(twA (he5.trans e) (ho5.ext e) (hn.trans hs4.symm) a z p3 oZ oZ oZ oZ).mono (by rw [hx];rintro e5 w5 ⟨h1,h2⟩;exact ⟨_,h1,rfl,h2⟩)) (λ v wA hv=>?_)));clear hK K;obtain ⟨rfl,heA,hoA⟩:=hv)|(refine oD 105 ?_;refine abA rfl rfl rfl fZ ?_;rw [show ((mid:Int)-a)=((mid-a:Nat):Int) by omega])|(refine oD 108 ?_;refine abA rfl rfl rfl fZ ?_;rw [show ((z:Int)-mid)=((z-mid:Nat):Int) by omega])|(refine oD 123 ?_;refine beA rfl rfl rfl fZ ?_;rw [show ((mid:Int)+1)=((mid+1:Nat):Int) by omega])|(refine oD 129 ?_;refine beA rfl rfl rfl fZ ?_;rw [show ((mid:Int)+1)=((mid+1:Nat):Int) by omega])|(refine oD 121 ?_;refine a4A (hK _ _ (faA (f:=110) (λ w'=>Ext w0 w'∧∃ D',Go.Sort.PermIn a mid D5 D'∧Go.Sort.SortedIn Go.Sort.ltInt a mid D'∧d5A w0 w' b cap n D') (λ w' e=>ih (m-1) oZ (heA.trans e) (hoA.ext e) (hn.trans (r3.trans hs4).symm) oZ a mid l2 oZ oZ oZ hBa hl2) rfl dZ rfl rfl rfl rfl rfl (λ w6 hw6=>?_)));clear hK K;obtain ⟨he6,D6,hp6,hs6,ho6⟩:=hw6)|(refine oD 132 ?_;refine a4A (hK _ _ (faA (f:=110) (λ w'=>Ext w0 w'∧∃ D',Go.Sort.PermIn (mid+1) z D5 D'∧Go.Sort.SortedIn Go.Sort.ltInt (mid+1) z D'∧d5A w0 w' b cap n D') (λ w' e=>ih (m-1) oZ (heA.trans e) (hoA.ext e) (hn.trans (r3.trans hs4).symm) oZ (mid+1) z l2 oZ oZ oZ hBr hl2) rfl dZ rfl rfl rfl rfl rfl (λ w6 hw6=>?_)));clear hK K;obtain ⟨he6,D6,hp6,hs6,ho6⟩:=hw6)|(refine ctA rfl rfl ?_)|(refine csA rfl rfl ?_)|refine yO ?_|(refine yC ?_ ?_<;>intro hc)|(refine yN hK ?_;clear hK K))|refine wG ?_|(refine yR ?_;intro K hK)|(refine oLX ?_;first|(refine aiA rfl ?_;intro K hK))|fail)
  ·exact a6A (mid+1,z,l2,true,ap,D6) (λ w7 e7=>⟨he6.trans e7,by dsimp only;omega,by dsimp only;omega,by dsimp only;exact hp6.1.trans (r3.trans hs4),by dsimp only;omega,hl2,(hleft D6 hp6 hs6).1,λ R p s=>hG1 R (Go.Sort.permIn_trans _ _ _ _ _ hp4 ((hleft D6 hp6 hs6).2 R p s).1) ((hleft D6 hp6 hs6).2 R p s).2,ho6.ext e7⟩) eZ (by dsimp only;exact sZ)
  ·exact a6A (mid+1,z,l2,false,ap,D6) (λ w7 e7=>⟨he6.trans e7,by dsimp only;omega,by dsimp only;omega,by dsimp only;exact hp6.1.trans (r3.trans hs4),by dsimp only;omega,hl2,(hleft D6 hp6 hs6).1,λ R p s=>hG1 R (Go.Sort.permIn_trans _ _ _ _ _ hp4 ((hleft D6 hp6 hs6).2 R p s).1) ((hleft D6 hp6 hs6).2 R p s).2,ho6.ext e7⟩) eZ (by dsimp only;exact sZ)
  ·exact a6A (a,mid,l2,true,ap,D6) (λ w7 e7=>⟨he6.trans e7,by dsimp only;omega,by dsimp only;omega,by dsimp only;exact hp6.1.trans (r3.trans hs4),by dsimp only;omega,hl2,(hright D6 hp6 hs6).1,λ R p s=>hG1 R (Go.Sort.permIn_trans _ _ _ _ _ hp4 ((hright D6 hp6 hs6).2 R p s).1) ((hright D6 hp6 hs6).2 R p s).2,ho6.ext e7⟩) eZ (by dsimp only;exact sZ)
  ·exact a6A (a,mid,l2,false,ap,D6) (λ w7 e7=>⟨he6.trans e7,by dsimp only;omega,by dsimp only;omega,by dsimp only;exact hp6.1.trans (r3.trans hs4),by dsimp only;omega,hl2,(hright D6 hp6 hs6).1,λ R p s=>hG1 R (Go.Sort.permIn_trans _ _ _ _ _ hp4 ((hright D6 hp6 hs6).2 R p s).1) ((hright D6 hp6 hs6).2 R p s).2,ho6.ext e7⟩) eZ (by dsimp only;exact sZ)
theorem insN32_c {w:World}:Fc Tryz.prog 152 #[.slice none 0 0,.int .i64 0,.int .i64 0] w (λ e w'=>e=.returned (.tuple #[])∧Ext w w'):=by
 refine Fc.of (args:=[_,_,_]) Tryz.func152 rfl rfl Tryz.ntmps152 nZ ?_
 repeat' (first|(refine yL ?_;first|refine a0A rfl ?_|refine yO ?_|(refine yC ?_ ?_<;>intro hc)|(refine yN hK ?_;clear hK K))|refine wG ?_|(refine yR ?_;intro K hK)|fail)
 refine b5A (ι:=Unit) (λ i=>[(0,.val (.slice none 0 0)),(2,.val (.int .i64 0)),(6,.val (.int .i64 1))]) (λ _=>True) (λ _=>0) () trivial sZ ?_
 rintro _ -
 repeat' (first|(refine yL ?_;first|refine a0A rfl ?_|refine yO ?_|(refine yC ?_ ?_<;>intro hc)|(refine yN hK ?_;clear hK K))|refine wG ?_|(refine yR ?_;intro K hK)|fail)
 exact bdA rfl (λ w5 e5=>⟨rfl,e5⟩) (.inl rfl)
theorem tuA {w:World} (lim:Nat) (hl:lim<4611686018427387904):Fc Tryz.prog 110 #[.slice none 0 0,.int .i64 0,.int .i64 0,.int .i64 lim] w (λ e w'=>e=.returned (.tuple #[])∧Ext w w'):=by
 refine Fc.of (args:=[_,_,_,_]) Tryz.func110 rfl rfl Tryz.ntmps110 nZ ?_
 repeat' (first|(refine yL ?_;first|refine a0A rfl ?_|refine yO ?_|(refine yC ?_ ?_<;>intro hc)|(refine yN hK ?_;clear hK K))|refine wG ?_|(refine yR ?_;intro K hK)|fail)
 refine b5A (ι:=Unit) (λ i=>[(0,.val (.slice none 0 0)),(1,.val (.int .i64 0)),(2,.val (.int .i64 0)),(3,.val (.int .i64 lim))]) (λ _=>True) (λ _=>0) () trivial sZ ?_
 rintro _ -
 repeat' (first|(refine yL ?_;first|refine a0A rfl ?_|(refine oD 27 ?_;refine a4A (hK _ _ (g9A (f:=152) (λ w'=>Ext w w') (λ w' e=>insN32_c.mono (by rintro e5 w5 ⟨h1,h2⟩;exact ⟨h1,e.trans h2⟩)) rfl dZ rfl rfl rfl rfl (λ w2 hw2=>?_)));clear hK K)|refine yO ?_|(refine yC ?_ ?_<;>intro hc)|(refine yN hK ?_;clear hK K))|refine wG ?_|(refine yR ?_;intro K hK)|fail)
 exact bdA rfl (λ w5 e5=>⟨rfl,hw2.trans e5⟩) (.inr rfl)
theorem sort32_c {w0 w:World} {v:Value} {xs:List Int} (he0:Ext w0 w) (ho:OwnI w0.heap.size 49 .u32 w v xs) (hb:xs.length<4611686018427387904) :
 Fc Tryz.prog 75 #[v] w (λ e w'=>e=.returned (.tuple #[])∧Ext w0 w'∧OwnI w0.heap.size 49 .u32 w' v (xs.mergeSort (λ x y=>decide (x≤y)))):=by
 rcases ho.2 with ⟨rfl,h0⟩|⟨b,cap,cur,rfl,hx⟩
 ·have hx0:xs=[]:=List.eq_nil_of_length_eq_zero h0
  subst hx0;refine Fc.of (args:=[_]) Tryz.func75 rfl rfl Tryz.ntmps75 nZ ?_
  repeat' (first|(refine yL ?_;first|refine a0A rfl ?_|(refine c7A ?_;refine asA rfl _ rfl rfl (by exact (HasI.val (OwnI.slI ho)).c) ?_)|(refine oD 10 ?_;refine a4A (hK _ _ (faA (f:=110) (λ w'=>Ext w0 w') (λ w' e=>(tuA (Go.Sort.bitsLen 0) dZ).mono (by rintro e5 w5 ⟨h1,h2⟩;exact ⟨h1,(he0.trans e).trans h2⟩)) rfl dZ rfl rfl rfl rfl rfl (λ w2 hw2=>?_)));clear hK K)|refine yO ?_|(refine yC ?_ ?_<;>intro hc)|(refine yV ?_;first|(refine oC 111 ?_;refine a2A (f:=111) rfl rfl rfl  (.val (.int .i64 (Go.Sort.bitsLen 0:Nat))) (by intro u1 w e hu1;(try obtain rfl:u1=_:=hu1);exact hkA 0 oZ) ?_))|(refine yN hK ?_;clear hK K))|refine wG ?_|(refine yR ?_;intro K hK)|fail)
  exact bdA rfl (λ w5 e5=>⟨rfl,hw2.trans e5,by rw [List.mergeSort_nil];exact OwnI.nil⟩) (.inl rfl)
 ·have hk:Go.Sort.bitsLen xs.length≤62:=(Go.Sort.bitsLen_le_iff _ 62).2 oZ
  have ho1:d5A w0 w b cap xs.length xs.toArray:=ho;refine Fc.of (args:=[_]) Tryz.func75 rfl rfl Tryz.ntmps75 nZ ?_
  repeat' (first|(refine yL ?_;first|refine a0A rfl ?_|(refine c7A ?_;refine asA rfl _ rfl rfl (by exact (HasI.val (OwnI.slI ho)).c) ?_)|(refine oD 10 ?_;refine a4A (hK _ _ (faA (f:=110) (λ w'=>Ext w0 w'∧∃ D',Go.Sort.PermIn 0 xs.length xs.toArray D'∧Go.Sort.SortedIn Go.Sort.ltInt 0 xs.length D'∧d5A w0 w' b cap xs.length D') (λ w' e=>y3A xs.length (he0.trans e) (ho1.ext e) (by simp) (by simpa using hb) 0 xs.length (Go.Sort.bitsLen xs.length) oZ oZ (by simp) (.inl rfl) oZ) rfl dZ rfl rfl rfl rfl rfl (λ w2 hw2=>?_)));clear hK K;obtain ⟨he2,D',hp,hs,ho2⟩:=hw2)|refine yO ?_|(refine yC ?_ ?_<;>intro hc)|(refine yV ?_;first|(refine oC 111 ?_;refine a2A (f:=111) rfl rfl rfl  (.val (.int .i64 (Go.Sort.bitsLen xs.length:Nat))) (by intro u1 w e hu1;(try obtain rfl:u1=_:=hu1);exact hkA xs.length oZ) ?_))|(refine yN hK ?_;clear hK K))|refine wG ?_|(refine yR ?_;intro K hK)|fail)
  have hu:=Go.Sort.sorted_unique_holds (lt:=Go.Sort.ltInt) Go.Sort.swo_ltInt (by intro x y h1 h2;simp [Go.Sort.ltInt] at h1 h2;omega) xs.toArray D' (by simpa using hp) (by simpa using hs);have hle:(λ x y:Int=>!Go.Sort.ltInt y x)=(λ x y=>decide (x≤y)):=by
   funext x y;unfold Go.Sort.ltInt;by_cases h:x≤y <;> simp [h] <;> omega
  rw [hle] at hu;exact bdA rfl (λ w5 e5=>⟨rfl,he2.trans e5,by have h3:=OwnI.ext ho2 e5;rw [hu] at h3;exact h3⟩) (.inl rfl)
end Srt
end Go.Proofs.YtlnaebejmjmepaaGreatDoor
end
