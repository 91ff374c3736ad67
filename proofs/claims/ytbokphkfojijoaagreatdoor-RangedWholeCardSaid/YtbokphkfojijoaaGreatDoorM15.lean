import Derived.Test.YtbokphkfojijoaaGreatDoorM9
import Derived.Test.YtbokphkfojijoaaGreatDoorM14
section
set_option linter.unusedSimpArgs false
set_option linter.unusedVariables false
set_option maxRecDepth 3000
namespace Go.Proofs.YtbokphkfojijoaaGreatDoor
namespace Srt
open Go.LA Go.ArrP Go.RowKit
theorem xmA (w:World) (a:Int):Fc Tryz.prog 212 #[.int .u16 a] w (Ret w (.val (.bool false))):=by
  refine Fc.of (args:=[_]) Tryz.func212 rfl rfl Tryz.ntmps212 (Nat.le_of_ble_eq_true rfl) ?_
  repeat' (first|(refine oLA ?_;first|refine a0A rfl ?_|refine wOp ?_|(refine wCm ?_ ?_<;>intro hc)|(refine wNl hK ?_;clear hK K))|refine wG ?_|(refine wCR ?_;intro K hK)|fail)
  exact abA rfl rfl (Ext.refl _) rfl
theorem ayA (w:World) (a b:Int):Fc Tryz.prog 191 #[.int .u16 a,.int .u16 b] w (Ret w (.val (.bool (Go.Sort.ltInt a b)))):=by
  refine Fc.of (args:=[_,_]) Tryz.func191 rfl rfl Tryz.ntmps191 (Nat.le_of_ble_eq_true rfl) ?_
  repeat' (first|(refine oLA ?_;first|refine a0A rfl ?_|refine wOp ?_|(refine wCm ?_ ?_<;>intro hc)|(refine oCv ?_;first|(refine oC 212 ?_;refine a2A (f:=212) rfl rfl rfl  (.val (.bool false)) (by intro u1 w e hu1;(try obtain rfl:u1=_:=hu1);exact xmA _ _) ?_))|(refine wNl hK ?_;clear hK K))|refine wG ?_|(refine wCR ?_;intro K hK)|fail)
  all_goals (refine abA rfl rfl (Ext.refl _) ?_;unfold Go.Sort.ltInt;simp [hc])
abbrev d8A (w0 w:World) (b cap n:Nat) (D:Array Int):Prop:=OwnI w0.heap.size 31 .u16 w (.slice (some ⟨b,0,none⟩) n cap) D.toList
def uuA (w0:World) (b cap n:Nat) (D:Array Int):Ending → World → Prop:=fun e w'=>e=.returned (.tuple #[]) ∧ Ext w0 w' ∧ d8A w0 w' b cap n D
set_option maxHeartbeats 4000000 in
theorem y1A {w0 w:World} {b cap n:Nat} {D:Array Int} (he0:Ext w0 w) (ho0:d8A w0 w b cap n D) (hn:n=D.size) (lo hi:Nat) (h1:lo ≤ hi) (h2:hi ≤ D.size) (hb:D.size < 4611686018427387904) :
    Fc Tryz.prog 203 #[.slice (some ⟨b,0,none⟩) n cap,.int .i64 lo,.int .i64 hi] w (uuA w0 b cap n (Go.Sort.insertionSort Go.Sort.ltInt D lo hi)):=by
  refine Fc.of (args:=[_,_,_]) Tryz.func203 rfl rfl Tryz.ntmps203 (Nat.le_of_ble_eq_true rfl) ?_
  repeat' (first|(refine oLA ?_;first|refine a0A rfl ?_|refine wOp ?_|(refine wCm ?_ ?_<;>intro hc)|(refine wNl hK ?_;clear hK K))|refine wG ?_|(refine wCR ?_;intro K hK)|fail)
  refine adA (ι:=Nat × Array Int) (fun i=>[(0,.val (.slice (some ⟨b,0,none⟩) n cap)),(1,.val (.int .i64 lo)),(2,.val (.int .i64 hi)),(6,.val (.int .i64 (i.1:Int)))])
    (fun i w'=>Ext w0 w' ∧ lo + 1 ≤ i.1 ∧ i.1 ≤ hi + 1 ∧ i.2.size=D.size ∧ d8A w0 w' b cap n i.2 ∧ Go.Sort.insOuter Go.Sort.ltInt lo hi i.1 i.2=Go.Sort.insertionSort Go.Sort.ltInt D lo hi) (fun i=>hi + 1 - i.1)
    (fun w2 e2=>⟨(lo + 1,D),⟨he0.trans e2,Nat.le_refl _,by dsimp only;omega,rfl,ho0.ext e2,rfl⟩,(by repeat' (first | exact Sub.nil | refine Sub.val rfl (by first | with_reducible rfl | (congr 1;omega)) ?_ | refine Sub.same rfl ?_))⟩) ?_
  rintro ⟨i,D1⟩ w1 ⟨he1,hi1,hi2,hs1,ho1,hr1⟩
  dsimp only at hi1 hi2 hs1 ho1 hr1 ⊢
  by_cases hlt:i < hi
  · rw [Go.Sort.insOuter,if_pos hlt] at hr1
    repeat' (first|(refine oLA ?_;first|refine a0A rfl ?_|refine wOp ?_|(refine wCm ?_ ?_<;>intro hc)|(refine wNl hK ?_;clear hK K))|refine wG ?_|(refine wCR ?_;intro K hK)|fail)
    refine adA (ι:=Nat × Array Int) (fun j=>[(0,.val (.slice (some ⟨b,0,none⟩) n cap)),(1,.val (.int .i64 lo)),(2,.val (.int .i64 hi)),(6,.val (.int .i64 (i:Int))),(7,.val (.int .i64 (j.1:Int)))])
      (fun j w'=>Ext w0 w' ∧ j.1 ≤ i ∧ j.2.size=D.size ∧ d8A w0 w' b cap n j.2 ∧ Go.Sort.insOuter Go.Sort.ltInt lo hi (i + 1) (Go.Sort.insInner Go.Sort.ltInt lo j.1 j.2)=Go.Sort.insertionSort Go.Sort.ltInt D lo hi) (fun j=>j.1)
      (fun w2 e2=>⟨(i,D1),⟨he1.trans e2,Nat.le_refl _,hs1,ho1.ext e2,hr1⟩,(by repeat' (first | exact Sub.nil | refine Sub.val rfl (by first | with_reducible rfl | (congr 1;omega)) ?_ | refine Sub.same rfl ?_))⟩) ?_
    rintro ⟨j,D2⟩ w2 ⟨he2,hj1,hs2,ho2,hr2⟩
    dsimp only at hj1 hs2 ho2 hr2 ⊢
    have hl2:=asA D2
    cases j with
    | zero =>
      repeat' (first|(refine oLA ?_;first|refine a0A rfl ?_|refine wOp ?_|(refine wCm ?_ ?_<;>intro hc)|(refine wNl hK ?_;clear hK K))|refine wG ?_|(refine wCR ?_;intro K hK)|fail)
      exact a6A (i + 1,D2) (fun w5 e5=>⟨he2.trans e5,by dsimp only;omega,by dsimp only;omega,hs2,ho2.ext e5,hr2⟩) (by dsimp only;omega) (by repeat' (first | exact Sub.nil | refine Sub.val rfl (by first | with_reducible rfl | (congr 1;omega)) ?_ | refine Sub.same rfl ?_))
    | succ j =>
      by_cases hjl:lo < j + 1
      · cases hl:Go.Sort.ltInt D2[j + 1]! D2[j]!
        · have hr3:Go.Sort.insInner Go.Sort.ltInt lo (j + 1) D2=D2:=by rw [Go.Sort.insInner,hl];simp
          rw [hr3] at hr2
          repeat' (first|(refine oLA ?_;first|refine a0A rfl ?_|(refine oI ?_;refine a9A rfl rfl (fun _=>rfl) rfl rfl _ rfl (by omega) ?_)|(refine oL ?_;refine alA ho2 rfl (fun _=>rfl) rfl (by omega) ?_;rw [cuA])|(refine oD 27 ?_;refine a9A rfl rfl (fun _=>rfl) rfl rfl j (by omega) (by omega) ?_)|refine wOp ?_|(refine wCm ?_ ?_<;>intro hc)|(refine oCv ?_;first|(refine oC 191 ?_;refine a3A (f:=191) rfl rfl rfl rfl  (.val (.bool false)) (by intro u1 u2 w e hu1 hu2;(try obtain rfl:u1=_:=hu1);(try obtain rfl:u2=_:=hu2);exact anA (by rw [hl]) (ayA _ _ _)) ?_))|(refine wNl hK ?_;clear hK K))|refine wG ?_|(refine wCR ?_;intro K hK)|fail)
          exact a6A (i + 1,D2) (fun w5 e5=>⟨he2.trans e5,by dsimp only;omega,by dsimp only;omega,hs2,ho2.ext e5,hr2⟩) (by dsimp only;omega) (by repeat' (first | exact Sub.nil | refine Sub.val rfl (by first | with_reducible rfl | (congr 1;omega)) ?_ | refine Sub.same rfl ?_))
        · have hr3:Go.Sort.insInner Go.Sort.ltInt lo (j + 1) D2=Go.Sort.insInner Go.Sort.ltInt lo j (Go.Sort.swp D2 (j + 1) j):=by rw [Go.Sort.insInner,hl];simp [hjl]
          rw [hr3] at hr2
          repeat' (first|(refine oLA ?_;first|refine wBk ?_|(refine oI ?_;refine a9A rfl rfl (fun _=>rfl) rfl rfl _ rfl (by omega) ?_)|(refine oL ?_;refine alA ho2 rfl (fun _=>rfl) rfl (by omega) ?_;rw [cuA])|(refine oD 27 ?_;refine a9A rfl rfl (fun _=>rfl) rfl rfl j (by omega) (by omega) ?_)|(refine oD 41 ?_;refine a9A rfl rfl (fun _=>rfl) rfl rfl j (by omega) (by omega) ?_)|refine wOp ?_|(refine wCm ?_ ?_<;>intro hc)|(refine oCv ?_;first|(refine oC 191 ?_;refine a3A (f:=191) rfl rfl rfl rfl  (.val (.bool true)) (by intro u1 u2 w e hu1 hu2;(try obtain rfl:u1=_:=hu1);(try obtain rfl:u2=_:=hu2);exact anA (by rw [hl]) (ayA _ _ _)) ?_))|(refine wNl hK ?_;clear hK K))|(refine oCX ?_;first|refine ajA (id:=6) [15,17] (by kernel_rfl) (by kernel_rfl) (by kernel_rfl) (a7A ?_))|refine wG ?_|(refine wCR ?_;intro K hK)|refine wPh ?_|fail)
          refine amA (j:=j + 1) rfl he2 ho2 rfl rfl (by omega) (fun _=>rfl) (fun wS1 heS1 hoS1=>?_)
          refine a7A ?_
          repeat' (first|(refine oLA ?_;first|refine wBk ?_|(refine oD 48 ?_;refine a9A rfl rfl (fun _=>rfl) rfl rfl (j) (by omega) (by omega) ?_)|refine wOp ?_|(refine wCm ?_ ?_<;>intro hc)|(refine wNl hK ?_;clear hK K))|refine wG ?_|(refine wCR ?_;intro K hK)|refine wPh ?_|fail)
          refine amA (j:=j) rfl heS1 hoS1 rfl rfl (by rw [List.length_set];omega) (fun _=>rfl) (fun wS heS hoS=>?_)
          rw [awA] at hoS
          refine aiA ?_
          repeat' (first|(refine oLA ?_;first|refine wBk ?_|refine wOp ?_|(refine wCm ?_ ?_<;>intro hc)|(refine wNl hK ?_;clear hK K))|refine wG ?_|(refine wCR ?_;intro K hK)|refine wPh ?_|fail)
          exact a6A (j,Go.Sort.swp D2 (j + 1) j) (fun w5 e5=>⟨heS.trans e5,by dsimp only;omega,by dsimp only;rw [swp_size];exact hs2,hoS.ext e5,hr2⟩) (by dsimp only;omega) (by repeat' (first | exact Sub.nil | refine Sub.val rfl (by first | with_reducible rfl | (congr 1;omega)) ?_ | refine Sub.same rfl ?_))
      · have hr3:Go.Sort.insInner Go.Sort.ltInt lo (j + 1) D2=D2:=by rw [Go.Sort.insInner];simp [hjl]
        rw [hr3] at hr2
        repeat' (first|(refine oLA ?_;first|refine a0A rfl ?_|refine wOp ?_|(refine wCm ?_ ?_<;>intro hc)|(refine wNl hK ?_;clear hK K))|refine wG ?_|(refine wCR ?_;intro K hK)|fail)
        exact a6A (i + 1,D2) (fun w5 e5=>⟨he2.trans e5,by dsimp only;omega,by dsimp only;omega,hs2,ho2.ext e5,hr2⟩) (by dsimp only;omega) (by repeat' (first | exact Sub.nil | refine Sub.val rfl (by first | with_reducible rfl | (congr 1;omega)) ?_ | refine Sub.same rfl ?_))
  · rw [Go.Sort.insOuter,if_neg hlt] at hr1
    repeat' (first|(refine oLA ?_;first|refine a0A rfl ?_|refine wOp ?_|(refine wCm ?_ ?_<;>intro hc)|(refine wNl hK ?_;clear hK K))|refine wG ?_|(refine wCR ?_;intro K hK)|fail)
    refine bmA rfl (fun w5 e5=>⟨rfl,he1.trans e5,hr1 ▸ ho1.ext e5⟩) (.inl rfl)
end Srt
end Go.Proofs.YtbokphkfojijoaaGreatDoor
end
section
set_option linter.unusedSimpArgs false
set_option linter.unusedVariables false
set_option maxRecDepth 3000
namespace Go.Proofs.YtbokphkfojijoaaGreatDoor
namespace Srt
open Go.LA Go.ArrP Go.RowKit
set_option maxHeartbeats 8000000 in
theorem nhA {w0 w:World} {b cap n:Nat} {D:Array Int} (he0:Ext w0 w) (ho0:d8A w0 w b cap n D) (hn:n=D.size) (lo hi first:Nat) (h1:lo ≤ hi) (h2:first + hi ≤ D.size) (hb:D.size < 4611686018427387904) :
    Fc Tryz.prog 216 #[.slice (some ⟨b,0,none⟩) n cap,.int .i64 lo,.int .i64 hi,.int .i64 first] w (uuA w0 b cap n (Go.Sort.siftDown Go.Sort.ltInt hi first lo D)):=by
  refine Fc.of (args:=[_,_,_,_]) Tryz.func216 rfl rfl Tryz.ntmps216 (Nat.le_of_ble_eq_true rfl) ?_
  repeat' (first|(refine oLA ?_;first|refine a0A rfl ?_|refine wOp ?_|(refine wCm ?_ ?_<;>intro hc)|(refine wNl hK ?_;clear hK K))|refine wG ?_|(refine wCR ?_;intro K hK)|fail)
  refine adA (ι:=Nat × Array Int) (fun i=>[(0,.val (.slice (some ⟨b,0,none⟩) n cap)),(2,.val (.int .i64 hi)),(3,.val (.int .i64 first)),(8,.val (.int .i64 (i.1:Int)))])
    (fun i w'=>Ext w0 w' ∧ i.1 ≤ hi ∧ i.2.size=D.size ∧ d8A w0 w' b cap n i.2 ∧ Go.Sort.siftDown Go.Sort.ltInt hi first i.1 i.2=Go.Sort.siftDown Go.Sort.ltInt hi first lo D) (fun i=>hi - i.1)
    (fun w2 e2=>⟨(lo,D),⟨he0.trans e2,h1,rfl,ho0.ext e2,rfl⟩,(by repeat' (first | exact Sub.nil | refine Sub.val rfl (by first | with_reducible rfl | (congr 1;omega)) ?_ | refine Sub.same rfl ?_))⟩) ?_
  rintro ⟨r,D1⟩ w1 ⟨he1,hr0,hs1,ho1,hr1⟩
  dsimp only at hr0 hs1 ho1 hr1 ⊢
  have hl1:=asA D1
  by_cases hlt:2 * r + 1 ≥ hi
  · have hst:Go.Sort.siftDown Go.Sort.ltInt hi first r D1=D1:=by rw [Go.Sort.siftDown,dif_pos hlt]
    rw [hst] at hr1
    repeat' (first|(refine oLA ?_;first|refine a0A rfl ?_|refine wOp ?_|(refine wCm ?_ ?_<;>intro hc)|(refine wNl hK ?_;clear hK K))|refine wG ?_|(refine wCR ?_;intro K hK)|fail)
    exact bmA rfl (fun w5 e5=>⟨rfl,he1.trans e5,hr1 ▸ ho1.ext e5⟩) (.inl rfl)
  · by_cases h22:2 * r + 1 + 1 < hi
    · cases hll:Go.Sort.ltInt D1[first + (2 * r + 1)]! D1[first + (2 * r + 1) + 1]!
      · have q0:True:=trivial
        have hgo:=sift_go (lt:=Go.Sort.ltInt) (hi:=hi) (first:=first) (d:=D1) (r:=r) (c:=2 * r + 1) (by omega) (by rw [hll];simp)
        cases hl:Go.Sort.ltInt D1[first + r]! D1[first + (2 * r + 1)]!
        · rw [hl] at hgo
          simp only [Bool.false_eq_true,if_false] at hgo
          rw [hgo] at hr1
          repeat' (first|(refine oLA ?_;first|refine a0A rfl ?_|(refine oD 35 ?_;refine oC 191 ?_;refine a3A (f:=191) rfl rfl rfl rfl  (.val (.bool false)) (by intro u1 u2 w e hu1 hu2;(try obtain rfl:u1=_:=hu1);(try obtain rfl:u2=_:=hu2);exact anA (by rw [hll]) (ayA _ _ _)) ?_)|(refine oD 26 ?_;refine a9A rfl rfl (fun _=>rfl) rfl rfl (first + (2 * r + 1)) (by omega) (by omega) ?_)|(refine oD 33 ?_;refine a9A rfl rfl (fun _=>rfl) rfl rfl (first + (2 * r + 1) + 1) (by omega) (by omega) ?_)|(refine oD 43 ?_;refine a9A rfl rfl (fun _=>rfl) rfl rfl (first + r) (by omega) (by omega) ?_)|(refine oD 49 ?_;refine a9A rfl rfl (fun _=>rfl) rfl rfl (first + (2 * r + 1)) (by omega) (by omega) ?_)|(refine oL ?_;refine alA ho1 rfl (fun _=>rfl) rfl (by omega) ?_;rw [cuA])|(refine oD 51 ?_;refine oC 191 ?_;refine a3A (f:=191) rfl rfl rfl rfl  (.val (.bool false)) (by intro u1 u2 w e hu1 hu2;(try obtain rfl:u1=_:=hu1);(try obtain rfl:u2=_:=hu2);exact anA (by rw [hl]) (ayA _ _ _)) ?_)|refine wOp ?_|(refine wCm ?_ ?_<;>intro hc)|(refine wNl hK ?_;clear hK K))|refine wG ?_|(refine wCR ?_;intro K hK)|fail)
          exact bmA rfl (fun w5 e5=>⟨rfl,he1.trans e5,hr1 ▸ ho1.ext e5⟩) (.inr rfl)
        · rw [hl] at hgo
          simp only [if_true] at hgo
          rw [hgo] at hr1
          repeat' (first|(refine oLA ?_;first|refine wBk ?_|(refine oD 35 ?_;refine oC 191 ?_;refine a3A (f:=191) rfl rfl rfl rfl  (.val (.bool false)) (by intro u1 u2 w e hu1 hu2;(try obtain rfl:u1=_:=hu1);(try obtain rfl:u2=_:=hu2);exact anA (by rw [hll]) (ayA _ _ _)) ?_)|(refine oD 26 ?_;refine a9A rfl rfl (fun _=>rfl) rfl rfl (first + (2 * r + 1)) (by omega) (by omega) ?_)|(refine oD 33 ?_;refine a9A rfl rfl (fun _=>rfl) rfl rfl (first + (2 * r + 1) + 1) (by omega) (by omega) ?_)|(refine oD 43 ?_;refine a9A rfl rfl (fun _=>rfl) rfl rfl (first + r) (by omega) (by omega) ?_)|(refine oD 49 ?_;refine a9A rfl rfl (fun _=>rfl) rfl rfl (first + (2 * r + 1)) (by omega) (by omega) ?_)|(refine oD 65 ?_;refine a9A rfl rfl (fun _=>rfl) rfl rfl (first + (2 * r + 1)) (by omega) (by omega) ?_)|(refine oD 71 ?_;refine a9A rfl rfl (fun _=>rfl) rfl rfl (first + r) (by omega) (by omega) ?_)|(refine oD 73 ?_;refine a9A rfl rfl (fun _=>rfl) rfl rfl (first + r) (by omega) (by omega) ?_)|(refine oL ?_;refine alA ho1 rfl (fun _=>rfl) rfl (by omega) ?_;rw [cuA])|(refine oD 51 ?_;refine oC 191 ?_;refine a3A (f:=191) rfl rfl rfl rfl  (.val (.bool true)) (by intro u1 u2 w e hu1 hu2;(try obtain rfl:u1=_:=hu1);(try obtain rfl:u2=_:=hu2);exact anA (by rw [hl]) (ayA _ _ _)) ?_)|refine wOp ?_|(refine wCm ?_ ?_<;>intro hc)|(refine wNl hK ?_;clear hK K))|(refine oCX ?_;first|refine ajA (id:=6) [21,23] (by kernel_rfl) (by kernel_rfl) (by kernel_rfl) (a7A ?_))|refine wG ?_|(refine wCR ?_;intro K hK)|refine wPh ?_|fail)
          refine amA (j:=first + r) rfl he1 ho1 rfl rfl (by omega) (fun _=>rfl) (fun wS1 heS1 hoS1=>?_)
          refine a7A ?_
          repeat' (first|(refine oLA ?_;first|refine wBk ?_|(refine oD 74 ?_;refine a9A rfl rfl (fun _=>rfl) rfl rfl (first + (2 * r + 1)) (by omega) (by omega) ?_)|refine wOp ?_|(refine wCm ?_ ?_<;>intro hc)|(refine wNl hK ?_;clear hK K))|refine wG ?_|(refine wCR ?_;intro K hK)|refine wPh ?_|fail)
          refine amA (j:=first + (2 * r + 1)) rfl heS1 hoS1 rfl rfl (by rw [List.length_set];omega) (fun _=>rfl) (fun wS heS hoS=>?_)
          rw [awA] at hoS
          refine aiA ?_
          repeat' (first|(refine oLA ?_;first|refine wBk ?_|refine wOp ?_|(refine wCm ?_ ?_<;>intro hc)|(refine wNl hK ?_;clear hK K))|refine wG ?_|(refine wCR ?_;intro K hK)|refine wPh ?_|fail)
          exact a6A (2 * r + 1,Go.Sort.swp D1 (first + r) (first + (2 * r + 1))) (fun w5 e5=>⟨heS.trans e5,by dsimp only;omega,by dsimp only;rw [swp_size];exact hs1,hoS.ext e5,hr1⟩) (by dsimp only;omega) (by repeat' (first | exact Sub.nil | refine Sub.val rfl (by first | with_reducible rfl | (congr 1;omega)) ?_ | refine Sub.same rfl ?_))
      · have q0:True:=trivial
        have hgo:=sift_go (lt:=Go.Sort.ltInt) (hi:=hi) (first:=first) (d:=D1) (r:=r) (c:=2 * r + 2) (by omega) (by rw [hll];simp [h22])
        cases hl:Go.Sort.ltInt D1[first + r]! D1[first + (2 * r + 2)]!
        · rw [hl] at hgo
          simp only [Bool.false_eq_true,if_false] at hgo
          rw [hgo] at hr1
          repeat' (first|(refine oLA ?_;first|refine a0A rfl ?_|(refine oD 35 ?_;refine oC 191 ?_;refine a3A (f:=191) rfl rfl rfl rfl  (.val (.bool true)) (by intro u1 u2 w e hu1 hu2;(try obtain rfl:u1=_:=hu1);(try obtain rfl:u2=_:=hu2);exact anA (by rw [hll]) (ayA _ _ _)) ?_)|(refine oD 26 ?_;refine a9A rfl rfl (fun _=>rfl) rfl rfl (first + (2 * r + 1)) (by omega) (by omega) ?_)|(refine oD 33 ?_;refine a9A rfl rfl (fun _=>rfl) rfl rfl (first + (2 * r + 1) + 1) (by omega) (by omega) ?_)|(refine oD 43 ?_;refine a9A rfl rfl (fun _=>rfl) rfl rfl (first + r) (by omega) (by omega) ?_)|(refine oD 49 ?_;refine a9A rfl rfl (fun _=>rfl) rfl rfl (first + (2 * r + 2)) (by omega) (by omega) ?_)|(refine oL ?_;refine alA ho1 rfl (fun _=>rfl) rfl (by omega) ?_;rw [cuA])|(refine oD 51 ?_;refine oC 191 ?_;refine a3A (f:=191) rfl rfl rfl rfl  (.val (.bool false)) (by intro u1 u2 w e hu1 hu2;(try obtain rfl:u1=_:=hu1);(try obtain rfl:u2=_:=hu2);exact anA (by rw [hl]) (ayA _ _ _)) ?_)|refine wOp ?_|(refine wCm ?_ ?_<;>intro hc)|(refine wNl hK ?_;clear hK K))|refine wG ?_|(refine wCR ?_;intro K hK)|fail)
          exact bmA rfl (fun w5 e5=>⟨rfl,he1.trans e5,hr1 ▸ ho1.ext e5⟩) (.inr rfl)
        · rw [hl] at hgo
          simp only [if_true] at hgo
          rw [hgo] at hr1
          repeat' (first|(refine oLA ?_;first|refine wBk ?_|(refine oD 35 ?_;refine oC 191 ?_;refine a3A (f:=191) rfl rfl rfl rfl  (.val (.bool true)) (by intro u1 u2 w e hu1 hu2;(try obtain rfl:u1=_:=hu1);(try obtain rfl:u2=_:=hu2);exact anA (by rw [hll]) (ayA _ _ _)) ?_)|(refine oD 26 ?_;refine a9A rfl rfl (fun _=>rfl) rfl rfl (first + (2 * r + 1)) (by omega) (by omega) ?_)|(refine oD 33 ?_;refine a9A rfl rfl (fun _=>rfl) rfl rfl (first + (2 * r + 1) + 1) (by omega) (by omega) ?_)|(refine oD 43 ?_;refine a9A rfl rfl (fun _=>rfl) rfl rfl (first + r) (by omega) (by omega) ?_)|(refine oD 49 ?_;refine a9A rfl rfl (fun _=>rfl) rfl rfl (first + (2 * r + 2)) (by omega) (by omega) ?_)|(refine oD 65 ?_;refine a9A rfl rfl (fun _=>rfl) rfl rfl (first + (2 * r + 2)) (by omega) (by omega) ?_)|(refine oD 71 ?_;refine a9A rfl rfl (fun _=>rfl) rfl rfl (first + r) (by omega) (by omega) ?_)|(refine oD 73 ?_;refine a9A rfl rfl (fun _=>rfl) rfl rfl (first + r) (by omega) (by omega) ?_)|(refine oL ?_;refine alA ho1 rfl (fun _=>rfl) rfl (by omega) ?_;rw [cuA])|(refine oD 51 ?_;refine oC 191 ?_;refine a3A (f:=191) rfl rfl rfl rfl  (.val (.bool true)) (by intro u1 u2 w e hu1 hu2;(try obtain rfl:u1=_:=hu1);(try obtain rfl:u2=_:=hu2);exact anA (by rw [hl]) (ayA _ _ _)) ?_)|refine wOp ?_|(refine wCm ?_ ?_<;>intro hc)|(refine wNl hK ?_;clear hK K))|(refine oCX ?_;first|refine ajA (id:=6) [21,23] (by kernel_rfl) (by kernel_rfl) (by kernel_rfl) (a7A ?_))|refine wG ?_|(refine wCR ?_;intro K hK)|refine wPh ?_|fail)
          refine amA (j:=first + r) rfl he1 ho1 rfl rfl (by omega) (fun _=>rfl) (fun wS1 heS1 hoS1=>?_)
          refine a7A ?_
          repeat' (first|(refine oLA ?_;first|refine wBk ?_|(refine oD 74 ?_;refine a9A rfl rfl (fun _=>rfl) rfl rfl (first + (2 * r + 2)) (by omega) (by omega) ?_)|refine wOp ?_|(refine wCm ?_ ?_<;>intro hc)|(refine wNl hK ?_;clear hK K))|refine wG ?_|(refine wCR ?_;intro K hK)|refine wPh ?_|fail)
          refine amA (j:=first + (2 * r + 2)) rfl heS1 hoS1 rfl rfl (by rw [List.length_set];omega) (fun _=>rfl) (fun wS heS hoS=>?_)
          rw [awA] at hoS
          refine aiA ?_
          repeat' (first|(refine oLA ?_;first|refine wBk ?_|refine wOp ?_|(refine wCm ?_ ?_<;>intro hc)|(refine wNl hK ?_;clear hK K))|refine wG ?_|(refine wCR ?_;intro K hK)|refine wPh ?_|fail)
          exact a6A (2 * r + 2,Go.Sort.swp D1 (first + r) (first + (2 * r + 2))) (fun w5 e5=>⟨heS.trans e5,by dsimp only;omega,by dsimp only;rw [swp_size];exact hs1,hoS.ext e5,hr1⟩) (by dsimp only;omega) (by repeat' (first | exact Sub.nil | refine Sub.val rfl (by first | with_reducible rfl | (congr 1;omega)) ?_ | refine Sub.same rfl ?_))
    · have q0:True:=trivial
      have hgo:=sift_go (lt:=Go.Sort.ltInt) (hi:=hi) (first:=first) (d:=D1) (r:=r) (c:=2 * r + 1) (by omega) (by simp [h22])
      cases hl:Go.Sort.ltInt D1[first + r]! D1[first + (2 * r + 1)]!
      · rw [hl] at hgo
        simp only [Bool.false_eq_true,if_false] at hgo
        rw [hgo] at hr1
        repeat' (first|(refine oLA ?_;first|refine a0A rfl ?_|(refine oD 26 ?_;refine a9A rfl rfl (fun _=>rfl) rfl rfl (first + (2 * r + 1)) (by omega) (by omega) ?_)|(refine oD 33 ?_;refine a9A rfl rfl (fun _=>rfl) rfl rfl (first + (2 * r + 1) + 1) (by omega) (by omega) ?_)|(refine oD 43 ?_;refine a9A rfl rfl (fun _=>rfl) rfl rfl (first + r) (by omega) (by omega) ?_)|(refine oD 49 ?_;refine a9A rfl rfl (fun _=>rfl) rfl rfl (first + (2 * r + 1)) (by omega) (by omega) ?_)|(refine oL ?_;refine alA ho1 rfl (fun _=>rfl) rfl (by omega) ?_;rw [cuA])|(refine oD 51 ?_;refine oC 191 ?_;refine a3A (f:=191) rfl rfl rfl rfl  (.val (.bool false)) (by intro u1 u2 w e hu1 hu2;(try obtain rfl:u1=_:=hu1);(try obtain rfl:u2=_:=hu2);exact anA (by rw [hl]) (ayA _ _ _)) ?_)|refine wOp ?_|(refine wCm ?_ ?_<;>intro hc)|(refine wNl hK ?_;clear hK K))|refine wG ?_|(refine wCR ?_;intro K hK)|fail)
        exact bmA rfl (fun w5 e5=>⟨rfl,he1.trans e5,hr1 ▸ ho1.ext e5⟩) (.inr rfl)
      · rw [hl] at hgo
        simp only [if_true] at hgo
        rw [hgo] at hr1
        repeat' (first|(refine oLA ?_;first|refine wBk ?_|(refine oD 26 ?_;refine a9A rfl rfl (fun _=>rfl) rfl rfl (first + (2 * r + 1)) (by omega) (by omega) ?_)|(refine oD 33 ?_;refine a9A rfl rfl (fun _=>rfl) rfl rfl (first + (2 * r + 1) + 1) (by omega) (by omega) ?_)|(refine oD 43 ?_;refine a9A rfl rfl (fun _=>rfl) rfl rfl (first + r) (by omega) (by omega) ?_)|(refine oD 49 ?_;refine a9A rfl rfl (fun _=>rfl) rfl rfl (first + (2 * r + 1)) (by omega) (by omega) ?_)|(refine oD 65 ?_;refine a9A rfl rfl (fun _=>rfl) rfl rfl (first + (2 * r + 1)) (by omega) (by omega) ?_)|(refine oD 71 ?_;refine a9A rfl rfl (fun _=>rfl) rfl rfl (first + r) (by omega) (by omega) ?_)|(refine oD 73 ?_;refine a9A rfl rfl (fun _=>rfl) rfl rfl (first + r) (by omega) (by omega) ?_)|(refine oL ?_;refine alA ho1 rfl (fun _=>rfl) rfl (by omega) ?_;rw [cuA])|(refine oD 51 ?_;refine oC 191 ?_;refine a3A (f:=191) rfl rfl rfl rfl  (.val (.bool true)) (by intro u1 u2 w e hu1 hu2;(try obtain rfl:u1=_:=hu1);(try obtain rfl:u2=_:=hu2);exact anA (by rw [hl]) (ayA _ _ _)) ?_)|refine wOp ?_|(refine wCm ?_ ?_<;>intro hc)|(refine wNl hK ?_;clear hK K))|(refine oCX ?_;first|refine ajA (id:=6) [21,23] (by kernel_rfl) (by kernel_rfl) (by kernel_rfl) (a7A ?_))|refine wG ?_|(refine wCR ?_;intro K hK)|refine wPh ?_|fail)
        refine amA (j:=first + r) rfl he1 ho1 rfl rfl (by omega) (fun _=>rfl) (fun wS1 heS1 hoS1=>?_)
        refine a7A ?_
        repeat' (first|(refine oLA ?_;first|refine wBk ?_|(refine oD 74 ?_;refine a9A rfl rfl (fun _=>rfl) rfl rfl (first + (2 * r + 1)) (by omega) (by omega) ?_)|refine wOp ?_|(refine wCm ?_ ?_<;>intro hc)|(refine wNl hK ?_;clear hK K))|refine wG ?_|(refine wCR ?_;intro K hK)|refine wPh ?_|fail)
        refine amA (j:=first + (2 * r + 1)) rfl heS1 hoS1 rfl rfl (by rw [List.length_set];omega) (fun _=>rfl) (fun wS heS hoS=>?_)
        rw [awA] at hoS
        refine aiA ?_
        repeat' (first|(refine oLA ?_;first|refine wBk ?_|refine wOp ?_|(refine wCm ?_ ?_<;>intro hc)|(refine wNl hK ?_;clear hK K))|refine wG ?_|(refine wCR ?_;intro K hK)|refine wPh ?_|fail)
        exact a6A (2 * r + 1,Go.Sort.swp D1 (first + r) (first + (2 * r + 1))) (fun w5 e5=>⟨heS.trans e5,by dsimp only;omega,by dsimp only;rw [swp_size];exact hs1,hoS.ext e5,hr1⟩) (by dsimp only;omega) (by repeat' (first | exact Sub.nil | refine Sub.val rfl (by first | with_reducible rfl | (congr 1;omega)) ?_ | refine Sub.same rfl ?_))
end Srt
end Go.Proofs.YtbokphkfojijoaaGreatDoor
end
section
set_option linter.unusedSimpArgs false
set_option linter.unusedVariables false
set_option maxRecDepth 3000
namespace Go.Proofs.YtbokphkfojijoaaGreatDoor
namespace Srt
open Go.LA Go.ArrP Go.RowKit
set_option maxHeartbeats 8000000 in
theorem u3A {w0 w:World} {b cap n:Nat} {D:Array Int} (he0:Ext w0 w) (ho0:d8A w0 w b cap n D) (hn:n=D.size) (lo hi:Nat) (h1:lo ≤ hi) (h2:hi ≤ D.size) (hb:D.size < 4611686018427387904) :
    Fc Tryz.prog 204 #[.slice (some ⟨b,0,none⟩) n cap,.int .i64 lo,.int .i64 hi] w (uuA w0 b cap n (Go.Sort.heapSort Go.Sort.ltInt D lo hi)):=by
  obtain ⟨m,hm⟩:∃ m:Nat,m=hi - lo:=⟨_,rfl⟩
  have hmi:(hi:Int) - (lo:Int)=(m:Int):=by omega
  have hhalf:=o6A m (by omega)
  unfold Go.Sort.heapSort
  rw [← hm]
  refine Fc.of (args:=[_,_,_]) Tryz.func204 rfl rfl Tryz.ntmps204 (Nat.le_of_ble_eq_true rfl) ?_
  repeat' (first|(refine oLA ?_;first|refine a0A rfl ?_|(refine oD 14 ?_;refine afA rfl rfl rfl (by rw [hmi];dsimp only [fits];omega) ?_;rw [hmi])|(refine oD 17 ?_;refine siA rfl rfl rfl (by decide) ?_;rw [hhalf])|refine wOp ?_|(refine wCm ?_ ?_<;>intro hc)|(refine wNl hK ?_;clear hK K))|refine wG ?_|(refine wCR ?_;intro K hK)|fail)
  refine adA (ι:=Nat × Array Int) (fun i=>[(0,.val (.slice (some ⟨b,0,none⟩) n cap)),(6,.val (.int .i64 lo)),(7,.val (.int .i64 0)),(8,.val (.int .i64 m)),(9,.val (.int .i64 ((i.1:Int) - 1)))])
    (fun i w'=>Ext w0 w' ∧ i.1 ≤ (m - 1) / 2 + 1 ∧ i.2.size=D.size ∧ d8A w0 w' b cap n i.2 ∧ Go.Sort.heapBuild Go.Sort.ltInt m lo i.1 i.2=Go.Sort.heapBuild Go.Sort.ltInt m lo ((m - 1) / 2 + 1) D) (fun i=>i.1)
    (fun w2 e2=>⟨((m - 1) / 2 + 1,D),⟨he0.trans e2,Nat.le_refl _,rfl,ho0.ext e2,rfl⟩,(by repeat' (first | exact Sub.nil | refine Sub.val rfl (by first | with_reducible rfl | (congr 1;omega)) ?_ | refine Sub.same rfl ?_))⟩) ?_
  rintro ⟨i,D1⟩ w1 ⟨he1,hi0,hs1,ho1,hr1⟩
  dsimp only at hi0 hs1 ho1 hr1 ⊢
  cases i with
  | succ i =>
    rw [Go.Sort.heapBuild] at hr1
    repeat' (first|(refine oLA ?_;first|refine a0A rfl ?_|(refine oD 26 ?_;refine a4A (hK _ _ (f7A (f:=216) (fun w'=>Ext w0 w' ∧ d8A w0 w' b cap n (Go.Sort.siftDown Go.Sort.ltInt m lo i D1)) (fun w' e=>by rw [show (((i + 1:Nat):Int) - 1)=(i:Int) by omega];exact nhA (he1.trans e) (ho1.ext e) (hn.trans hs1.symm) i m lo (by omega) (by omega) (by omega)) rfl (by decide) rfl rfl rfl rfl rfl (fun w2 hw2=>?_)));clear hK K;obtain ⟨he2,ho2⟩:=hw2)|refine wOp ?_|(refine wCm ?_ ?_<;>intro hc)|(refine wNl hK ?_;clear hK K))|refine wG ?_|(refine wCR ?_;intro K hK)|fail)
    exact a6A (i,Go.Sort.siftDown Go.Sort.ltInt m lo i D1) (fun w5 e5=>⟨he2.trans e5,by dsimp only;omega,(sift_size _ _ _ (Nat.le_refl _)).trans hs1,ho2.ext e5,hr1⟩) (by dsimp only;omega) (by repeat' (first | exact Sub.nil | refine Sub.val rfl (by first | with_reducible rfl | (congr 1;omega)) ?_ | refine Sub.same rfl ?_))
  | zero =>
    rw [Go.Sort.heapBuild] at hr1
    rw [← hr1]
    repeat' (first|(refine oLA ?_;first|refine a0A rfl ?_|refine wOp ?_|(refine wCm ?_ ?_<;>intro hc)|(refine wNl hK ?_;clear hK K))|refine wG ?_|(refine wCR ?_;intro K hK)|fail)
    refine adA (ι:=Nat × Array Int) (fun i=>[(0,.val (.slice (some ⟨b,0,none⟩) n cap)),(6,.val (.int .i64 lo)),(7,.val (.int .i64 0)),(10,.val (.int .i64 ((i.1:Int) - 1)))])
      (fun i w'=>Ext w0 w' ∧ i.1 ≤ m ∧ i.2.size=D.size ∧ d8A w0 w' b cap n i.2 ∧ Go.Sort.heapPop Go.Sort.ltInt lo i.1 i.2=Go.Sort.heapPop Go.Sort.ltInt lo m D1) (fun i=>i.1)
      (fun w2 e2=>⟨(m,D1),⟨he1.trans e2,Nat.le_refl _,hs1,ho1.ext e2,rfl⟩,(by repeat' (first | exact Sub.nil | refine Sub.val rfl (by first | with_reducible rfl | (congr 1;omega)) ?_ | refine Sub.same rfl ?_))⟩) ?_
    rintro ⟨i,D2⟩ w2 ⟨he2,hi2,hs2,ho2,hr2⟩
    dsimp only at hi2 hs2 ho2 hr2 ⊢
    have hl2:=asA D2
    cases i with
    | succ i =>
      rw [Go.Sort.heapPop] at hr2
      repeat' (first|(refine oLA ?_;first|refine wBk ?_|(refine oD 43 ?_;refine a9A rfl rfl (fun _=>rfl) rfl rfl (lo + i) (by omega) (by omega) ?_)|(refine oD 47 ?_;refine a9A rfl rfl (fun _=>rfl) rfl rfl lo rfl (by omega) ?_)|(refine oD 49 ?_;refine a9A rfl rfl (fun _=>rfl) rfl rfl lo rfl (by omega) ?_)|(refine oL ?_;refine alA ho2 rfl (fun _=>rfl) rfl (by omega) ?_;rw [cuA])|refine wOp ?_|(refine wCm ?_ ?_<;>intro hc)|(refine wNl hK ?_;clear hK K))|(refine oCX ?_;first|refine ajA (id:=10) [17,19] (by kernel_rfl) (by kernel_rfl) (by kernel_rfl) (a7A ?_))|refine wG ?_|(refine wCR ?_;intro K hK)|refine wPh ?_|fail)
      refine amA (j:=lo) rfl he2 ho2 rfl rfl (by omega) (fun _=>rfl) (fun wS1 heS1 hoS1=>?_)
      refine a7A ?_
      repeat' (first|(refine oLA ?_;first|refine wBk ?_|(refine oD 50 ?_;refine a9A rfl rfl (fun _=>rfl) rfl rfl (lo + i) (by omega) (by omega) ?_)|refine wOp ?_|(refine wCm ?_ ?_<;>intro hc)|(refine wNl hK ?_;clear hK K))|refine wG ?_|(refine wCR ?_;intro K hK)|refine wPh ?_|fail)
      refine amA (j:=lo + i) rfl heS1 hoS1 rfl rfl (by rw [List.length_set];omega) (fun _=>rfl) (fun wS heS hoS=>?_)
      rw [awA] at hoS
      refine aiA ?_
      repeat' (first|(refine oLA ?_;first|refine wBk ?_|refine wOp ?_|(refine wCm ?_ ?_<;>intro hc)|(refine wNl hK ?_;clear hK K))|refine wG ?_|(refine wCR ?_;intro K hK)|refine wPh ?_|fail)
      repeat' (first|(refine oLA ?_;first|refine a0A rfl ?_|(refine oD 55 ?_;refine a4A (hK _ _ (f7A (f:=216) (fun w'=>Ext w0 w' ∧ d8A w0 w' b cap n (Go.Sort.siftDown Go.Sort.ltInt i lo 0 (Go.Sort.swp D2 lo (lo + i)))) (fun w' e=>by rw [show (((i + 1:Nat):Int) - 1)=(i:Int) by omega];exact nhA (heS.trans e) (hoS.ext e) (by rw [swp_size];omega) 0 i lo (by omega) (by rw [swp_size];omega) (by rw [swp_size];omega)) rfl (by decide) rfl rfl rfl rfl rfl (fun w3 hw3=>?_)));clear hK K;obtain ⟨he3,ho3⟩:=hw3)|refine wOp ?_|(refine wCm ?_ ?_<;>intro hc)|(refine wNl hK ?_;clear hK K))|refine wG ?_|(refine wCR ?_;intro K hK)|fail)
      exact a6A (i,Go.Sort.siftDown Go.Sort.ltInt i lo 0 (Go.Sort.swp D2 lo (lo + i))) (fun w5 e5=>⟨he3.trans e5,by dsimp only;omega,(sift_size _ _ _ (Nat.le_refl _)).trans ((swp_size _ _ _).trans hs2),ho3.ext e5,hr2⟩) (by dsimp only;omega) (by repeat' (first | exact Sub.nil | refine Sub.val rfl (by first | with_reducible rfl | (congr 1;omega)) ?_ | refine Sub.same rfl ?_))
    | zero =>
      rw [Go.Sort.heapPop] at hr2
      repeat' (first|(refine oLA ?_;first|refine a0A rfl ?_|refine wOp ?_|(refine wCm ?_ ?_<;>intro hc)|(refine wNl hK ?_;clear hK K))|refine wG ?_|(refine wCR ?_;intro K hK)|fail)
      exact bmA rfl (fun w5 e5=>⟨rfl,he2.trans e5,hr2 ▸ ho2.ext e5⟩) (.inl rfl)
set_option maxHeartbeats 4000000 in
theorem x8A {w0 w:World} {b cap n:Nat} {D:Array Int} (he0:Ext w0 w) (ho0:d8A w0 w b cap n D) (hn:n=D.size) (lo hi:Nat) (h1:lo < hi) (h2:hi ≤ D.size) (hb:D.size < 4611686018427387904) :
    Fc Tryz.prog 207 #[.slice (some ⟨b,0,none⟩) n cap,.int .i64 lo,.int .i64 hi] w (uuA w0 b cap n (Go.Sort.reverseRange D lo hi)):=by
  unfold Go.Sort.reverseRange
  refine Fc.of (args:=[_,_,_]) Tryz.func207 rfl rfl Tryz.ntmps207 (Nat.le_of_ble_eq_true rfl) ?_
  repeat' (first|(refine oLA ?_;first|refine a0A rfl ?_|refine wOp ?_|(refine wCm ?_ ?_<;>intro hc)|(refine wNl hK ?_;clear hK K))|refine wG ?_|(refine wCR ?_;intro K hK)|fail)
  rw [show ((hi:Int) - 1)=((hi - 1:Nat):Int) by omega]
  refine adA (ι:=Nat × Nat × Array Int) (fun i=>[(0,.val (.slice (some ⟨b,0,none⟩) n cap)),(6,.val (.int .i64 (i.1:Int))),(7,.val (.int .i64 (i.2.1:Int)))])
    (fun i w'=>Ext w0 w' ∧ i.1 ≤ hi ∧ i.2.1 < hi ∧ i.2.2.size=D.size ∧ d8A w0 w' b cap n i.2.2 ∧ Go.Sort.reverseLoop i.1 i.2.1 i.2.2=Go.Sort.reverseLoop lo (hi - 1) D) (fun i=>i.2.1 - i.1)
    (fun w2 e2=>⟨(lo,hi - 1,D),⟨he0.trans e2,by dsimp only;omega,by dsimp only;omega,rfl,ho0.ext e2,rfl⟩,(by repeat' (first | exact Sub.nil | refine Sub.val rfl (by first | with_reducible rfl | (congr 1;omega)) ?_ | refine Sub.same rfl ?_))⟩) ?_
  rintro ⟨i,j,D1⟩ w1 ⟨he1,hi0,hj0,hs1,ho1,hr1⟩
  dsimp only at hi0 hj0 hs1 ho1 hr1 ⊢
  have hl1:=asA D1
  by_cases hlt:i < j
  · rw [Go.Sort.reverseLoop,if_pos hlt] at hr1
    repeat' (first|(refine oLA ?_;first|refine wBk ?_|(refine oI ?_;refine a9A rfl rfl (fun _=>rfl) rfl rfl _ rfl (by omega) ?_)|(refine oL ?_;refine alA ho1 rfl (fun _=>rfl) rfl (by omega) ?_;rw [cuA])|refine wOp ?_|(refine wCm ?_ ?_<;>intro hc)|(refine wNl hK ?_;clear hK K))|(refine oCX ?_;first|refine ajA (id:=3) [13,15] (by kernel_rfl) (by kernel_rfl) (by kernel_rfl) (a7A ?_))|refine wG ?_|(refine wCR ?_;intro K hK)|refine wPh ?_|fail)
    refine amA (j:=i) rfl he1 ho1 rfl rfl (by omega) (fun _=>rfl) (fun wS1 heS1 hoS1=>?_)
    refine a7A ?_
    repeat' (first|(refine oLA ?_;first|refine wBk ?_|(refine oD 27 ?_;refine a9A rfl rfl (fun _=>rfl) rfl rfl (j) (by omega) (by omega) ?_)|refine wOp ?_|(refine wCm ?_ ?_<;>intro hc)|(refine wNl hK ?_;clear hK K))|refine wG ?_|(refine wCR ?_;intro K hK)|refine wPh ?_|fail)
    refine amA (j:=j) rfl heS1 hoS1 rfl rfl (by rw [List.length_set];omega) (fun _=>rfl) (fun wS heS hoS=>?_)
    rw [awA] at hoS
    refine aiA ?_
    repeat' (first|(refine oLA ?_;first|refine wBk ?_|refine wOp ?_|(refine wCm ?_ ?_<;>intro hc)|(refine wNl hK ?_;clear hK K))|refine wG ?_|(refine wCR ?_;intro K hK)|refine wPh ?_|fail)
    exact a6A (i + 1,j - 1,Go.Sort.swp D1 i j) (fun w5 e5=>⟨heS.trans e5,by dsimp only;omega,by dsimp only;omega,by dsimp only;rw [swp_size];exact hs1,hoS.ext e5,hr1⟩) (by dsimp only;omega) (by dsimp only;exact (by repeat' (first | exact Sub.nil | refine Sub.val rfl (by first | with_reducible rfl | (congr 1;omega)) ?_ | refine Sub.same rfl ?_)))
  · rw [Go.Sort.reverseLoop,if_neg hlt] at hr1
    repeat' (first|(refine oLA ?_;first|refine a0A rfl ?_|refine wOp ?_|(refine wCm ?_ ?_<;>intro hc)|(refine wNl hK ?_;clear hK K))|refine wG ?_|(refine wCR ?_;intro K hK)|fail)
    exact bmA rfl (fun w5 e5=>⟨rfl,he1.trans e5,hr1 ▸ ho1.ext e5⟩) (.inl rfl)
end Srt
end Go.Proofs.YtbokphkfojijoaaGreatDoor
end
section
set_option linter.unusedSimpArgs false
set_option linter.unusedVariables false
set_option maxRecDepth 3000
namespace Go.Proofs.YtbokphkfojijoaaGreatDoor
namespace Srt
open Go.LA Go.ArrP Go.RowKit
set_option maxHeartbeats 8000000 in
theorem tkA {w0 w:World} {b cap n:Nat} {D0:Array Int} (he0:Ext w0 w) (ho0:d8A w0 w b cap n D0) (hn:n=D0.size) (lo hi pv:Nat) (h1:lo ≤ pv) (h2:pv < hi) (h3:hi ≤ D0.size) (hb:D0.size < 4611686018427387904) :
    Fc Tryz.prog 210 #[.slice (some ⟨b,0,none⟩) n cap,.int .i64 lo,.int .i64 hi,.int .i64 pv] w (fun e w'=>e=.returned (.tuple #[.int .i64 ((Go.Sort.partition Go.Sort.ltInt D0 lo hi pv).1:Int),.bool (Go.Sort.partition Go.Sort.ltInt D0 lo hi pv).2.1]) ∧ Ext w0 w' ∧ d8A w0 w' b cap n (Go.Sort.partition Go.Sort.ltInt D0 lo hi pv).2.2):=by
  have hl0:=asA D0
  refine Fc.of (args:=[_,_,_,_]) Tryz.func210 rfl rfl Tryz.ntmps210 (Nat.le_of_ble_eq_true rfl) ?_
  repeat' (first|(refine oLA ?_;first|refine wBk ?_|(refine oI ?_;refine a9A rfl rfl (fun _=>rfl) rfl rfl _ rfl (by omega) ?_)|(refine oL ?_;refine alA ho0 rfl (fun _=>rfl) rfl (by omega) ?_;rw [cuA])|refine wOp ?_|(refine wCm ?_ ?_<;>intro hc)|(refine wNl hK ?_;clear hK K))|(refine oCX ?_;first|refine ajA (id:=1) [13,15] (by kernel_rfl) (by kernel_rfl) (by kernel_rfl) (a7A ?_))|refine wG ?_|(refine wCR ?_;intro K hK)|refine wPh ?_|fail)
  refine amA (j:=lo) rfl he0 ho0 rfl rfl (by omega) (fun _=>rfl) (fun wS1 heS1 hoS1=>?_)
  refine a7A ?_
  repeat' (first|(refine oLA ?_;first|refine wBk ?_|(refine oD 25 ?_;refine a9A rfl rfl (fun _=>rfl) rfl rfl (pv) (by omega) (by omega) ?_)|refine wOp ?_|(refine wCm ?_ ?_<;>intro hc)|(refine wNl hK ?_;clear hK K))|refine wG ?_|(refine wCR ?_;intro K hK)|refine wPh ?_|fail)
  refine amA (j:=pv) rfl heS1 hoS1 rfl rfl (by rw [List.length_set];omega) (fun _=>rfl) (fun wS heS hoS=>?_)
  rw [awA] at hoS
  obtain ⟨D,hD⟩:∃ D,D=Go.Sort.swp D0 lo pv:=⟨_,rfl⟩
  rw [← hD] at hoS
  have hs:D.size=D0.size:=by rw [hD,swp_size]
  have hl:=asA D
  obtain ⟨i2,hi2⟩:∃ i2,i2=Go.Sort.scanUp (fun x=>Go.Sort.ltInt x D[lo]!) D (hi - 1) (lo + 1):=⟨_,rfl⟩
  obtain ⟨j2,hj2⟩:∃ j2,j2=Go.Sort.scanDown (fun x=>!Go.Sort.ltInt x D[lo]!) D i2 (hi - 1):=⟨_,rfl⟩
  have bi2:=dmA (fun x=>Go.Sort.ltInt x D[lo]!) D (hi - 1) _ (lo + 1) (Nat.le_refl _)
  have bj2:=csA (fun x=>!Go.Sort.ltInt x D[lo]!) D i2 (hi - 1)
  rw [← hi2] at bi2;rw [← hj2] at bj2
  have hpe:=qbA (lt:=Go.Sort.ltInt) hD hi2 hj2
  refine aiA ?_
  repeat' (first|(refine oLA ?_;first|refine wBk ?_|(refine oD 27 ?_;refine avA rfl rfl rfl (by dsimp only [fits];omega) ?_;rw [show ((lo:Int) + 1)=((lo + 1:Nat):Int) by omega])|(refine oD 29 ?_;refine afA rfl rfl rfl (by dsimp only [fits];omega) ?_;rw [show ((hi:Int) - 1)=((hi - 1:Nat):Int) by omega])|(refine oI ?_;refine a9A rfl rfl (fun _=>rfl) rfl rfl _ rfl (by omega) ?_)|(refine oL ?_;refine alA hoS rfl (fun _=>rfl) rfl (by omega) ?_;rw [cuA])|refine wOp ?_|(refine wCm ?_ ?_<;>intro hc)|(refine wNl hK ?_;clear hK K))|(refine oCX ?_;first|refine dtA 0 [(0,.val (.slice (some ⟨b,0,none⟩) n cap)),(1,.val (.int .i64 lo)),(2,.val (.int .i64 hi)),(10,.val (.int .i64 ((i2:Nat):Int))),(11,.val (.int .i64 ((hi - 1:Nat):Int)))] ?_ ?_|refine dtA 2 [(0,.val (.slice (some ⟨b,0,none⟩) n cap)),(1,.val (.int .i64 lo)),(2,.val (.int .i64 hi)),(10,.val (.int .i64 ((i2:Nat):Int))),(11,.val (.int .i64 ((j2:Nat):Int)))] ?_ ?_|refine ajA (id:=8) [13,15] (by kernel_rfl) (by kernel_rfl) (by kernel_rfl) (a7A ?_)|refine ajA (id:=10) [13,15] (by kernel_rfl) (by kernel_rfl) (by kernel_rfl) (a7A ?_))|refine wG ?_|(refine wCR ?_;intro K hK)|refine wPh ?_|fail)
  · have q0:True:=trivial
    refine bjA (ι:=Nat) (fun i=>[(0,.val (.slice (some ⟨b,0,none⟩) n cap)),(1,.val (.int .i64 lo)),(2,.val (.int .i64 hi)),(10,.val (.int .i64 (i:Int))),(11,.val (.int .i64 ((hi - 1:Nat):Int)))])
      (fun i=>lo + 1 ≤ i ∧ i ≤ max (lo + 1) (hi - 1 + 1) ∧ Go.Sort.scanUp (fun x=>Go.Sort.ltInt x D[lo]!) D (hi - 1) i=i2) (fun i=>hi - 1 + 1 - i) (lo + 1) ⟨Nat.le_refl _,by omega,by rw [hi2]⟩ (by repeat' (first | exact Sub.nil | refine Sub.val rfl (by first | with_reducible rfl | (congr 1;omega)) ?_ | refine Sub.same rfl ?_)) ?_
    rintro i ⟨g1,g2,g3⟩
    have hl5:=asA D
    by_cases hij:i ≤ hi - 1
    · cases hp:Go.Sort.ltInt D[i]! D[lo]!
      · rw [bqA (p:=fun x=>Go.Sort.ltInt x D[lo]!) (d:=D) (.inr hp)] at g3
        repeat' (first|(refine oLA ?_;first|refine a0A rfl ?_|(refine oI ?_;refine a9A rfl rfl (fun _=>rfl) rfl rfl _ rfl (by omega) ?_)|(refine oL ?_;refine alA hoS rfl (fun _=>rfl) rfl (by omega) ?_;rw [cuA])|refine wOp ?_|(refine wCm ?_ ?_<;>intro hc)|(refine oCv ?_;first|(refine oC 191 ?_;refine a3A (f:=191) rfl rfl rfl rfl  (.val (.bool false)) (by intro u1 u2 w e hu1 hu2;(try obtain rfl:u1=_:=hu1);(try obtain rfl:u2=_:=hu2);exact anA (by rw [hp]) (ayA _ _ _)) ?_))|(refine wNl hK ?_;clear hK K))|refine wG ?_|(refine wCR ?_;intro K hK)|fail)
        (subst g3;exact caA (by repeat' (first | exact Sub.nil | refine Sub.val rfl (by first | with_reducible rfl | (congr 1;omega)) ?_ | refine Sub.same rfl ?_)))
      · rw [scanUp_go (p:=fun x=>Go.Sort.ltInt x D[lo]!) (d:=D) hij hp] at g3
        repeat' (first|(refine oLA ?_;first|refine a0A rfl ?_|(refine oI ?_;refine a9A rfl rfl (fun _=>rfl) rfl rfl _ rfl (by omega) ?_)|(refine oL ?_;refine alA hoS rfl (fun _=>rfl) rfl (by omega) ?_;rw [cuA])|refine wOp ?_|(refine wCm ?_ ?_<;>intro hc)|(refine oCv ?_;first|(refine oC 191 ?_;refine a3A (f:=191) rfl rfl rfl rfl  (.val (.bool true)) (by intro u1 u2 w e hu1 hu2;(try obtain rfl:u1=_:=hu1);(try obtain rfl:u2=_:=hu2);exact anA (by rw [hp]) (ayA _ _ _)) ?_))|(refine wNl hK ?_;clear hK K))|refine wG ?_|(refine wCR ?_;intro K hK)|fail)
        exact chA (i + 1) ⟨by omega,by omega,g3⟩ (by omega) (by repeat' (first | exact Sub.nil | refine Sub.val rfl (by first | with_reducible rfl | (congr 1;omega)) ?_ | refine Sub.same rfl ?_))
    · rw [bqA (p:=fun x=>Go.Sort.ltInt x D[lo]!) (d:=D) (.inl hij)] at g3
      subst g3
      repeat' (first|(refine oLA ?_;first|refine a0A rfl ?_|refine wOp ?_|(refine wCm ?_ ?_<;>intro hc)|(refine wNl hK ?_;clear hK K))|refine wG ?_|(refine wCR ?_;intro K hK)|fail)
      exact caA (by repeat' (first | exact Sub.nil | refine Sub.val rfl (by first | with_reducible rfl | (congr 1;omega)) ?_ | refine Sub.same rfl ?_))
  · have q0:True:=trivial
    refine bjA (ι:=Nat) (fun j=>[(0,.val (.slice (some ⟨b,0,none⟩) n cap)),(1,.val (.int .i64 lo)),(2,.val (.int .i64 hi)),(10,.val (.int .i64 ((i2:Nat):Int))),(11,.val (.int .i64 (j:Int)))])
      (fun j=>(i2 ≤ j + 1 ∨ j=hi - 1) ∧ j ≤ hi - 1 ∧ Go.Sort.scanDown (fun x=>!Go.Sort.ltInt x D[lo]!) D (i2) j=j2) (fun j=>j) (hi - 1) ⟨.inr rfl,Nat.le_refl _,by rw [hj2]⟩ (by repeat' (first | exact Sub.nil | refine Sub.val rfl (by first | with_reducible rfl | (congr 1;omega)) ?_ | refine Sub.same rfl ?_)) ?_
    rintro j ⟨g1,g2,g3⟩
    have hl5:=asA D
    by_cases hij:i2 ≤ j
    · obtain ⟨j,rfl⟩:∃ k,j=k + 1:=⟨j - 1,by omega⟩
      cases hp:Go.Sort.ltInt D[j + 1]! D[lo]!
      · rw [scanDown_go (p:=fun x=>!Go.Sort.ltInt x D[lo]!) (d:=D) hij (by show (!_)=true;rw [hp];rfl)] at g3
        repeat' (first|(refine oLA ?_;first|refine a0A rfl ?_|(refine oI ?_;refine a9A rfl rfl (fun _=>rfl) rfl rfl _ rfl (by omega) ?_)|(refine oL ?_;refine alA hoS rfl (fun _=>rfl) rfl (by omega) ?_;rw [cuA])|refine wOp ?_|(refine wCm ?_ ?_<;>intro hc)|(refine oCv ?_;first|(refine oC 191 ?_;refine a3A (f:=191) rfl rfl rfl rfl  (.val (.bool false)) (by intro u1 u2 w e hu1 hu2;(try obtain rfl:u1=_:=hu1);(try obtain rfl:u2=_:=hu2);exact anA (by rw [hp]) (ayA _ _ _)) ?_))|(refine wNl hK ?_;clear hK K))|refine wG ?_|(refine wCR ?_;intro K hK)|fail)
        exact chA j ⟨by omega,by omega,g3⟩ (by omega) (by repeat' (first | exact Sub.nil | refine Sub.val rfl (by first | with_reducible rfl | (congr 1;omega)) ?_ | refine Sub.same rfl ?_))
      · rw [bcA (p:=fun x=>!Go.Sort.ltInt x D[lo]!) (d:=D) (.inr (by show (!_)=false;rw [hp];rfl))] at g3
        repeat' (first|(refine oLA ?_;first|refine a0A rfl ?_|(refine oI ?_;refine a9A rfl rfl (fun _=>rfl) rfl rfl _ rfl (by omega) ?_)|(refine oL ?_;refine alA hoS rfl (fun _=>rfl) rfl (by omega) ?_;rw [cuA])|refine wOp ?_|(refine wCm ?_ ?_<;>intro hc)|(refine oCv ?_;first|(refine oC 191 ?_;refine a3A (f:=191) rfl rfl rfl rfl  (.val (.bool true)) (by intro u1 u2 w e hu1 hu2;(try obtain rfl:u1=_:=hu1);(try obtain rfl:u2=_:=hu2);exact anA (by rw [hp]) (ayA _ _ _)) ?_))|(refine wNl hK ?_;clear hK K))|refine wG ?_|(refine wCR ?_;intro K hK)|fail)
        (subst g3;exact caA (by repeat' (first | exact Sub.nil | refine Sub.val rfl (by first | with_reducible rfl | (congr 1;omega)) ?_ | refine Sub.same rfl ?_)))
    · rw [bcA (p:=fun x=>!Go.Sort.ltInt x D[lo]!) (d:=D) (.inl hij)] at g3
      subst g3
      repeat' (first|(refine oLA ?_;first|refine a0A rfl ?_|refine wOp ?_|(refine wCm ?_ ?_<;>intro hc)|(refine wNl hK ?_;clear hK K))|refine wG ?_|(refine wCR ?_;intro K hK)|fail)
      exact caA (by repeat' (first | exact Sub.nil | refine Sub.val rfl (by first | with_reducible rfl | (congr 1;omega)) ?_ | refine Sub.same rfl ?_))
  · rw [if_pos (show i2 > j2 by omega)] at hpe
    rw [hpe]
    refine amA (j:=j2) rfl heS hoS rfl rfl (by omega) (fun _=>rfl) (fun wS1 heS1 hoS1=>?_)
    refine a7A ?_
    repeat' (first|(refine oLA ?_;first|refine wBk ?_|(refine oD 79 ?_;refine a9A rfl rfl (fun _=>rfl) rfl rfl (lo) (by omega) (by omega) ?_)|refine wOp ?_|(refine wCm ?_ ?_<;>intro hc)|(refine wNl hK ?_;clear hK K))|refine wG ?_|(refine wCR ?_;intro K hK)|refine wPh ?_|fail)
    refine amA (j:=lo) rfl heS1 hoS1 rfl rfl (by rw [List.length_set];omega) (fun _=>rfl) (fun wS heS hoS=>?_)
    rw [awA] at hoS
    refine aiA ?_
    repeat' (first|(refine oLA ?_;first|refine wBk ?_|refine wOp ?_|(refine wCm ?_ ?_<;>intro hc)|(refine wNl hK ?_;clear hK K))|refine wG ?_|(refine wCR ?_;intro K hK)|refine wPh ?_|fail)
    exact d4A rfl (fun x y w5 e5 hx hy=>by obtain rfl:x=_:=hx;obtain rfl:y=_:=hy;exact ⟨rfl,Ext.trans (by assumption) e5,OwnI.ext (by assumption) e5⟩)
  · rw [if_neg (show ¬ i2 > j2 by omega)] at hpe
    rw [hpe]
    refine amA (j:=i2) rfl heS hoS rfl rfl (by omega) (fun _=>rfl) (fun wS1 heS1 hoS1=>?_)
    refine a7A ?_
    repeat' (first|(refine oLA ?_;first|refine wBk ?_|(refine oD 94 ?_;refine a9A rfl rfl (fun _=>rfl) rfl rfl (j2) (by omega) (by omega) ?_)|refine wOp ?_|(refine wCm ?_ ?_<;>intro hc)|(refine wNl hK ?_;clear hK K))|refine wG ?_|(refine wCR ?_;intro K hK)|refine wPh ?_|fail)
    refine amA (j:=j2) rfl heS1 hoS1 rfl rfl (by rw [List.length_set];omega) (fun _=>rfl) (fun wS heS hoS=>?_)
    rw [awA] at hoS
    obtain ⟨R,hR⟩:∃ R,R=Go.Sort.partLoop Go.Sort.ltInt lo (i2 + 1) (j2 - 1) (Go.Sort.swp D i2 j2):=⟨_,rfl⟩
    rw [← hR]
    refine aiA ?_
    repeat' (first|(refine oLA ?_;first|refine wBk ?_|refine wOp ?_|(refine wCm ?_ ?_<;>intro hc)|(refine wNl hK ?_;clear hK K))|refine wG ?_|(refine wCR ?_;intro K hK)|refine wPh ?_|fail)
    refine adA (ι:=Nat × Nat × Array Int) (fun i=>[(0,.val (.slice (some ⟨b,0,none⟩) n cap)),(1,.val (.int .i64 lo)),(2,.val (.int .i64 hi)),(10,.val (.int .i64 (i.1:Int))),(11,.val (.int .i64 (i.2.1:Int)))])
      (fun i w'=>Ext w0 w' ∧ i.2.2.size=D0.size ∧ d8A w0 w' b cap n i.2.2 ∧ lo + 1 ≤ i.1 ∧ i.1 ≤ i.2.1 + 2 ∧ lo ≤ i.2.1 ∧ i.2.1 ≤ hi - 1 ∧ Go.Sort.partLoop Go.Sort.ltInt lo i.1 i.2.1 i.2.2=R) (fun i=>i.2.1 + 2 - i.1)
      (fun w2 e2=>⟨(i2 + 1,j2 - 1,Go.Sort.swp D i2 j2),⟨heS.trans e2,by dsimp only;rw [swp_size];exact hs,hoS.ext e2,by dsimp only;omega,by dsimp only;omega,by dsimp only;omega,by dsimp only;omega,hR.symm⟩,by dsimp only;exact (by repeat' (first | exact Sub.nil | refine Sub.val rfl (by first | with_reducible rfl | (congr 1;omega)) ?_ | refine Sub.same rfl ?_))⟩) ?_
    rintro ⟨ii,jj,D1⟩ w1 ⟨he1,hs1,ho1,c1,c2,c3,c4,c5⟩
    dsimp only at hs1 ho1 c1 c2 c3 c4 c5 ⊢
    have hl1:=asA D1
    obtain ⟨i3,hi3⟩:∃ i3,i3=Go.Sort.scanUp (fun x=>Go.Sort.ltInt x D1[lo]!) D1 jj ii:=⟨_,rfl⟩
    obtain ⟨j3,hj3⟩:∃ j3,j3=Go.Sort.scanDown (fun x=>!Go.Sort.ltInt x D1[lo]!) D1 i3 jj:=⟨_,rfl⟩
    have bi3:=dmA (fun x=>Go.Sort.ltInt x D1[lo]!) D1 jj _ ii (Nat.le_refl _)
    have bj3:=csA (fun x=>!Go.Sort.ltInt x D1[lo]!) D1 i3 jj
    rw [← hi3] at bi3;rw [← hj3] at bj3
    have hpl:=partLoop_eq (lt:=Go.Sort.ltInt) (a:=lo) hi3 hj3 (by omega)
    rw [hpl] at c5
    clear hpl hpe hR heS hoS heS1 hoS1 hD hi2 hj2 bi2 bj2
    repeat' (first|(refine oLA ?_;first|refine wBk ?_|(refine oI ?_;refine a9A rfl rfl (fun _=>rfl) rfl rfl _ rfl (by omega) ?_)|(refine oL ?_;refine alA ho1 rfl (fun _=>rfl) rfl (by omega) ?_;rw [cuA])|refine wOp ?_|(refine wCm ?_ ?_<;>intro hc)|(refine wNl hK ?_;clear hK K))|(refine oCX ?_;first|refine dtA 6 [(0,.val (.slice (some ⟨b,0,none⟩) n cap)),(1,.val (.int .i64 lo)),(2,.val (.int .i64 hi)),(10,.val (.int .i64 ((i3:Nat):Int))),(11,.val (.int .i64 ((jj:Nat):Int)))] ?_ ?_|refine dtA 8 [(0,.val (.slice (some ⟨b,0,none⟩) n cap)),(1,.val (.int .i64 lo)),(2,.val (.int .i64 hi)),(10,.val (.int .i64 ((i3:Nat):Int))),(11,.val (.int .i64 ((j3:Nat):Int)))] ?_ ?_|refine ajA (id:=18) [13,15] (by kernel_rfl) (by kernel_rfl) (by kernel_rfl) (a7A ?_)|refine ajA (id:=21) [13,15] (by kernel_rfl) (by kernel_rfl) (by kernel_rfl) (a7A ?_))|refine wG ?_|(refine wCR ?_;intro K hK)|refine wPh ?_|fail)
    · have q0:True:=trivial
      refine bjA (ι:=Nat) (fun i=>[(0,.val (.slice (some ⟨b,0,none⟩) n cap)),(1,.val (.int .i64 lo)),(2,.val (.int .i64 hi)),(10,.val (.int .i64 (i:Int))),(11,.val (.int .i64 ((jj:Nat):Int)))])
        (fun i=>ii ≤ i ∧ i ≤ max (ii) (jj + 1) ∧ Go.Sort.scanUp (fun x=>Go.Sort.ltInt x D1[lo]!) D1 (jj) i=i3) (fun i=>jj + 1 - i) (ii) ⟨Nat.le_refl _,by omega,by rw [hi3]⟩ (by repeat' (first | exact Sub.nil | refine Sub.val rfl (by first | with_reducible rfl | (congr 1;omega)) ?_ | refine Sub.same rfl ?_)) ?_
      rintro i ⟨g1,g2,g3⟩
      have hl5:=asA D1
      by_cases hij:i ≤ jj
      · cases hp:Go.Sort.ltInt D1[i]! D1[lo]!
        · rw [bqA (p:=fun x=>Go.Sort.ltInt x D1[lo]!) (d:=D1) (.inr hp)] at g3
          repeat' (first|(refine oLA ?_;first|refine a0A rfl ?_|(refine oI ?_;refine a9A rfl rfl (fun _=>rfl) rfl rfl _ rfl (by omega) ?_)|(refine oL ?_;refine alA ho1 rfl (fun _=>rfl) rfl (by omega) ?_;rw [cuA])|refine wOp ?_|(refine wCm ?_ ?_<;>intro hc)|(refine oCv ?_;first|(refine oC 191 ?_;refine a3A (f:=191) rfl rfl rfl rfl  (.val (.bool false)) (by intro u1 u2 w e hu1 hu2;(try obtain rfl:u1=_:=hu1);(try obtain rfl:u2=_:=hu2);exact anA (by rw [hp]) (ayA _ _ _)) ?_))|(refine wNl hK ?_;clear hK K))|refine wG ?_|(refine wCR ?_;intro K hK)|fail)
          (subst g3;exact caA (by repeat' (first | exact Sub.nil | refine Sub.val rfl (by first | with_reducible rfl | (congr 1;omega)) ?_ | refine Sub.same rfl ?_)))
        · rw [scanUp_go (p:=fun x=>Go.Sort.ltInt x D1[lo]!) (d:=D1) hij hp] at g3
          repeat' (first|(refine oLA ?_;first|refine a0A rfl ?_|(refine oI ?_;refine a9A rfl rfl (fun _=>rfl) rfl rfl _ rfl (by omega) ?_)|(refine oL ?_;refine alA ho1 rfl (fun _=>rfl) rfl (by omega) ?_;rw [cuA])|refine wOp ?_|(refine wCm ?_ ?_<;>intro hc)|(refine oCv ?_;first|(refine oC 191 ?_;refine a3A (f:=191) rfl rfl rfl rfl  (.val (.bool true)) (by intro u1 u2 w e hu1 hu2;(try obtain rfl:u1=_:=hu1);(try obtain rfl:u2=_:=hu2);exact anA (by rw [hp]) (ayA _ _ _)) ?_))|(refine wNl hK ?_;clear hK K))|refine wG ?_|(refine wCR ?_;intro K hK)|fail)
          exact chA (i + 1) ⟨by omega,by omega,g3⟩ (by omega) (by repeat' (first | exact Sub.nil | refine Sub.val rfl (by first | with_reducible rfl | (congr 1;omega)) ?_ | refine Sub.same rfl ?_))
      · rw [bqA (p:=fun x=>Go.Sort.ltInt x D1[lo]!) (d:=D1) (.inl hij)] at g3
        subst g3
        repeat' (first|(refine oLA ?_;first|refine a0A rfl ?_|refine wOp ?_|(refine wCm ?_ ?_<;>intro hc)|(refine wNl hK ?_;clear hK K))|refine wG ?_|(refine wCR ?_;intro K hK)|fail)
        exact caA (by repeat' (first | exact Sub.nil | refine Sub.val rfl (by first | with_reducible rfl | (congr 1;omega)) ?_ | refine Sub.same rfl ?_))
    · have q0:True:=trivial
      refine bjA (ι:=Nat) (fun j=>[(0,.val (.slice (some ⟨b,0,none⟩) n cap)),(1,.val (.int .i64 lo)),(2,.val (.int .i64 hi)),(10,.val (.int .i64 ((i3:Nat):Int))),(11,.val (.int .i64 (j:Int)))])
        (fun j=>(i3 ≤ j + 1 ∨ j=jj) ∧ j ≤ jj ∧ Go.Sort.scanDown (fun x=>!Go.Sort.ltInt x D1[lo]!) D1 (i3) j=j3) (fun j=>j) (jj) ⟨.inr rfl,Nat.le_refl _,by rw [hj3]⟩ (by repeat' (first | exact Sub.nil | refine Sub.val rfl (by first | with_reducible rfl | (congr 1;omega)) ?_ | refine Sub.same rfl ?_)) ?_
      rintro j ⟨g1,g2,g3⟩
      have hl5:=asA D1
      by_cases hij:i3 ≤ j
      · obtain ⟨j,rfl⟩:∃ k,j=k + 1:=⟨j - 1,by omega⟩
        cases hp:Go.Sort.ltInt D1[j + 1]! D1[lo]!
        · rw [scanDown_go (p:=fun x=>!Go.Sort.ltInt x D1[lo]!) (d:=D1) hij (by show (!_)=true;rw [hp];rfl)] at g3
          repeat' (first|(refine oLA ?_;first|refine a0A rfl ?_|(refine oI ?_;refine a9A rfl rfl (fun _=>rfl) rfl rfl _ rfl (by omega) ?_)|(refine oL ?_;refine alA ho1 rfl (fun _=>rfl) rfl (by omega) ?_;rw [cuA])|refine wOp ?_|(refine wCm ?_ ?_<;>intro hc)|(refine oCv ?_;first|(refine oC 191 ?_;refine a3A (f:=191) rfl rfl rfl rfl  (.val (.bool false)) (by intro u1 u2 w e hu1 hu2;(try obtain rfl:u1=_:=hu1);(try obtain rfl:u2=_:=hu2);exact anA (by rw [hp]) (ayA _ _ _)) ?_))|(refine wNl hK ?_;clear hK K))|refine wG ?_|(refine wCR ?_;intro K hK)|fail)
          exact chA j ⟨by omega,by omega,g3⟩ (by omega) (by repeat' (first | exact Sub.nil | refine Sub.val rfl (by first | with_reducible rfl | (congr 1;omega)) ?_ | refine Sub.same rfl ?_))
        · rw [bcA (p:=fun x=>!Go.Sort.ltInt x D1[lo]!) (d:=D1) (.inr (by show (!_)=false;rw [hp];rfl))] at g3
          repeat' (first|(refine oLA ?_;first|refine a0A rfl ?_|(refine oI ?_;refine a9A rfl rfl (fun _=>rfl) rfl rfl _ rfl (by omega) ?_)|(refine oL ?_;refine alA ho1 rfl (fun _=>rfl) rfl (by omega) ?_;rw [cuA])|refine wOp ?_|(refine wCm ?_ ?_<;>intro hc)|(refine oCv ?_;first|(refine oC 191 ?_;refine a3A (f:=191) rfl rfl rfl rfl  (.val (.bool true)) (by intro u1 u2 w e hu1 hu2;(try obtain rfl:u1=_:=hu1);(try obtain rfl:u2=_:=hu2);exact anA (by rw [hp]) (ayA _ _ _)) ?_))|(refine wNl hK ?_;clear hK K))|refine wG ?_|(refine wCR ?_;intro K hK)|fail)
          (subst g3;exact caA (by repeat' (first | exact Sub.nil | refine Sub.val rfl (by first | with_reducible rfl | (congr 1;omega)) ?_ | refine Sub.same rfl ?_)))
      · rw [bcA (p:=fun x=>!Go.Sort.ltInt x D1[lo]!) (d:=D1) (.inl hij)] at g3
        subst g3
        repeat' (first|(refine oLA ?_;first|refine a0A rfl ?_|refine wOp ?_|(refine wCm ?_ ?_<;>intro hc)|(refine wNl hK ?_;clear hK K))|refine wG ?_|(refine wCR ?_;intro K hK)|fail)
        exact caA (by repeat' (first | exact Sub.nil | refine Sub.val rfl (by first | with_reducible rfl | (congr 1;omega)) ?_ | refine Sub.same rfl ?_))
    · rw [if_pos (show i3 > j3 by omega)] at c5
      subst c5
      refine amA (j:=j3) rfl he1 ho1 rfl rfl (by omega) (fun _=>rfl) (fun wS1 heS1 hoS1=>?_)
      refine a7A ?_
      repeat' (first|(refine oLA ?_;first|refine wBk ?_|(refine oD 166 ?_;refine a9A rfl rfl (fun _=>rfl) rfl rfl (lo) (by omega) (by omega) ?_)|refine wOp ?_|(refine wCm ?_ ?_<;>intro hc)|(refine wNl hK ?_;clear hK K))|refine wG ?_|(refine wCR ?_;intro K hK)|refine wPh ?_|fail)
      refine amA (j:=lo) rfl heS1 hoS1 rfl rfl (by rw [List.length_set];omega) (fun _=>rfl) (fun wS heS hoS=>?_)
      rw [awA] at hoS
      refine aiA ?_
      repeat' (first|(refine oLA ?_;first|refine wBk ?_|refine wOp ?_|(refine wCm ?_ ?_<;>intro hc)|(refine wNl hK ?_;clear hK K))|refine wG ?_|(refine wCR ?_;intro K hK)|refine wPh ?_|fail)
      exact d4A rfl (fun x y w5 e5 hx hy=>by obtain rfl:x=_:=hx;obtain rfl:y=_:=hy;exact ⟨rfl,Ext.trans (by assumption) e5,OwnI.ext (by assumption) e5⟩)
    · rw [if_neg (show ¬ i3 > j3 by omega)] at c5
      refine amA (j:=i3) rfl he1 ho1 rfl rfl (by omega) (fun _=>rfl) (fun wS1 heS1 hoS1=>?_)
      refine a7A ?_
      repeat' (first|(refine oLA ?_;first|refine wBk ?_|(refine oD 148 ?_;refine a9A rfl rfl (fun _=>rfl) rfl rfl (j3) (by omega) (by omega) ?_)|refine wOp ?_|(refine wCm ?_ ?_<;>intro hc)|(refine wNl hK ?_;clear hK K))|refine wG ?_|(refine wCR ?_;intro K hK)|refine wPh ?_|fail)
      refine amA (j:=j3) rfl heS1 hoS1 rfl rfl (by rw [List.length_set];omega) (fun _=>rfl) (fun wS heS hoS=>?_)
      rw [awA] at hoS
      refine aiA ?_
      repeat' (first|(refine oLA ?_;first|refine wBk ?_|refine wOp ?_|(refine wCm ?_ ?_<;>intro hc)|(refine wNl hK ?_;clear hK K))|refine wG ?_|(refine wCR ?_;intro K hK)|refine wPh ?_|fail)
      exact a6A (i3 + 1,j3 - 1,Go.Sort.swp D1 i3 j3) (fun w5 e5=>⟨heS.trans e5,by dsimp only;rw [swp_size];exact hs1,hoS.ext e5,by dsimp only;omega,by dsimp only;omega,by dsimp only;omega,by dsimp only;omega,c5⟩) (by dsimp only;omega) (by dsimp only;exact (by repeat' (first | exact Sub.nil | refine Sub.val rfl (by first | with_reducible rfl | (congr 1;omega)) ?_ | refine Sub.same rfl ?_)))
end Srt
end Go.Proofs.YtbokphkfojijoaaGreatDoor
end
section
set_option linter.unusedSimpArgs false
set_option linter.unusedVariables false
set_option maxRecDepth 3000
namespace Go.Proofs.YtbokphkfojijoaaGreatDoor
namespace Srt
open Go.LA Go.ArrP Go.RowKit
set_option maxHeartbeats 8000000 in
theorem qdA {w0 w:World} {b cap n:Nat} {D0:Array Int} (he0:Ext w0 w) (ho0:d8A w0 w b cap n D0) (hn:n=D0.size) (lo hi pv:Nat) (h1:lo ≤ pv) (h2:pv < hi) (h3:hi ≤ D0.size) (hb:D0.size < 4611686018427387904) :
    Fc Tryz.prog 209 #[.slice (some ⟨b,0,none⟩) n cap,.int .i64 lo,.int .i64 hi,.int .i64 pv] w (fun e w'=>e=.returned (.int .i64 ((Go.Sort.partitionEqual Go.Sort.ltInt D0 lo hi pv).1:Int)) ∧ Ext w0 w' ∧ d8A w0 w' b cap n (Go.Sort.partitionEqual Go.Sort.ltInt D0 lo hi pv).2):=by
  have hl0:=asA D0
  unfold Go.Sort.partitionEqual
  refine Fc.of (args:=[_,_,_,_]) Tryz.func209 rfl rfl Tryz.ntmps209 (Nat.le_of_ble_eq_true rfl) ?_
  repeat' (first|(refine oLA ?_;first|refine wBk ?_|(refine oI ?_;refine a9A rfl rfl (fun _=>rfl) rfl rfl _ rfl (by omega) ?_)|(refine oL ?_;refine alA ho0 rfl (fun _=>rfl) rfl (by omega) ?_;rw [cuA])|refine wOp ?_|(refine wCm ?_ ?_<;>intro hc)|(refine wNl hK ?_;clear hK K))|(refine oCX ?_;first|refine ajA (id:=1) [13,15] (by kernel_rfl) (by kernel_rfl) (by kernel_rfl) (a7A ?_))|refine wG ?_|(refine wCR ?_;intro K hK)|refine wPh ?_|fail)
  refine amA (j:=lo) rfl he0 ho0 rfl rfl (by omega) (fun _=>rfl) (fun wS1 heS1 hoS1=>?_)
  refine a7A ?_
  repeat' (first|(refine oLA ?_;first|refine wBk ?_|(refine oD 24 ?_;refine a9A rfl rfl (fun _=>rfl) rfl rfl (pv) (by omega) (by omega) ?_)|refine wOp ?_|(refine wCm ?_ ?_<;>intro hc)|(refine wNl hK ?_;clear hK K))|refine wG ?_|(refine wCR ?_;intro K hK)|refine wPh ?_|fail)
  refine amA (j:=pv) rfl heS1 hoS1 rfl rfl (by rw [List.length_set];omega) (fun _=>rfl) (fun wS heS hoS=>?_)
  rw [awA] at hoS
  obtain ⟨D,hD⟩:∃ D,D=Go.Sort.swp D0 lo pv:=⟨_,rfl⟩
  rw [← hD] at hoS ⊢
  have hs:D.size=D0.size:=by rw [hD,swp_size]
  obtain ⟨R,hR⟩:∃ R,R=Go.Sort.partEqLoop Go.Sort.ltInt lo (lo + 1) (hi - 1) D:=⟨_,rfl⟩
  rw [← hR]
  refine aiA ?_
  repeat' (first|(refine oLA ?_;first|refine wBk ?_|(refine oD 26 ?_;refine avA rfl rfl rfl (by dsimp only [fits];omega) ?_;rw [show ((lo:Int) + 1)=((lo + 1:Nat):Int) by omega])|(refine oD 28 ?_;refine afA rfl rfl rfl (by dsimp only [fits];omega) ?_;rw [show ((hi:Int) - 1)=((hi - 1:Nat):Int) by omega])|refine wOp ?_|(refine wCm ?_ ?_<;>intro hc)|(refine wNl hK ?_;clear hK K))|refine wG ?_|(refine wCR ?_;intro K hK)|refine wPh ?_|fail)
  refine adA (ι:=Nat × Nat × Array Int) (fun i=>[(0,.val (.slice (some ⟨b,0,none⟩) n cap)),(1,.val (.int .i64 lo)),(2,.val (.int .i64 hi)),(9,.val (.int .i64 (i.1:Int))),(10,.val (.int .i64 (i.2.1:Int)))])
    (fun i w'=>Ext w0 w' ∧ i.2.2.size=D0.size ∧ d8A w0 w' b cap n i.2.2 ∧ lo + 1 ≤ i.1 ∧ i.1 ≤ i.2.1 + 2 ∧ lo ≤ i.2.1 ∧ i.2.1 ≤ hi - 1 ∧ Go.Sort.partEqLoop Go.Sort.ltInt lo i.1 i.2.1 i.2.2=R) (fun i=>i.2.1 + 2 - i.1)
    (fun w2 e2=>⟨(lo + 1,hi - 1,D),⟨heS.trans e2,hs,hoS.ext e2,by dsimp only;omega,by dsimp only;omega,by dsimp only;omega,by dsimp only;omega,hR.symm⟩,by dsimp only;exact (by repeat' (first | exact Sub.nil | refine Sub.val rfl (by first | with_reducible rfl | (congr 1;omega)) ?_ | refine Sub.same rfl ?_))⟩) ?_
  rintro ⟨ii,jj,D1⟩ w1 ⟨he1,hs1,ho1,c1,c2,c3,c4,c5⟩
  dsimp only at hs1 ho1 c1 c2 c3 c4 c5 ⊢
  have hl1:=asA D1
  obtain ⟨i3,hi3⟩:∃ i3,i3=Go.Sort.scanUp (fun x=>!Go.Sort.ltInt D1[lo]! x) D1 jj ii:=⟨_,rfl⟩
  obtain ⟨j3,hj3⟩:∃ j3,j3=Go.Sort.scanDown (fun x=>Go.Sort.ltInt D1[lo]! x) D1 i3 jj:=⟨_,rfl⟩
  have bi3:=dmA (fun x=>!Go.Sort.ltInt D1[lo]! x) D1 jj _ ii (Nat.le_refl _)
  have bj3:=csA (fun x=>Go.Sort.ltInt D1[lo]! x) D1 i3 jj
  rw [← hi3] at bi3;rw [← hj3] at bj3
  have hpl:=partEqLoop_eq (lt:=Go.Sort.ltInt) (a:=lo) hi3 hj3 (by omega)
  rw [hpl] at c5
  clear hpl hR heS hoS heS1 hoS1 hD
  repeat' (first|(refine oLA ?_;first|refine wBk ?_|(refine oI ?_;refine a9A rfl rfl (fun _=>rfl) rfl rfl _ rfl (by omega) ?_)|(refine oL ?_;refine alA ho1 rfl (fun _=>rfl) rfl (by omega) ?_;rw [cuA])|refine wOp ?_|(refine wCm ?_ ?_<;>intro hc)|(refine wNl hK ?_;clear hK K))|(refine oCX ?_;first|refine dtA 2 [(0,.val (.slice (some ⟨b,0,none⟩) n cap)),(1,.val (.int .i64 lo)),(2,.val (.int .i64 hi)),(9,.val (.int .i64 ((i3:Nat):Int))),(10,.val (.int .i64 ((jj:Nat):Int)))] ?_ ?_|refine dtA 4 [(0,.val (.slice (some ⟨b,0,none⟩) n cap)),(1,.val (.int .i64 lo)),(2,.val (.int .i64 hi)),(9,.val (.int .i64 ((i3:Nat):Int))),(10,.val (.int .i64 ((j3:Nat):Int)))] ?_ ?_|refine ajA (id:=8) [13,15] (by kernel_rfl) (by kernel_rfl) (by kernel_rfl) (a7A ?_))|refine wG ?_|(refine wCR ?_;intro K hK)|refine wPh ?_|fail)
  · have q0:True:=trivial
    refine bjA (ι:=Nat) (fun i=>[(0,.val (.slice (some ⟨b,0,none⟩) n cap)),(1,.val (.int .i64 lo)),(2,.val (.int .i64 hi)),(9,.val (.int .i64 (i:Int))),(10,.val (.int .i64 ((jj:Nat):Int)))])
      (fun i=>ii ≤ i ∧ i ≤ max (ii) (jj + 1) ∧ Go.Sort.scanUp (fun x=>!Go.Sort.ltInt D1[lo]! x) D1 (jj) i=i3) (fun i=>jj + 1 - i) (ii) ⟨Nat.le_refl _,by omega,by rw [hi3]⟩ (by repeat' (first | exact Sub.nil | refine Sub.val rfl (by first | with_reducible rfl | (congr 1;omega)) ?_ | refine Sub.same rfl ?_)) ?_
    rintro i ⟨g1,g2,g3⟩
    have hl5:=asA D1
    by_cases hij:i ≤ jj
    · cases hp:Go.Sort.ltInt D1[lo]! D1[i]!
      · rw [scanUp_go (p:=fun x=>!Go.Sort.ltInt D1[lo]! x) (d:=D1) hij (by show (!_)=true;rw [hp];rfl)] at g3
        repeat' (first|(refine oLA ?_;first|refine a0A rfl ?_|(refine oI ?_;refine a9A rfl rfl (fun _=>rfl) rfl rfl _ rfl (by omega) ?_)|(refine oL ?_;refine alA ho1 rfl (fun _=>rfl) rfl (by omega) ?_;rw [cuA])|refine wOp ?_|(refine wCm ?_ ?_<;>intro hc)|(refine oCv ?_;first|(refine oC 191 ?_;refine a3A (f:=191) rfl rfl rfl rfl  (.val (.bool false)) (by intro u1 u2 w e hu1 hu2;(try obtain rfl:u1=_:=hu1);(try obtain rfl:u2=_:=hu2);exact anA (by rw [hp]) (ayA _ _ _)) ?_))|(refine wNl hK ?_;clear hK K))|refine wG ?_|(refine wCR ?_;intro K hK)|fail)
        exact chA (i + 1) ⟨by omega,by omega,g3⟩ (by omega) (by repeat' (first | exact Sub.nil | refine Sub.val rfl (by first | with_reducible rfl | (congr 1;omega)) ?_ | refine Sub.same rfl ?_))
      · rw [bqA (p:=fun x=>!Go.Sort.ltInt D1[lo]! x) (d:=D1) (.inr (by show (!_)=false;rw [hp];rfl))] at g3
        repeat' (first|(refine oLA ?_;first|refine a0A rfl ?_|(refine oI ?_;refine a9A rfl rfl (fun _=>rfl) rfl rfl _ rfl (by omega) ?_)|(refine oL ?_;refine alA ho1 rfl (fun _=>rfl) rfl (by omega) ?_;rw [cuA])|refine wOp ?_|(refine wCm ?_ ?_<;>intro hc)|(refine oCv ?_;first|(refine oC 191 ?_;refine a3A (f:=191) rfl rfl rfl rfl  (.val (.bool true)) (by intro u1 u2 w e hu1 hu2;(try obtain rfl:u1=_:=hu1);(try obtain rfl:u2=_:=hu2);exact anA (by rw [hp]) (ayA _ _ _)) ?_))|(refine wNl hK ?_;clear hK K))|refine wG ?_|(refine wCR ?_;intro K hK)|fail)
        (subst g3;exact caA (by repeat' (first | exact Sub.nil | refine Sub.val rfl (by first | with_reducible rfl | (congr 1;omega)) ?_ | refine Sub.same rfl ?_)))
    · rw [bqA (p:=fun x=>!Go.Sort.ltInt D1[lo]! x) (d:=D1) (.inl hij)] at g3
      subst g3
      repeat' (first|(refine oLA ?_;first|refine a0A rfl ?_|refine wOp ?_|(refine wCm ?_ ?_<;>intro hc)|(refine wNl hK ?_;clear hK K))|refine wG ?_|(refine wCR ?_;intro K hK)|fail)
      exact caA (by repeat' (first | exact Sub.nil | refine Sub.val rfl (by first | with_reducible rfl | (congr 1;omega)) ?_ | refine Sub.same rfl ?_))
  · have q0:True:=trivial
    refine bjA (ι:=Nat) (fun j=>[(0,.val (.slice (some ⟨b,0,none⟩) n cap)),(1,.val (.int .i64 lo)),(2,.val (.int .i64 hi)),(9,.val (.int .i64 ((i3:Nat):Int))),(10,.val (.int .i64 (j:Int)))])
      (fun j=>(i3 ≤ j + 1 ∨ j=jj) ∧ j ≤ jj ∧ Go.Sort.scanDown (fun x=>Go.Sort.ltInt D1[lo]! x) D1 (i3) j=j3) (fun j=>j) (jj) ⟨.inr rfl,Nat.le_refl _,by rw [hj3]⟩ (by repeat' (first | exact Sub.nil | refine Sub.val rfl (by first | with_reducible rfl | (congr 1;omega)) ?_ | refine Sub.same rfl ?_)) ?_
    rintro j ⟨g1,g2,g3⟩
    have hl5:=asA D1
    by_cases hij:i3 ≤ j
    · obtain ⟨j,rfl⟩:∃ k,j=k + 1:=⟨j - 1,by omega⟩
      cases hp:Go.Sort.ltInt D1[lo]! D1[j + 1]!
      · rw [bcA (p:=fun x=>Go.Sort.ltInt D1[lo]! x) (d:=D1) (.inr hp)] at g3
        repeat' (first|(refine oLA ?_;first|refine a0A rfl ?_|(refine oI ?_;refine a9A rfl rfl (fun _=>rfl) rfl rfl _ rfl (by omega) ?_)|(refine oL ?_;refine alA ho1 rfl (fun _=>rfl) rfl (by omega) ?_;rw [cuA])|refine wOp ?_|(refine wCm ?_ ?_<;>intro hc)|(refine oCv ?_;first|(refine oC 191 ?_;refine a3A (f:=191) rfl rfl rfl rfl  (.val (.bool false)) (by intro u1 u2 w e hu1 hu2;(try obtain rfl:u1=_:=hu1);(try obtain rfl:u2=_:=hu2);exact anA (by rw [hp]) (ayA _ _ _)) ?_))|(refine wNl hK ?_;clear hK K))|refine wG ?_|(refine wCR ?_;intro K hK)|fail)
        (subst g3;exact caA (by repeat' (first | exact Sub.nil | refine Sub.val rfl (by first | with_reducible rfl | (congr 1;omega)) ?_ | refine Sub.same rfl ?_)))
      · rw [scanDown_go (p:=fun x=>Go.Sort.ltInt D1[lo]! x) (d:=D1) hij hp] at g3
        repeat' (first|(refine oLA ?_;first|refine a0A rfl ?_|(refine oI ?_;refine a9A rfl rfl (fun _=>rfl) rfl rfl _ rfl (by omega) ?_)|(refine oL ?_;refine alA ho1 rfl (fun _=>rfl) rfl (by omega) ?_;rw [cuA])|refine wOp ?_|(refine wCm ?_ ?_<;>intro hc)|(refine oCv ?_;first|(refine oC 191 ?_;refine a3A (f:=191) rfl rfl rfl rfl  (.val (.bool true)) (by intro u1 u2 w e hu1 hu2;(try obtain rfl:u1=_:=hu1);(try obtain rfl:u2=_:=hu2);exact anA (by rw [hp]) (ayA _ _ _)) ?_))|(refine wNl hK ?_;clear hK K))|refine wG ?_|(refine wCR ?_;intro K hK)|fail)
        exact chA j ⟨by omega,by omega,g3⟩ (by omega) (by repeat' (first | exact Sub.nil | refine Sub.val rfl (by first | with_reducible rfl | (congr 1;omega)) ?_ | refine Sub.same rfl ?_))
    · rw [bcA (p:=fun x=>Go.Sort.ltInt D1[lo]! x) (d:=D1) (.inl hij)] at g3
      subst g3
      repeat' (first|(refine oLA ?_;first|refine a0A rfl ?_|refine wOp ?_|(refine wCm ?_ ?_<;>intro hc)|(refine wNl hK ?_;clear hK K))|refine wG ?_|(refine wCR ?_;intro K hK)|fail)
      exact caA (by repeat' (first | exact Sub.nil | refine Sub.val rfl (by first | with_reducible rfl | (congr 1;omega)) ?_ | refine Sub.same rfl ?_))
  · rw [if_pos (show i3 > j3 by omega)] at c5
    subst c5
    repeat' (first|(refine oLA ?_;first|refine a0A rfl ?_|refine wOp ?_|(refine wCm ?_ ?_<;>intro hc)|(refine wNl hK ?_;clear hK K))|refine wG ?_|(refine wCR ?_;intro K hK)|fail)
    exact bxA rfl (fun x w5 e5 hx=>by obtain rfl:x=_:=hx;exact ⟨rfl,Ext.trans (by assumption) e5,OwnI.ext (by assumption) e5⟩)
  · rw [if_neg (show ¬ i3 > j3 by omega)] at c5
    refine amA (j:=i3) rfl he1 ho1 rfl rfl (by omega) (fun _=>rfl) (fun wS1 heS1 hoS1=>?_)
    refine a7A ?_
    repeat' (first|(refine oLA ?_;first|refine wBk ?_|(refine oD 78 ?_;refine a9A rfl rfl (fun _=>rfl) rfl rfl (j3) (by omega) (by omega) ?_)|refine wOp ?_|(refine wCm ?_ ?_<;>intro hc)|(refine wNl hK ?_;clear hK K))|refine wG ?_|(refine wCR ?_;intro K hK)|refine wPh ?_|fail)
    refine amA (j:=j3) rfl heS1 hoS1 rfl rfl (by rw [List.length_set];omega) (fun _=>rfl) (fun wS heS hoS=>?_)
    rw [awA] at hoS
    refine aiA ?_
    repeat' (first|(refine oLA ?_;first|refine wBk ?_|refine wOp ?_|(refine wCm ?_ ?_<;>intro hc)|(refine wNl hK ?_;clear hK K))|refine wG ?_|(refine wCR ?_;intro K hK)|refine wPh ?_|fail)
    exact a6A (i3 + 1,j3 - 1,Go.Sort.swp D1 i3 j3) (fun w5 e5=>⟨heS.trans e5,by dsimp only;rw [swp_size];exact hs1,hoS.ext e5,by dsimp only;omega,by dsimp only;omega,by dsimp only;omega,by dsimp only;omega,c5⟩) (by dsimp only;omega) (by dsimp only;exact (by repeat' (first | exact Sub.nil | refine Sub.val rfl (by first | with_reducible rfl | (congr 1;omega)) ?_ | refine Sub.same rfl ?_)))
end Srt
end Go.Proofs.YtbokphkfojijoaaGreatDoor
end
