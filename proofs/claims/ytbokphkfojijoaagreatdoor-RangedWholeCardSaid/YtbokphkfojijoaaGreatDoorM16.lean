import Derived.Test.YtbokphkfojijoaaGreatDoorM14
import Derived.Test.YtbokphkfojijoaaGreatDoorM15
section
set_option linter.unusedSimpArgs false
set_option linter.unusedVariables false
set_option maxRecDepth 3000
namespace Go.Proofs.YtbokphkfojijoaaGreatDoor
namespace Srt
open Go.LA Go.ArrP Go.RowKit
set_option maxHeartbeats 16000000 in
theorem tgA {w0 w:World} {b cap n:Nat} {D0:Array Int} (he0:Ext w0 w) (ho0:d8A w0 w b cap n D0) (hn:n=D0.size) (lo hi:Nat) (h1:lo < hi) (h2:hi ≤ D0.size) (hb:D0.size < 4611686018427387904) :
    Fc Tryz.prog 208 #[.slice (some ⟨b,0,none⟩) n cap,.int .i64 lo,.int .i64 hi] w (fun e w'=>e=.returned (.bool (Go.Sort.partialInsertionSort Go.Sort.ltInt D0 lo hi).2) ∧ Ext w0 w' ∧ d8A w0 w' b cap n (Go.Sort.partialInsertionSort Go.Sort.ltInt D0 lo hi).1):=by
  unfold Go.Sort.partialInsertionSort
  obtain ⟨R,hR⟩:∃ R,R=Go.Sort.partialIns Go.Sort.ltInt lo hi 5 (lo + 1) D0:=⟨_,rfl⟩
  rw [← hR]
  refine Fc.of (args:=[_,_,_]) Tryz.func208 rfl rfl Tryz.ntmps208 (Nat.le_of_ble_eq_true rfl) ?_
  repeat' (first|(refine oLA ?_;first|refine a0A rfl ?_|(refine oD 12 ?_;refine avA rfl rfl rfl (by dsimp only [fits];omega) ?_;rw [show ((lo:Int) + 1)=((lo + 1:Nat):Int) by omega])|refine wOp ?_|(refine wCm ?_ ?_<;>intro hc)|(refine wNl hK ?_;clear hK K))|refine wG ?_|(refine wCR ?_;intro K hK)|fail)
  refine adA (ι:=Nat × Nat × Array Int) (fun i=>[(0,.val (.slice (some ⟨b,0,none⟩) n cap)),(1,.val (.int .i64 lo)),(2,.val (.int .i64 hi)),(6,.val (.bool false)),(7,.val (.int .i64 (i.2.1:Int))),(8,.val (.int .i64 (5 - (i.1:Int))))])
    (fun i w'=>Ext w0 w' ∧ i.1 ≤ 5 ∧ i.2.2.size=D0.size ∧ d8A w0 w' b cap n i.2.2 ∧ lo + 1 ≤ i.2.1 ∧ i.2.1 ≤ hi ∧ Go.Sort.partialIns Go.Sort.ltInt lo hi i.1 i.2.1 i.2.2=R) (fun i=>i.1)
    (fun w2 e2=>⟨(5,lo + 1,D0),⟨he0.trans e2,Nat.le_refl _,rfl,ho0.ext e2,Nat.le_refl _,by dsimp only;omega,hR.symm⟩,by dsimp only;exact (by repeat' (first | exact Sub.nil | refine Sub.val rfl (by first | with_reducible rfl | (congr 1;omega)) ?_ | refine Sub.same rfl ?_))⟩) ?_
  rintro ⟨s,ii,D⟩ w1 ⟨he1,hs5,hs1,ho1,c1,c2,c3⟩
  dsimp only at hs5 hs1 ho1 c1 c2 c3 ⊢
  have hl1:=asA D
  cases s with
  | zero =>
    rw [Go.Sort.partialIns] at c3
    subst c3
    repeat' (first|(refine oLA ?_;first|refine a0A rfl ?_|refine wOp ?_|(refine wCm ?_ ?_<;>intro hc)|(refine wNl hK ?_;clear hK K))|refine wG ?_|(refine wCR ?_;intro K hK)|fail)
    exact bxA rfl (fun x w5 e5 hx=>by obtain rfl:x=_:=hx;exact ⟨rfl,Ext.trans (by assumption) e5,OwnI.ext (by assumption) e5⟩)
  | succ s =>
  obtain ⟨i3,hi3⟩:∃ i3,i3=Go.Sort.scanSorted Go.Sort.ltInt D hi ii:=⟨_,rfl⟩
  have bi3:=Go.Sort.scanSorted_bd (lt:=Go.Sort.ltInt) (d:=D) (b:=hi) _ ii (Nat.le_refl _) c2
  rw [← hi3] at bi3
  repeat' (first|(refine oLA ?_;first|refine wBk ?_|(refine oI ?_;refine a9A rfl rfl (fun _=>rfl) rfl rfl _ rfl (by omega) ?_)|(refine oL ?_;refine alA ho1 rfl (fun _=>rfl) rfl (by omega) ?_;rw [cuA])|(refine oD 46 ?_;refine afA rfl rfl rfl (by dsimp only [fits];omega) ?_;rw [show ((i3:Int) - 1)=((i3 - 1:Nat):Int) by omega])|(refine oD 49 ?_;refine afA rfl rfl rfl (by dsimp only [fits];omega) ?_;rw [show ((i3:Int) - 1)=((i3 - 1:Nat):Int) by omega])|refine wOp ?_|(refine wCm ?_ ?_<;>intro hc)|(refine wNl hK ?_;clear hK K))|(refine oCX ?_;first|refine dtA 2 [(0,.val (.slice (some ⟨b,0,none⟩) n cap)),(1,.val (.int .i64 lo)),(2,.val (.int .i64 hi)),(6,.val (.bool false)),(7,.val (.int .i64 (i3:Nat))),(8,.val (.int .i64 (5 - ((s + 1:Nat):Int))))] ?_ ?_|refine ajA (id:=11) [15,17] (by kernel_rfl) (by kernel_rfl) (by kernel_rfl) (a7A ?_))|refine wG ?_|(refine wCR ?_;intro K hK)|refine wPh ?_|fail)
  · refine bjA (ι:=Nat) (fun i=>[(0,.val (.slice (some ⟨b,0,none⟩) n cap)),(1,.val (.int .i64 lo)),(2,.val (.int .i64 hi)),(6,.val (.bool false)),(7,.val (.int .i64 (i:Nat))),(8,.val (.int .i64 (5 - ((s + 1:Nat):Int))))])
      (fun i=>ii ≤ i ∧ i ≤ hi ∧ Go.Sort.scanSorted Go.Sort.ltInt D hi i=i3) (fun i=>hi - i) ii ⟨Nat.le_refl _,c2,by rw [hi3]⟩ (by repeat' (first | exact Sub.nil | refine Sub.val rfl (by first | with_reducible rfl | (congr 1;omega)) ?_ | refine Sub.same rfl ?_)) ?_
    rintro i ⟨g1,g2,g3⟩
    by_cases hij:i < hi
    · cases hp:Go.Sort.ltInt D[i]! D[i - 1]!
      · rw [Go.Sort.scanSorted_go hij hp] at g3
        repeat' (first|(refine oLA ?_;first|refine a0A rfl ?_|(refine oD 27 ?_;refine afA rfl rfl rfl (by dsimp only [fits];omega) ?_;rw [show ((i:Int) - 1)=((i - 1:Nat):Int) by omega])|(refine oI ?_;refine a9A rfl rfl (fun _=>rfl) rfl rfl _ rfl (by omega) ?_)|(refine oL ?_;refine alA ho1 rfl (fun _=>rfl) rfl (by omega) ?_;rw [cuA])|refine wOp ?_|(refine wCm ?_ ?_<;>intro hc)|(refine oCv ?_;first|(refine oC 191 ?_;refine a3A (f:=191) rfl rfl rfl rfl  (.val (.bool false)) (by intro u1 u2 w e hu1 hu2;(try obtain rfl:u1=_:=hu1);(try obtain rfl:u2=_:=hu2);exact anA (by rw [hp]) (ayA _ _ _)) ?_))|(refine wNl hK ?_;clear hK K))|refine wG ?_|(refine wCR ?_;intro K hK)|fail)
        exact chA (i + 1) ⟨by omega,by omega,g3⟩ (by omega) (by repeat' (first | exact Sub.nil | refine Sub.val rfl (by first | with_reducible rfl | (congr 1;omega)) ?_ | refine Sub.same rfl ?_))
      · rw [Go.Sort.scanSorted_stop (.inr hp)] at g3
        subst g3
        repeat' (first|(refine oLA ?_;first|refine a0A rfl ?_|(refine oD 27 ?_;refine afA rfl rfl rfl (by dsimp only [fits];omega) ?_;rw [show ((i:Int) - 1)=((i - 1:Nat):Int) by omega])|(refine oI ?_;refine a9A rfl rfl (fun _=>rfl) rfl rfl _ rfl (by omega) ?_)|(refine oL ?_;refine alA ho1 rfl (fun _=>rfl) rfl (by omega) ?_;rw [cuA])|refine wOp ?_|(refine wCm ?_ ?_<;>intro hc)|(refine oCv ?_;first|(refine oC 191 ?_;refine a3A (f:=191) rfl rfl rfl rfl  (.val (.bool true)) (by intro u1 u2 w e hu1 hu2;(try obtain rfl:u1=_:=hu1);(try obtain rfl:u2=_:=hu2);exact anA (by rw [hp]) (ayA _ _ _)) ?_))|(refine wNl hK ?_;clear hK K))|refine wG ?_|(refine wCR ?_;intro K hK)|fail)
        exact caA (by repeat' (first | exact Sub.nil | refine Sub.val rfl (by first | with_reducible rfl | (congr 1;omega)) ?_ | refine Sub.same rfl ?_))
    · rw [Go.Sort.scanSorted_stop (.inl hij)] at g3
      subst g3
      repeat' (first|(refine oLA ?_;first|refine a0A rfl ?_|refine wOp ?_|(refine wCm ?_ ?_<;>intro hc)|(refine wNl hK ?_;clear hK K))|refine wG ?_|(refine wCR ?_;intro K hK)|fail)
      exact caA (by repeat' (first | exact Sub.nil | refine Sub.val rfl (by first | with_reducible rfl | (congr 1;omega)) ?_ | refine Sub.same rfl ?_))
  · skip
    rw [Go.Sort.pI_end hi3 (by omega)] at c3
    subst c3
    exact bxA rfl (fun x w5 e5 hx=>by obtain rfl:x=_:=hx;exact ⟨rfl,Ext.trans (by assumption) e5,OwnI.ext (by assumption) e5⟩)
  · skip
    rw [Go.Sort.pI_short hi3 (by omega) (by omega)] at c3
    subst c3
    exact bxA rfl (fun x w5 e5 hx=>by obtain rfl:x=_:=hx;exact ⟨rfl,Ext.trans (by assumption) e5,OwnI.ext (by assumption) e5⟩)
  · skip
    refine amA (j:=i3) rfl he1 ho1 rfl rfl (by omega) (fun _=>rfl) (fun wS1 heS1 hoS1=>?_)
    refine a7A ?_
    repeat' (first|(refine oLA ?_;first|refine wBk ?_|(refine oD 57 ?_;refine a9A rfl rfl (fun _=>rfl) rfl rfl ((i3 - 1)) (by omega) (by omega) ?_)|(refine oD 46 ?_;refine afA rfl rfl rfl (by dsimp only [fits];omega) ?_;rw [show ((i3:Int) - 1)=((i3 - 1:Nat):Int) by omega])|refine wOp ?_|(refine wCm ?_ ?_<;>intro hc)|(refine wNl hK ?_;clear hK K))|refine wG ?_|(refine wCR ?_;intro K hK)|refine wPh ?_|fail)
    refine amA (j:=(i3 - 1)) rfl heS1 hoS1 rfl rfl (by rw [List.length_set];omega) (fun _=>rfl) (fun wS heS hoS=>?_)
    rw [awA] at hoS
    obtain ⟨D2,e2⟩:∃ D2,D2=Go.Sort.swp D i3 (i3 - 1):=⟨_,rfl⟩
    obtain ⟨D3,e3⟩:∃ D3,D3=if i3 - lo ≥ 2 then Go.Sort.shiftDown Go.Sort.ltInt (i3 - 1) D2 else D2:=⟨_,rfl⟩
    obtain ⟨D4,e4⟩:∃ D4,D4=if hi - i3 ≥ 2 then Go.Sort.shiftUp Go.Sort.ltInt hi (i3 + 1) D3 else D3:=⟨_,rfl⟩
    rw [Go.Sort.pI_go hi3 (by omega) (by omega) e2 e3 e4] at c3
    rw [← e2] at hoS
    have hs2:D2.size=D0.size:=by rw [e2,swp_size];exact hs1
    have hs3:D3.size=D0.size:=by rw [e3];split;exact (Go.Sort.shiftDown_size _ _).trans hs2;exact hs2
    have hs4:D4.size=D0.size:=by rw [e4];split;exact (Go.Sort.shiftUp_size _ _ _ (Nat.le_refl _)).trans hs3;exact hs3
    refine aiA ?_
    repeat' (first|(refine oLA ?_;first|refine wBk ?_|(refine oD 63 ?_;refine afA rfl rfl rfl (by dsimp only [fits];omega) ?_;rw [show ((i3:Int) - 1)=((i3 - 1:Nat):Int) by omega])|refine wOp ?_|(refine wCm ?_ ?_<;>intro hc)|(refine wNl hK ?_;clear hK K))|(refine oCX ?_;first|refine cjA (id:=12) (ι:=Unit) (fun _=>[(0,.val (.slice (some ⟨b,0,none⟩) n cap)),(1,.val (.int .i64 lo)),(2,.val (.int .i64 hi)),(6,.val (.bool false)),(7,.val (.int .i64 (i3:Nat))),(8,.val (.int .i64 (5 - ((s + 1:Nat):Int))))]) (fun _ w'=>Ext w0 w' ∧ d8A w0 w' b cap n D3) ?_ ?_)|refine wG ?_|(refine wCR ?_;intro K hK)|refine wPh ?_|fail)
    · skip
      rw [if_pos (by omega)] at e3
      refine adA (ι:=Nat × Array Int) (fun i=>[(0,.val (.slice (some ⟨b,0,none⟩) n cap)),(1,.val (.int .i64 lo)),(2,.val (.int .i64 hi)),(6,.val (.bool false)),(7,.val (.int .i64 (i3:Nat))),(8,.val (.int .i64 (5 - ((s + 1:Nat):Int)))),(9,.val (.int .i64 (i.1:Int)))])
        (fun i w'=>Ext w0 w' ∧ i.1 ≤ i3 - 1 ∧ i.2.size=D0.size ∧ d8A w0 w' b cap n i.2 ∧ Go.Sort.shiftDown Go.Sort.ltInt i.1 i.2=D3) (fun i=>i.1)
        (fun w2 e2=>⟨(i3 - 1,D2),⟨heS.trans e2,Nat.le_refl _,hs2,hoS.ext e2,e3.symm⟩,by dsimp only;exact (by repeat' (first | exact Sub.nil | refine Sub.val rfl (by first | with_reducible rfl | (congr 1;omega)) ?_ | refine Sub.same rfl ?_))⟩) ?_
      rintro ⟨j,D5⟩ w5 ⟨he5,hj5,hs5',ho5,hr5⟩
      dsimp only at hj5 hs5' ho5 hr5 ⊢
      have hl5:=asA D5
      clear heS hoS heS1 hoS1
      cases j with
      | zero =>
        rw [Go.Sort.shiftDown] at hr5
        subst hr5
        repeat' (first|(refine oLA ?_;first|refine a0A rfl ?_|refine wOp ?_|(refine wCm ?_ ?_<;>intro hc)|(refine wNl hK ?_;clear hK K))|refine wG ?_|(refine wCR ?_;intro K hK)|fail)
        exact a6A () (fun w6 e6=>⟨he5.trans e6,ho5.ext e6⟩) (by omega) (by repeat' (first | exact Sub.nil | refine Sub.val rfl (by first | with_reducible rfl | (congr 1;omega)) ?_ | refine Sub.same rfl ?_))
      | succ j =>
        rw [Go.Sort.shiftDown] at hr5
        cases hp:Go.Sort.ltInt D5[j + 1]! D5[j]!
        · rw [hp,if_pos (by rfl)] at hr5
          subst hr5
          repeat' (first|(refine oLA ?_;first|refine a0A rfl ?_|(refine oD 74 ?_;refine afA rfl rfl rfl (by dsimp only [fits];omega) ?_;rw [show (((j + 1:Nat):Int) - 1)=(j:Int) by omega])|(refine oI ?_;refine a9A rfl rfl (fun _=>rfl) rfl rfl _ rfl (by omega) ?_)|(refine oL ?_;refine alA ho5 rfl (fun _=>rfl) rfl (by omega) ?_;rw [cuA])|refine wOp ?_|(refine wCm ?_ ?_<;>intro hc)|(refine oCv ?_;first|(refine oC 191 ?_;refine a3A (f:=191) rfl rfl rfl rfl  (.val (.bool false)) (by intro u1 u2 w e hu1 hu2;(try obtain rfl:u1=_:=hu1);(try obtain rfl:u2=_:=hu2);exact anA (by rw [hp]) (ayA _ _ _)) ?_))|(refine wNl hK ?_;clear hK K))|refine wG ?_|(refine wCR ?_;intro K hK)|fail)
          exact a6A () (fun w6 e6=>⟨he5.trans e6,ho5.ext e6⟩) (by omega) (by repeat' (first | exact Sub.nil | refine Sub.val rfl (by first | with_reducible rfl | (congr 1;omega)) ?_ | refine Sub.same rfl ?_))
        · rw [hp,if_neg (by simp)] at hr5
          repeat' (first|(refine oLA ?_;first|refine wBk ?_|(refine oD 74 ?_;refine afA rfl rfl rfl (by dsimp only [fits];omega) ?_;rw [show (((j + 1:Nat):Int) - 1)=(j:Int) by omega])|(refine oD 83 ?_;refine afA rfl rfl rfl (by dsimp only [fits];omega) ?_;rw [show (((j + 1:Nat):Int) - 1)=(j:Int) by omega])|(refine oD 86 ?_;refine afA rfl rfl rfl (by dsimp only [fits];omega) ?_;rw [show (((j + 1:Nat):Int) - 1)=(j:Int) by omega])|(refine oI ?_;refine a9A rfl rfl (fun _=>rfl) rfl rfl _ rfl (by omega) ?_)|(refine oL ?_;refine alA ho5 rfl (fun _=>rfl) rfl (by omega) ?_;rw [cuA])|refine wOp ?_|(refine wCm ?_ ?_<;>intro hc)|(refine oCv ?_;first|(refine oC 191 ?_;refine a3A (f:=191) rfl rfl rfl rfl  (.val (.bool true)) (by intro u1 u2 w e hu1 hu2;(try obtain rfl:u1=_:=hu1);(try obtain rfl:u2=_:=hu2);exact anA (by rw [hp]) (ayA _ _ _)) ?_))|(refine wNl hK ?_;clear hK K))|(refine oCX ?_;first|refine ajA (id:=17) [15,17] (by kernel_rfl) (by kernel_rfl) (by kernel_rfl) (a7A ?_))|refine wG ?_|(refine wCR ?_;intro K hK)|refine wPh ?_|fail)
          refine amA (j:=(j + 1)) rfl he5 ho5 rfl rfl (by omega) (fun _=>rfl) (fun wS1 heS1 hoS1=>?_)
          refine a7A ?_
          repeat' (first|(refine oLA ?_;first|refine wBk ?_|(refine oD 94 ?_;refine a9A rfl rfl (fun _=>rfl) rfl rfl (j) (by omega) (by omega) ?_)|(refine oD 83 ?_;refine afA rfl rfl rfl (by dsimp only [fits];omega) ?_;rw [show (((j + 1:Nat):Int) - 1)=(j:Int) by omega])|refine wOp ?_|(refine wCm ?_ ?_<;>intro hc)|(refine wNl hK ?_;clear hK K))|refine wG ?_|(refine wCR ?_;intro K hK)|refine wPh ?_|fail)
          refine amA (j:=j) rfl heS1 hoS1 rfl rfl (by rw [List.length_set];omega) (fun _=>rfl) (fun wS heS hoS=>?_)
          rw [awA] at hoS
          refine aiA ?_
          repeat' (first|(refine oLA ?_;first|refine wBk ?_|(refine oD 67 ?_;refine afA rfl rfl rfl (by dsimp only [fits];omega) ?_;rw [show (((j + 1:Nat):Int) - 1)=(j:Int) by omega])|refine wOp ?_|(refine wCm ?_ ?_<;>intro hc)|(refine wNl hK ?_;clear hK K))|refine wG ?_|(refine wCR ?_;intro K hK)|refine wPh ?_|fail)
          exact a6A (j,Go.Sort.swp D5 (j + 1) j) (fun w6 e6=>⟨heS.trans e6,by dsimp only;omega,by dsimp only;rw [swp_size];exact hs5',hoS.ext e6,hr5⟩) (by dsimp only;omega) (by dsimp only;exact (by repeat' (first | exact Sub.nil | refine Sub.val rfl (by first | with_reducible rfl | (congr 1;omega)) ?_ | refine Sub.same rfl ?_)))
    · skip
      rw [if_neg (by omega)] at e3
      exact a6A () (fun w6 e6=>⟨heS.trans e6,by rw [e3];exact hoS.ext e6⟩) (by omega) (by repeat' (first | exact Sub.nil | refine Sub.val rfl (by first | with_reducible rfl | (congr 1;omega)) ?_ | refine Sub.same rfl ?_))
    · rintro - wX ⟨heX,hoX⟩
      have hl3:=asA D3
      repeat' (first|(refine oLA ?_;first|refine a0A rfl ?_|(refine oD 100 ?_;refine avA rfl rfl rfl (by dsimp only [fits];omega) ?_;rw [show ((i3:Int) + 1)=((i3 + 1:Nat):Int) by omega])|refine wOp ?_|(refine wCm ?_ ?_<;>intro hc)|(refine wNl hK ?_;clear hK K))|refine wG ?_|(refine wCR ?_;intro K hK)|fail)
      · skip
        rw [if_pos (by omega)] at e4
        refine adA (ι:=Nat × Array Int) (fun i=>[(0,.val (.slice (some ⟨b,0,none⟩) n cap)),(1,.val (.int .i64 lo)),(2,.val (.int .i64 hi)),(6,.val (.bool false)),(7,.val (.int .i64 (i3:Nat))),(8,.val (.int .i64 (5 - ((s + 1:Nat):Int)))),(10,.val (.int .i64 (i.1:Int)))])
          (fun i w'=>Ext w0 w' ∧ i3 + 1 ≤ i.1 ∧ i.2.size=D0.size ∧ d8A w0 w' b cap n i.2 ∧ Go.Sort.shiftUp Go.Sort.ltInt hi i.1 i.2=D4) (fun i=>hi - i.1)
          (fun w2 e2=>⟨(i3 + 1,D3),⟨heX.trans e2,Nat.le_refl _,hs3,hoX.ext e2,e4.symm⟩,by dsimp only;exact (by repeat' (first | exact Sub.nil | refine Sub.val rfl (by first | with_reducible rfl | (congr 1;omega)) ?_ | refine Sub.same rfl ?_))⟩) ?_
        rintro ⟨j,D5⟩ w5 ⟨he5,hj5,hs5',ho5,hr5⟩
        dsimp only at hj5 hs5' ho5 hr5 ⊢
        have hl5:=asA D5
        clear heS hoS heS1 hoS1
        by_cases hjb:j < hi
        · cases hp:Go.Sort.ltInt D5[j]! D5[j - 1]!
          · rw [Go.Sort.shiftUp_stop (.inr hp)] at hr5
            subst hr5
            repeat' (first|(refine oLA ?_;first|refine a0A rfl ?_|(refine oD 112 ?_;refine afA rfl rfl rfl (by dsimp only [fits];omega) ?_;rw [show ((j:Int) - 1)=((j - 1:Nat):Int) by omega])|(refine oI ?_;refine a9A rfl rfl (fun _=>rfl) rfl rfl _ rfl (by omega) ?_)|(refine oL ?_;refine alA ho5 rfl (fun _=>rfl) rfl (by omega) ?_;rw [cuA])|refine wOp ?_|(refine wCm ?_ ?_<;>intro hc)|(refine oCv ?_;first|(refine oC 191 ?_;refine a3A (f:=191) rfl rfl rfl rfl  (.val (.bool false)) (by intro u1 u2 w e hu1 hu2;(try obtain rfl:u1=_:=hu1);(try obtain rfl:u2=_:=hu2);exact anA (by rw [hp]) (ayA _ _ _)) ?_))|(refine wNl hK ?_;clear hK K))|refine wG ?_|(refine wCR ?_;intro K hK)|fail)
            exact a6A (s,i3,D5) (fun w6 e6=>⟨he5.trans e6,by dsimp only;omega,hs4,ho5.ext e6,by dsimp only;omega,by dsimp only;omega,c3⟩) (by dsimp only;omega) (by dsimp only;exact (by repeat' (first | exact Sub.nil | refine Sub.val rfl (by first | with_reducible rfl | (congr 1;omega)) ?_ | refine Sub.same rfl ?_)))
          · rw [Go.Sort.shiftUp_go hjb hp] at hr5
            repeat' (first|(refine oLA ?_;first|refine wBk ?_|(refine oD 112 ?_;refine afA rfl rfl rfl (by dsimp only [fits];omega) ?_;rw [show ((j:Int) - 1)=((j - 1:Nat):Int) by omega])|(refine oD 121 ?_;refine afA rfl rfl rfl (by dsimp only [fits];omega) ?_;rw [show ((j:Int) - 1)=((j - 1:Nat):Int) by omega])|(refine oD 124 ?_;refine afA rfl rfl rfl (by dsimp only [fits];omega) ?_;rw [show ((j:Int) - 1)=((j - 1:Nat):Int) by omega])|(refine oI ?_;refine a9A rfl rfl (fun _=>rfl) rfl rfl _ rfl (by omega) ?_)|(refine oL ?_;refine alA ho5 rfl (fun _=>rfl) rfl (by omega) ?_;rw [cuA])|refine wOp ?_|(refine wCm ?_ ?_<;>intro hc)|(refine oCv ?_;first|(refine oC 191 ?_;refine a3A (f:=191) rfl rfl rfl rfl  (.val (.bool true)) (by intro u1 u2 w e hu1 hu2;(try obtain rfl:u1=_:=hu1);(try obtain rfl:u2=_:=hu2);exact anA (by rw [hp]) (ayA _ _ _)) ?_))|(refine wNl hK ?_;clear hK K))|(refine oCX ?_;first|refine ajA (id:=23) [15,17] (by kernel_rfl) (by kernel_rfl) (by kernel_rfl) (a7A ?_))|refine wG ?_|(refine wCR ?_;intro K hK)|refine wPh ?_|fail)
            refine amA (j:=j) rfl he5 ho5 rfl rfl (by omega) (fun _=>rfl) (fun wS1 heS1 hoS1=>?_)
            refine a7A ?_
            repeat' (first|(refine oLA ?_;first|refine wBk ?_|(refine oD 132 ?_;refine a9A rfl rfl (fun _=>rfl) rfl rfl ((j - 1)) (by omega) (by omega) ?_)|(refine oD 121 ?_;refine afA rfl rfl rfl (by dsimp only [fits];omega) ?_;rw [show ((j:Int) - 1)=((j - 1:Nat):Int) by omega])|refine wOp ?_|(refine wCm ?_ ?_<;>intro hc)|(refine wNl hK ?_;clear hK K))|refine wG ?_|(refine wCR ?_;intro K hK)|refine wPh ?_|fail)
            refine amA (j:=(j - 1)) rfl heS1 hoS1 rfl rfl (by rw [List.length_set];omega) (fun _=>rfl) (fun wS heS hoS=>?_)
            rw [awA] at hoS
            refine aiA ?_
            repeat' (first|(refine oLA ?_;first|refine wBk ?_|refine wOp ?_|(refine wCm ?_ ?_<;>intro hc)|(refine wNl hK ?_;clear hK K))|refine wG ?_|(refine wCR ?_;intro K hK)|refine wPh ?_|fail)
            exact a6A (j + 1,Go.Sort.swp D5 j (j - 1)) (fun w6 e6=>⟨heS.trans e6,by dsimp only;omega,by dsimp only;rw [swp_size];exact hs5',hoS.ext e6,hr5⟩) (by dsimp only;omega) (by dsimp only;exact (by repeat' (first | exact Sub.nil | refine Sub.val rfl (by first | with_reducible rfl | (congr 1;omega)) ?_ | refine Sub.same rfl ?_)))
        · rw [Go.Sort.shiftUp_stop (.inl hjb)] at hr5
          subst hr5
          repeat' (first|(refine oLA ?_;first|refine a0A rfl ?_|refine wOp ?_|(refine wCm ?_ ?_<;>intro hc)|(refine wNl hK ?_;clear hK K))|refine wG ?_|(refine wCR ?_;intro K hK)|fail)
          exact a6A (s,i3,D5) (fun w6 e6=>⟨he5.trans e6,by dsimp only;omega,hs4,ho5.ext e6,by dsimp only;omega,by dsimp only;omega,c3⟩) (by dsimp only;omega) (by dsimp only;exact (by repeat' (first | exact Sub.nil | refine Sub.val rfl (by first | with_reducible rfl | (congr 1;omega)) ?_ | refine Sub.same rfl ?_)))
      · skip
        rw [if_neg (by omega)] at e4
        rw [e4] at c3
        exact a6A (s,i3,D3) (fun w6 e6=>⟨heX.trans e6,by dsimp only;omega,hs3,hoX.ext e6,by dsimp only;omega,by dsimp only;omega,c3⟩) (by dsimp only;omega) (by dsimp only;exact (by repeat' (first | exact Sub.nil | refine Sub.val rfl (by first | with_reducible rfl | (congr 1;omega)) ?_ | refine Sub.same rfl ?_)))
end Srt
end Go.Proofs.YtbokphkfojijoaaGreatDoor
end
section
set_option linter.unusedSimpArgs false
set_option linter.unusedVariables false
set_option maxRecDepth 3000
namespace Go.Proofs.YtbokphkfojijoaaGreatDoor
namespace Srt
open Go.LA Go.ArrP Go.RowKit
set_option maxHeartbeats 4000000 in
theorem xsA {w:World} (n:Nat) (hn:n < 18446744073709551616):Fc Tryz.prog 171 #[.int .u64 n] w (Ret w (.val (.int .i64 (Go.Sort.bitsLen n:Nat)))):=by
  have D32:∀ m:Nat,4294967296 ≤ m → Go.Sort.bitsLen m=32 + Go.Sort.bitsLen (m / 4294967296):=fun m h=>Go.Sort.bitsLen_div (k:=32) h
  have D16:∀ m:Nat,65536 ≤ m → Go.Sort.bitsLen m=16 + Go.Sort.bitsLen (m / 65536):=fun m h=>Go.Sort.bitsLen_div (k:=16) h
  have D8:∀ m:Nat,256 ≤ m → Go.Sort.bitsLen m=8 + Go.Sort.bitsLen (m / 256):=fun m h=>Go.Sort.bitsLen_div (k:=8) h
  refine Fc.of (args:=[_]) Tryz.func171 rfl rfl Tryz.ntmps171 (Nat.le_of_ble_eq_true rfl) ?_
  repeat' (first|(refine oLA ?_;first|refine a0A rfl ?_|(refine oD 22 ?_;refine b9B rfl rfl rfl rfl (by omega) (by omega) (by decide +kernel) (fun vT hT hT8=>?_))|refine wOp ?_|(refine wCm ?_ ?_<;>intro hc)|(refine wNl hK ?_;clear hK K))|refine wG ?_|(refine wCR ?_;intro K hK)|fail)
  all_goals (refine abA rfl rfl (Ext.refl _) ?_;congr 1)
  · have z:((n:Int) / 4294967296 / 65536 / 256).toNat=n / 4294967296 / 65536 / 256:=by omega
    rw [z] at hT
    have z2:Go.Sort.bitsLen n=56 + Go.Sort.bitsLen (n / 4294967296 / 65536 / 256):=by (rw [D32 _ (by omega),D16 _ (by omega),D8 _ (by omega)]) <;> omega
    omega
  · have z:((n:Int) / 4294967296 / 65536).toNat=n / 4294967296 / 65536:=by omega
    rw [z] at hT
    have z2:Go.Sort.bitsLen n=48 + Go.Sort.bitsLen (n / 4294967296 / 65536):=by (rw [D32 _ (by omega),D16 _ (by omega)]) <;> omega
    omega
  · have z:((n:Int) / 4294967296 / 256).toNat=n / 4294967296 / 256:=by omega
    rw [z] at hT
    have z2:Go.Sort.bitsLen n=40 + Go.Sort.bitsLen (n / 4294967296 / 256):=by (rw [D32 _ (by omega),D8 _ (by omega)]) <;> omega
    omega
  · have z:((n:Int) / 4294967296).toNat=n / 4294967296:=by omega
    rw [z] at hT
    have z2:Go.Sort.bitsLen n=32 + Go.Sort.bitsLen (n / 4294967296):=by (rw [D32 _ (by omega)]) <;> omega
    omega
  · have z:((n:Int) / 65536 / 256).toNat=n / 65536 / 256:=by omega
    rw [z] at hT
    have z2:Go.Sort.bitsLen n=24 + Go.Sort.bitsLen (n / 65536 / 256):=by (rw [D16 _ (by omega),D8 _ (by omega)]) <;> omega
    omega
  · have z:((n:Int) / 65536).toNat=n / 65536:=by omega
    rw [z] at hT
    have z2:Go.Sort.bitsLen n=16 + Go.Sort.bitsLen (n / 65536):=by (rw [D16 _ (by omega)]) <;> omega
    omega
  · have z:((n:Int) / 256).toNat=n / 256:=by omega
    rw [z] at hT
    have z2:Go.Sort.bitsLen n=8 + Go.Sort.bitsLen (n / 256):=by (rw [D8 _ (by omega)]) <;> omega
    omega
  · have z:((n:Int)).toNat=n:=by omega
    rw [z] at hT
    have z2:Go.Sort.bitsLen n=0 + Go.Sort.bitsLen (n):=by omega
    omega
theorem g6A {w:World} (n:Nat) (hn:n < 18446744073709551616):Fc Tryz.prog 120 #[.int .u64 n] w (Ret w (.val (.int .i64 (Go.Sort.bitsLen n:Nat)))):=by
  refine Fc.of (args:=[_]) Tryz.func120 rfl rfl Tryz.ntmps120 (Nat.le_of_ble_eq_true rfl) ?_
  repeat' (first|(refine oLA ?_;first|refine a0A rfl ?_|refine wOp ?_|(refine wCm ?_ ?_<;>intro hc)|(refine oCv ?_;first|(refine oC 171 ?_;refine a2A (f:=171) rfl rfl rfl  (.val (.int .i64 (Go.Sort.bitsLen n:Nat))) (by intro u1 w e hu1;(try obtain rfl:u1=_:=hu1);exact xsA n hn) ?_))|(refine wNl hK ?_;clear hK K))|refine wG ?_|(refine wCR ?_;intro K hK)|fail)
  exact abA rfl rfl (Ext.refl _) rfl
theorem w1A {w:World} (n:Nat) (hn:n < 4611686018427387904):Fc Tryz.prog 196 #[.int .i64 n] w (Ret w (.val (.int .u64 ((2 ^ Go.Sort.bitsLen n:Nat):Int)))):=by
  have hb:=(Go.Sort.bitsLen_le_iff n 62).2 (by omega)
  refine Fc.of (args:=[_]) Tryz.func196 rfl rfl Tryz.ntmps196 (Nat.le_of_ble_eq_true rfl) ?_
  repeat' (first|(refine oLA ?_;first|refine a0A rfl ?_|refine wOp ?_|(refine wCm ?_ ?_<;>intro hc)|(refine oCv ?_;first|(refine oC 120 ?_;refine a2A (f:=120) rfl rfl rfl  (.val (.int .i64 (Go.Sort.bitsLen n:Nat))) (by intro u1 w e hu1;(try obtain rfl:u1=_:=hu1);exact g6A n (by omega)) ?_))|(refine wNl hK ?_;clear hK K))|refine wG ?_|(refine wCR ?_;intro K hK)|fail)
  refine abA rfl rfl (Ext.refl _) ?_
  congr 1
  rw [IntKind.wrap_u64,Int.toNat_natCast,Int.one_mul]
  have:=Nat.pow_le_pow_right (n:=2) (by omega) hb
  rw [show ((2:Int) ^ Go.Sort.bitsLen n)=((2 ^ Go.Sort.bitsLen n:Nat):Int) by push_cast;rfl]
  generalize 2 ^ Go.Sort.bitsLen n=p at *
  omega
end Srt
end Go.Proofs.YtbokphkfojijoaaGreatDoor
end
section
set_option linter.unusedSimpArgs false
set_option linter.unusedVariables false
set_option maxRecDepth 3000
namespace Go.Proofs.YtbokphkfojijoaaGreatDoor
namespace Srt
open Go.LA Go.ArrP Go.RowKit
set_option maxHeartbeats 4000000 in
theorem plA {w0 w:World} {rb e2:Nat} {kd2:IntKind} {v2:Value} {ys:List Int} {r:Int} (he:Ext w0 w) (hr:OwnI w0.heap.size 217 .u64 w (.slice (some ⟨rb,0,none⟩) 1 1) [r]) (h0:0 ≤ r ∧ r < 18446744073709551616) (ho:OwnI w0.heap.size e2 kd2 w v2 ys) (hne:e2 ≠ 217) :
    Fc Tryz.prog 197 #[.pointer (some ⟨rb,0,none⟩)] w (fun e w'=>∃ c:Nat,e=.returned (.int .u64 c) ∧ c < 18446744073709551616 ∧ Ext w0 w' ∧ OwnI w0.heap.size 217 .u64 w' (.slice (some ⟨rb,0,none⟩) 1 1) [(c:Int)] ∧ OwnI w0.heap.size e2 kd2 w' v2 ys):=by
  refine Fc.of (args:=[_]) Tryz.func197 rfl rfl Tryz.ntmps197 (Nat.le_of_ble_eq_true rfl) ?_
  repeat' (first|(refine oLA ?_;first|refine wBk ?_|(refine a8A rfl rfl ?_)|(refine oL ?_;refine alA hr rfl (fun _=>rfl) rfl (by exact Nat.zero_lt_one) ?_;rw [show [r].getD 0 0=r from rfl])|(refine oD 10 ?_;refine n1A rfl rfl rfl (fun c1 hc1=>?_) (by omega) (by rw [IntKind.wrap_u64];omega))|refine wOp ?_|(refine wCm ?_ ?_<;>intro hc)|(refine wNl hK ?_;clear hK K))|(refine oCX ?_;first|refine ajA (id:=1) [9] (by kernel_rfl) (by kernel_rfl) (by kernel_rfl) (a7A ?_))|refine wG ?_|(refine wCR ?_;intro K hK)|refine wPh ?_|fail)
  refine g9A (j:=0) rfl he hr ho hne rfl rfl (by exact Nat.zero_lt_one) (fun _=>rfl) (fun w1 he1 hr1 ho1=>?_)
  replace hr1:OwnI w0.heap.size 217 .u64 w1 (.slice (some ⟨rb,0,none⟩) 1 1) [(c1:Int)]:=hr1
  refine aiA ?_
  repeat' (first|(refine oLA ?_;first|refine wBk ?_|(refine a8A rfl rfl ?_)|(refine oL ?_;refine alA hr1 rfl (fun _=>rfl) rfl (by exact Nat.zero_lt_one) ?_;rw [show [(c1:Int)].getD 0 0=(c1:Int) from rfl])|(refine oD 19 ?_;refine n1A rfl rfl rfl (fun c2 hc2=>?_) (by omega) (by omega))|refine wOp ?_|(refine wCm ?_ ?_<;>intro hc)|(refine wNl hK ?_;clear hK K))|(refine oCX ?_;first|refine ajA (id:=2) [9] (by kernel_rfl) (by kernel_rfl) (by kernel_rfl) (a7A ?_))|refine wG ?_|(refine wCR ?_;intro K hK)|refine wPh ?_|fail)
  refine g9A (j:=0) rfl he1 hr1 ho1 hne rfl rfl (by exact Nat.zero_lt_one) (fun _=>rfl) (fun w2 he2 hr2 ho2=>?_)
  replace hr2:OwnI w0.heap.size 217 .u64 w2 (.slice (some ⟨rb,0,none⟩) 1 1) [(c2:Int)]:=hr2
  refine aiA ?_
  repeat' (first|(refine oLA ?_;first|refine wBk ?_|(refine a8A rfl rfl ?_)|(refine oL ?_;refine alA hr2 rfl (fun _=>rfl) rfl (by exact Nat.zero_lt_one) ?_;rw [show [(c2:Int)].getD 0 0=(c2:Int) from rfl])|(refine oD 28 ?_;refine n1A rfl rfl rfl (fun c3 hc3=>?_) (by omega) (by rw [IntKind.wrap_u64];omega))|refine wOp ?_|(refine wCm ?_ ?_<;>intro hc)|(refine wNl hK ?_;clear hK K))|(refine oCX ?_;first|refine ajA (id:=3) [9] (by kernel_rfl) (by kernel_rfl) (by kernel_rfl) (a7A ?_))|refine wG ?_|(refine wCR ?_;intro K hK)|refine wPh ?_|fail)
  refine g9A (j:=0) rfl he2 hr2 ho2 hne rfl rfl (by exact Nat.zero_lt_one) (fun _=>rfl) (fun w3 he3 hr3 ho3=>?_)
  replace hr3:OwnI w0.heap.size 217 .u64 w3 (.slice (some ⟨rb,0,none⟩) 1 1) [(c3:Int)]:=hr3
  refine aiA ?_
  repeat' (first|(refine oLA ?_;first|refine wBk ?_|(refine a8A rfl rfl ?_)|(refine oL ?_;refine alA hr3 rfl (fun _=>rfl) rfl (by exact Nat.zero_lt_one) ?_;rw [show [(c3:Int)].getD 0 0=(c3:Int) from rfl])|refine wOp ?_|(refine wCm ?_ ?_<;>intro hc)|(refine wNl hK ?_;clear hK K))|refine wG ?_|(refine wCR ?_;intro K hK)|refine wPh ?_|fail)
  exact bxA rfl (fun x w5 e5 hx=>by obtain rfl:x=_:=hx;exact ⟨c3,rfl,hc3,he3.trans e5,hr3.ext e5,ho3.ext e5⟩)
end Srt
end Go.Proofs.YtbokphkfojijoaaGreatDoor
end
section
set_option linter.unusedSimpArgs false
set_option linter.unusedVariables false
set_option maxRecDepth 3000
namespace Go.Proofs.YtbokphkfojijoaaGreatDoor
namespace Srt
open Go.LA Go.ArrP Go.RowKit
set_option maxHeartbeats 16000000 in
theorem yqA {w0 w:World} {b cap n:Nat} {D0:Array Int} (he0:Ext w0 w) (ho0:d8A w0 w b cap n D0) (hn:n=D0.size) (lo hi:Nat) (h1:lo ≤ hi) (h2:hi ≤ D0.size) (hb:D0.size < 4611686018427387904) :
    Fc Tryz.prog 205 #[.slice (some ⟨b,0,none⟩) n cap,.int .i64 lo,.int .i64 hi] w (fun e w'=>e=.returned (.tuple #[]) ∧ Ext w0 w' ∧ ∃ D',Go.Sort.PermIn lo hi D0 D' ∧ d8A w0 w' b cap n D'):=by
  obtain ⟨L,hL⟩:∃ L,L=hi - lo:=⟨_,rfl⟩
  have hl0:=asA D0
  by_cases h8:8 ≤ L
  · obtain ⟨M,hM⟩:∃ M,M=2 ^ Go.Sort.bitsLen L:=⟨_,rfl⟩
    have hM1:0 < M:=by rw [hM];exact Nat.two_pow_pos _
    have hM2:M ≤ 2 * L:=by rw [hM];exact Go.Sort.two_pow_bitsLen_le (by omega)
    have hnp:=fun w=>w1A (w:=w) L (by omega)
    rw [← hM] at hnp
    refine Fc.of (args:=[_,_,_]) Tryz.func205 rfl rfl Tryz.ntmps205 (Nat.le_of_ble_eq_true rfl) ?_
    repeat' (first|(refine oLA ?_;first|refine a0A rfl ?_|(refine oD 13 ?_;refine afA rfl rfl rfl (by dsimp only [fits];omega) ?_;rw [show ((hi:Int) - lo)=(L:Int) by omega])|(refine oD 7 ?_;refine a4A (hK _ _ (cbA rfl rfl (by decide) (fun _=>rfl) (fun _=>rfl) (fun _=>rfl) rfl (by intro u hu;simp [Value.cells] at hu;subst hu;rfl) (fun rb wx ex hbx hbc=>?_)));clear hK K)|refine wOp ?_|(refine wCm ?_ ?_<;>intro hc)|(refine oCv ?_;first|(refine oC 196 ?_;refine a2A (f:=196) rfl rfl rfl  (.val (.int .u64 (M:Int))) (by intro u1 w e hu1;(try obtain rfl:u1=_:=hu1);exact hnp _) ?_))|(refine wNl hK ?_;clear hK K))|refine wG ?_|(refine wCR ?_;intro K hK)|fail)
    have heX:Ext w0 wx:=he0.trans ex
    have hr:OwnI w0.heap.size 217 .u64 wx (.slice (some ⟨rb,0,none⟩) 1 1) [(L:Int)]:=⟨rfl,.inr ⟨rb,1,_,rfl,Nat.le_trans he0.size hbx,hbc,Nat.le_refl _,by decide,rfl,rfl⟩⟩
    have hoX:d8A w0 wx b cap n D0:=ho0.ext ex
    refine adA (ι:=Nat × Array Int × Nat) (fun i=>[(0,.val (.slice (some ⟨b,0,none⟩) n cap)),(1,.val (.int .i64 lo)),(6,.val (.int .i64 (L:Int))),(7,.val (.pointer (some ⟨rb,0,none⟩))),(8,.val (.int .u64 (M:Int))),(9,.val (.int .i64 ((lo + L / 4 * 2 - 1 + i.1:Nat):Int)))])
      (fun i w'=>Ext w0 w' ∧ i.1 ≤ 3 ∧ Go.Sort.PermIn lo hi D0 i.2.1 ∧ d8A w0 w' b cap n i.2.1 ∧ i.2.2 < 18446744073709551616 ∧ OwnI w0.heap.size 217 .u64 w' (.slice (some ⟨rb,0,none⟩) 1 1) [(i.2.2:Int)]) (fun i=>3 - i.1)
      (fun w2 e2=>⟨(0,D0,L),⟨heX.trans e2,Nat.zero_le _,Go.Sort.permIn_refl _ _ _,hoX.ext e2,by dsimp only;omega,hr.ext e2⟩,by dsimp only;exact (by repeat' (first | exact Sub.nil | refine Sub.val rfl (by first | with_reducible rfl | (congr 1;omega)) ?_ | refine Sub.same rfl ?_))⟩) ?_
    rintro ⟨t,D,r⟩ w1 ⟨he1,ht3,hp1,ho1,hr1,hw1⟩
    dsimp only at ht3 hp1 ho1 hr1 hw1 ⊢
    have hs1:D.size=D0.size:=hp1.1
    have hl1:=asA D
    clear heX hr hoX
    by_cases ht:t < 3
    · have q0:True:=trivial
      repeat' (first|(refine oLA ?_;first|refine a0A rfl ?_|(refine oD 36 ?_;refine a4A (hK _ _ (c3A (f:=197) rfl (by decide) rfl rfl (fun v w'=>∃ c:Nat,v=.int .u64 (c:Int) ∧ c < 18446744073709551616 ∧ Ext w0 w' ∧ OwnI w0.heap.size 217 .u64 w' (.slice (some ⟨rb,0,none⟩) 1 1) [(c:Int)] ∧ d8A w0 w' b cap n D) (fun w' e=>(plA (he1.trans e) (hw1.ext e) (by omega) (ho1.ext e) (by decide)).mono (by rintro e5 w5 ⟨c,h1,h2⟩;exact ⟨_,h1,c,rfl,h2⟩)) (fun v w2 hv=>?_)));clear hK K;obtain ⟨c,rfl,hcB,he2,hr2,ho2⟩:=hv)|(refine oD 38 ?_;refine afA rfl rfl rfl (by dsimp only [fits];omega) ?_;rw [show ((M:Int) - 1)=((M - 1:Nat):Int) by omega])|(refine oD 39 ?_;refine ssA rfl rfl rfl (fun q hq=>?_) (by omega) (by omega))|(refine oD 46 ?_;refine afA rfl rfl rfl (by dsimp only [fits];omega) ?_;rw [show ((q:Int) - L)=((q - L:Nat):Int) by omega])|refine wOp ?_|(refine wCm ?_ ?_<;>intro hc)|(refine wNl hK ?_;clear hK K))|(refine oCX ?_;first|refine cjA (id:=8) (ι:=Nat) (fun o=>[(0,.val (.slice (some ⟨b,0,none⟩) n cap)),(1,.val (.int .i64 lo)),(6,.val (.int .i64 (L:Int))),(7,.val (.pointer (some ⟨rb,0,none⟩))),(8,.val (.int .u64 (M:Int))),(9,.val (.int .i64 ((lo + L / 4 * 2 - 1 + t:Nat):Int))),(10,.val (.int .i64 (o:Int)))]) (fun o w'=>Ext w0 w' ∧ o < L ∧ (∃ c3:Nat,c3 < 18446744073709551616 ∧ OwnI w0.heap.size 217 .u64 w' (.slice (some ⟨rb,0,none⟩) 1 1) [(c3:Int)]) ∧ d8A w0 w' b cap n D) ?_ ?_)|refine wG ?_|(refine wCR ?_;intro K hK)|(refine oLX ?_;first|(refine aeA rfl ?_;intro K hK))|fail)
      · exact a6A (q - L) (fun w6 e6=>⟨he2.trans e6,by omega,⟨c,hcB,hr2.ext e6⟩,ho2.ext e6⟩) (by omega) (by repeat' (first | exact Sub.nil | refine Sub.val rfl (by first | with_reducible rfl | (congr 1;omega)) ?_ | refine Sub.same rfl ?_))
      · exact a6A q (fun w6 e6=>⟨he2.trans e6,by omega,⟨c,hcB,hr2.ext e6⟩,ho2.ext e6⟩) (by omega) (by repeat' (first | exact Sub.nil | refine Sub.val rfl (by first | with_reducible rfl | (congr 1;omega)) ?_ | refine Sub.same rfl ?_))
      · rintro o w3 ⟨he3,ho,⟨c3,hc3,hr3⟩,ho3⟩
        repeat' (first|(refine oLA ?_;first|refine wBk ?_|(refine oI ?_;refine a9A rfl rfl (fun _=>rfl) rfl rfl _ rfl (by omega) ?_)|(refine oL ?_;refine alA ho3 rfl (fun _=>rfl) rfl (by omega) ?_;rw [cuA])|(refine oD 52 ?_;refine avA rfl rfl rfl (by dsimp only [fits];omega) ?_;rw [show ((lo:Int) + o)=((lo + o:Nat):Int) by omega])|(refine oD 56 ?_;refine avA rfl rfl rfl (by dsimp only [fits];omega) ?_;rw [show ((lo:Int) + o)=((lo + o:Nat):Int) by omega])|refine wOp ?_|(refine wCm ?_ ?_<;>intro hc)|(refine wNl hK ?_;clear hK K))|(refine oCX ?_;first|refine ajA (id:=10) [17,19] (by kernel_rfl) (by kernel_rfl) (by kernel_rfl) (a7A ?_))|refine wG ?_|(refine wCR ?_;intro K hK)|refine wPh ?_|fail)
        refine g9A (j:=lo + L / 4 * 2 - 1 + t) rfl he3 ho3 hr3 (by decide) rfl rfl (by omega) (fun _=>rfl) (fun wS1 heS1 hoS1 hrS1=>?_)
        refine a7A ?_
        repeat' (first|(refine oLA ?_;first|refine wBk ?_|(refine oD 64 ?_;refine a9A rfl rfl (fun _=>rfl) rfl rfl (lo + o) (by omega) (by omega) ?_)|(refine oD 52 ?_;refine avA rfl rfl rfl (by dsimp only [fits];omega) ?_;rw [show ((lo:Int) + o)=((lo + o:Nat):Int) by omega])|refine wOp ?_|(refine wCm ?_ ?_<;>intro hc)|(refine wNl hK ?_;clear hK K))|refine wG ?_|(refine wCR ?_;intro K hK)|refine wPh ?_|fail)
        refine g9A (j:=lo + o) rfl heS1 hoS1 hrS1 (by decide) rfl rfl (by rw [List.length_set];omega) (fun _=>rfl) (fun wS heS hoS hrS=>?_)
        rw [awA] at hoS
        refine aiA ?_
        repeat' (first|(refine oLA ?_;first|refine wBk ?_|refine wOp ?_|(refine wCm ?_ ?_<;>intro hc)|(refine wNl hK ?_;clear hK K))|refine wG ?_|(refine wCR ?_;intro K hK)|refine wPh ?_|fail)
        exact a6A (t + 1,Go.Sort.swp D (lo + L / 4 * 2 - 1 + t) (lo + o),c3) (fun w6 e6=>⟨heS.trans e6,by dsimp only;omega,Go.Sort.permIn_trans _ _ _ _ _ hp1 (Go.Sort.swp_permIn _ _ _ _ _ (by omega) (by omega) (by omega) (by omega) (by omega)),hoS.ext e6,hc3,hrS.ext e6⟩) (by dsimp only;omega) (by dsimp only;exact (by repeat' (first | exact Sub.nil | refine Sub.val rfl (by first | with_reducible rfl | (congr 1;omega)) ?_ | refine Sub.same rfl ?_)))
    · have q0:True:=trivial
      repeat' (first|(refine oLA ?_;first|refine a0A rfl ?_|refine wOp ?_|(refine wCm ?_ ?_<;>intro hc)|(refine wNl hK ?_;clear hK K))|refine wG ?_|(refine wCR ?_;intro K hK)|fail)
      exact bmA rfl (fun w5 e5=>⟨rfl,he1.trans e5,D,hp1,ho1.ext e5⟩) (.inl rfl)
  · have q0:True:=trivial
    refine Fc.of (args:=[_,_,_]) Tryz.func205 rfl rfl Tryz.ntmps205 (Nat.le_of_ble_eq_true rfl) ?_
    repeat' (first|(refine oLA ?_;first|refine a0A rfl ?_|refine wOp ?_|(refine wCm ?_ ?_<;>intro hc)|(refine wNl hK ?_;clear hK K))|refine wG ?_|(refine wCR ?_;intro K hK)|fail)
    exact bmA rfl (fun w5 e5=>⟨rfl,he0.trans e5,D0,Go.Sort.permIn_refl _ _ _,ho0.ext e5⟩) (.inl rfl)
end Srt
end Go.Proofs.YtbokphkfojijoaaGreatDoor
end
section
set_option linter.unusedSimpArgs false
set_option linter.unusedVariables false
set_option maxRecDepth 3000
namespace Go.Proofs.YtbokphkfojijoaaGreatDoor
namespace Srt
open Go.LA Go.ArrP Go.RowKit
def Sw (w0 w:World) (sb:Nat):Prop:=∃ s,OwnI w0.heap.size 3 .i64 w (.slice (some ⟨sb,0,none⟩) 1 1) [s]
theorem Sw.ext {w0 w w':World} {sb:Nat} (h:Sw w0 w sb) (e:Ext w w'):Sw w0 w' sb:=by obtain ⟨s,h⟩:=h;exact ⟨s,h.ext e⟩
set_option maxHeartbeats 4000000 in
theorem k3A {w0 w:World} {b cap n sb:Nat} {D:Array Int} (he0:Ext w0 w) (ho0:d8A w0 w b cap n D) (hs0:Sw w0 w sb) (hn:n=D.size) (hb:D.size < 4611686018427387904) (lo hi:Nat) (h2:hi ≤ D.size) (x y:Nat) (hx:lo ≤ x ∧ x < hi) (hy:lo ≤ y ∧ y < hi) :
    Fc Tryz.prog 219 #[(.slice (some ⟨b,0,none⟩) n cap),.int .i64 x,.int .i64 y,(.pointer (some ⟨sb,0,none⟩))] w (fun e w'=>∃ p q:Nat,e=.returned (.tuple #[.int .i64 p,.int .i64 q]) ∧ (lo ≤ p ∧ p < hi) ∧ (lo ≤ q ∧ q < hi) ∧ Ext w0 w' ∧ d8A w0 w' b cap n D ∧ Sw w0 w' sb):=by
  have hl:=asA D
  obtain ⟨s,hs⟩:=hs0
  cases hp:Go.Sort.ltInt D[y]! D[x]!
  · have q0:True:=trivial
    refine Fc.of (args:=[_,_,_,_]) Tryz.func219 rfl rfl Tryz.ntmps219 (Nat.le_of_ble_eq_true rfl) ?_
    repeat' (first|(refine oLA ?_;first|refine a0A rfl ?_|(refine oI ?_;refine a9A rfl rfl (fun _=>rfl) rfl rfl _ rfl (by omega) ?_)|(refine oL ?_;refine alA ho0 rfl (fun _=>rfl) rfl (by omega) ?_;rw [cuA])|refine wOp ?_|(refine wCm ?_ ?_<;>intro hc)|(refine oCv ?_;first|(refine oC 191 ?_;refine a3A (f:=191) rfl rfl rfl rfl  (.val (.bool false)) (by intro u1 u2 w e hu1 hu2;(try obtain rfl:u1=_:=hu1);(try obtain rfl:u2=_:=hu2);exact anA (by rw [hp]) (ayA _ _ _)) ?_))|(refine wNl hK ?_;clear hK K))|refine wG ?_|(refine wCR ?_;intro K hK)|fail)
    exact d4A rfl (fun u v w5 e5 hu hv=>by obtain rfl:u=_:=hu;obtain rfl:v=_:=hv;exact ⟨x,y,rfl,hx,hy,he0.trans e5,ho0.ext e5,s,hs.ext e5⟩)
  · have q0:True:=trivial
    refine Fc.of (args:=[_,_,_,_]) Tryz.func219 rfl rfl Tryz.ntmps219 (Nat.le_of_ble_eq_true rfl) ?_
    repeat' (first|(refine oLA ?_;first|refine a0A rfl ?_|(refine oD 21 ?_;refine alA hs rfl (fun _=>rfl) rfl (by exact Nat.zero_lt_one) ?_;rw [show [s].getD 0 0=s from rfl])|(refine oD 22 ?_;refine n8A rfl rfl rfl ?_)|(refine a8A rfl rfl ?_)|(refine oSt ?_;refine a4A (hK _ _ (scA (j:=0) rfl he0 hs ho0 (by decide) rfl rfl (by exact Nat.zero_lt_one) (fun _=>rfl) (fun w1 he1 hs1 ho1=>?_)));clear hK K)|(refine oI ?_;refine a9A rfl rfl (fun _=>rfl) rfl rfl _ rfl (by omega) ?_)|(refine oL ?_;refine alA ho0 rfl (fun _=>rfl) rfl (by omega) ?_;rw [cuA])|refine wOp ?_|(refine wCm ?_ ?_<;>intro hc)|(refine oCv ?_;first|(refine oC 191 ?_;refine a3A (f:=191) rfl rfl rfl rfl  (.val (.bool true)) (by intro u1 u2 w e hu1 hu2;(try obtain rfl:u1=_:=hu1);(try obtain rfl:u2=_:=hu2);exact anA (by rw [hp]) (ayA _ _ _)) ?_))|(refine wNl hK ?_;clear hK K))|refine wG ?_|(refine wCR ?_;intro K hK)|fail)
    exact d4A rfl (fun u v w5 e5 hu hv=>by obtain rfl:u=_:=hu;obtain rfl:v=_:=hv;exact ⟨y,x,rfl,hy,hx,he1.trans e5,ho1.ext e5,_,OwnI.ext hs1 e5⟩)
set_option maxHeartbeats 4000000 in
theorem qsA {w0 w:World} {b cap n sb:Nat} {D:Array Int} (he0:Ext w0 w) (ho0:d8A w0 w b cap n D) (hs0:Sw w0 w sb) (hn:n=D.size) (hb:D.size < 4611686018427387904) (lo hi:Nat) (h2:hi ≤ D.size) (x y z:Nat) (hx:lo ≤ x ∧ x < hi) (hy:lo ≤ y ∧ y < hi) (hz:lo ≤ z ∧ z < hi) :
    Fc Tryz.prog 218 #[(.slice (some ⟨b,0,none⟩) n cap),.int .i64 x,.int .i64 y,.int .i64 z,(.pointer (some ⟨sb,0,none⟩))] w (fun e w'=>∃ p:Nat,e=.returned (.int .i64 p) ∧ (lo ≤ p ∧ p < hi) ∧ Ext w0 w' ∧ d8A w0 w' b cap n D ∧ Sw w0 w' sb):=by
  refine Fc.of (args:=[_,_,_,_,_]) Tryz.func218 rfl rfl Tryz.ntmps218 (Nat.le_of_ble_eq_true rfl) ?_
  repeat' (first|(refine oLA ?_;first|refine a0A rfl ?_|(refine oD 16 ?_;refine a4A (hK _ _ (dqA (f:=219) rfl (by decide) rfl rfl rfl rfl rfl (fun v w'=>∃ p q:Nat,v=.tuple #[.int .i64 p,.int .i64 q] ∧ (lo ≤ p ∧ p < hi) ∧ (lo ≤ q ∧ q < hi) ∧ Ext w0 w' ∧ d8A w0 w' b cap n D ∧ Sw w0 w' sb) (fun w' e=>(k3A (he0.trans e) (ho0.ext e) (hs0.ext e) hn hb lo hi h2 x y (by omega) (by omega)).mono (by rintro e5 w5 ⟨p,q,h1,h2⟩;exact ⟨_,h1,p,q,rfl,h2⟩)) (fun v w1 hv=>?_)));clear hK K;obtain ⟨p1,q1,rfl,bp1,bq1,he1,ho1,hs1⟩:=hv)|(refine oD 24 ?_;refine a4A (hK _ _ (dqA (f:=219) rfl (by decide) rfl rfl rfl rfl rfl (fun v w'=>∃ p q:Nat,v=.tuple #[.int .i64 p,.int .i64 q] ∧ (lo ≤ p ∧ p < hi) ∧ (lo ≤ q ∧ q < hi) ∧ Ext w0 w' ∧ d8A w0 w' b cap n D ∧ Sw w0 w' sb) (fun w' e=>(k3A (he1.trans e) (ho1.ext e) (hs1.ext e) hn hb lo hi h2 q1 z (by omega) (by omega)).mono (by rintro e5 w5 ⟨p,q,h1,h2⟩;exact ⟨_,h1,p,q,rfl,h2⟩)) (fun v w2 hv=>?_)));clear hK K;obtain ⟨p2,q2,rfl,bp2,bq2,he2,ho2,hs2⟩:=hv)|(refine oD 32 ?_;refine a4A (hK _ _ (dqA (f:=219) rfl (by decide) rfl rfl rfl rfl rfl (fun v w'=>∃ p q:Nat,v=.tuple #[.int .i64 p,.int .i64 q] ∧ (lo ≤ p ∧ p < hi) ∧ (lo ≤ q ∧ q < hi) ∧ Ext w0 w' ∧ d8A w0 w' b cap n D ∧ Sw w0 w' sb) (fun w' e=>(k3A (he2.trans e) (ho2.ext e) (hs2.ext e) hn hb lo hi h2 p1 p2 (by omega) (by omega)).mono (by rintro e5 w5 ⟨p,q,h1,h2⟩;exact ⟨_,h1,p,q,rfl,h2⟩)) (fun v w3 hv=>?_)));clear hK K;obtain ⟨p3,q3,rfl,bp3,bq3,he3,ho3,hs3⟩:=hv)|(refine ceA rfl rfl ?_)|(refine cdA rfl rfl ?_)|refine wOp ?_|(refine wCm ?_ ?_<;>intro hc)|(refine wNl hK ?_;clear hK K))|refine wG ?_|(refine wCR ?_;intro K hK)|(refine oLX ?_;first|(refine aeA rfl ?_;intro K hK))|fail)
  exact bxA rfl (fun u w5 e5 hu=>by obtain rfl:u=_:=hu;exact ⟨q3,rfl,bq3,he3.trans e5,ho3.ext e5,hs3.ext e5⟩)
theorem k9A {w0 w:World} {b cap n sb:Nat} {D:Array Int} (he0:Ext w0 w) (ho0:d8A w0 w b cap n D) (hs0:Sw w0 w sb) (hn:n=D.size) (hb:D.size < 4611686018427387904) (lo hi:Nat) (h2:hi ≤ D.size) (x:Nat) (hx:lo + 1 ≤ x ∧ x + 1 < hi) :
    Fc Tryz.prog 217 #[(.slice (some ⟨b,0,none⟩) n cap),.int .i64 x,(.pointer (some ⟨sb,0,none⟩))] w (fun e w'=>∃ p:Nat,e=.returned (.int .i64 p) ∧ (lo ≤ p ∧ p < hi) ∧ Ext w0 w' ∧ d8A w0 w' b cap n D ∧ Sw w0 w' sb):=by
  refine Fc.of (args:=[_,_,_]) Tryz.func217 rfl rfl Tryz.ntmps217 (Nat.le_of_ble_eq_true rfl) ?_
  repeat' (first|(refine oLA ?_;first|refine a0A rfl ?_|(refine oD 9 ?_;refine afA rfl rfl rfl (by dsimp only [fits];omega) ?_;rw [show ((x:Int) - 1)=((x - 1:Nat):Int) by omega])|(refine oD 12 ?_;refine avA rfl rfl rfl (by dsimp only [fits];omega) ?_;rw [show ((x:Int) + 1)=((x + 1:Nat):Int) by omega])|(refine oD 14 ?_;refine a4A (hK _ _ (hrA (f:=218) rfl (by decide) rfl rfl rfl rfl rfl rfl (fun v w'=>∃ p:Nat,v=.int .i64 p ∧ (lo ≤ p ∧ p < hi) ∧ Ext w0 w' ∧ d8A w0 w' b cap n D ∧ Sw w0 w' sb) (fun w' e=>(qsA (he0.trans e) (ho0.ext e) (hs0.ext e) hn hb lo hi h2 (x - 1) x (x + 1) (by omega) (by omega) (by omega)).mono (by rintro e5 w5 ⟨p,h1,h2⟩;exact ⟨_,h1,p,rfl,h2⟩)) (fun v w1 hv=>?_)));clear hK K;obtain ⟨p,rfl,bp,he1,ho1,hs1⟩:=hv)|(refine ceA rfl rfl ?_)|(refine cdA rfl rfl ?_)|refine wOp ?_|(refine wCm ?_ ?_<;>intro hc)|(refine wNl hK ?_;clear hK K))|refine wG ?_|(refine wCR ?_;intro K hK)|(refine oLX ?_;first|(refine aeA rfl ?_;intro K hK))|fail)
  exact bxA rfl (fun u w5 e5 hu=>by obtain rfl:u=_:=hu;exact ⟨p,rfl,bp,he1.trans e5,ho1.ext e5,hs1.ext e5⟩)
end Srt
end Go.Proofs.YtbokphkfojijoaaGreatDoor
end
section
set_option linter.unusedSimpArgs false
set_option linter.unusedVariables false
set_option maxRecDepth 3000
namespace Go.Proofs.YtbokphkfojijoaaGreatDoor
namespace Srt
open Go.LA Go.ArrP Go.RowKit
set_option maxHeartbeats 8000000 in
theorem yiA {w0 w:World} {b cap n:Nat} {D:Array Int} (he0:Ext w0 w) (ho0:d8A w0 w b cap n D) (hn:n=D.size) (hb:D.size < 4611686018427387904) (lo hi:Nat) (h1:lo < hi) (h2:hi ≤ D.size) :
    Fc Tryz.prog 206 #[(.slice (some ⟨b,0,none⟩) n cap),.int .i64 lo,.int .i64 hi] w (fun e w'=>∃ (p:Nat) (h:Int),e=.returned (.tuple #[.int .i64 p,.int .i64 h]) ∧ (lo ≤ p ∧ p < hi) ∧ Ext w0 w' ∧ d8A w0 w' b cap n D):=by
  obtain ⟨L,hL⟩:∃ L,L=hi - lo:=⟨_,rfl⟩
  refine Fc.of (args:=[_,_,_]) Tryz.func206 rfl rfl Tryz.ntmps206 (Nat.le_of_ble_eq_true rfl) ?_
  repeat' (first|(refine oLA ?_;first|refine a0A rfl ?_|(refine oD 15 ?_;refine afA rfl rfl rfl (by dsimp only [fits];omega) ?_;rw [show ((hi:Int) - lo)=(L:Int) by omega])|(refine oD 9 ?_;refine a4A (hK _ _ (hbA rfl (by decide) (fun _=>rfl) (fun sb wx ex hbx hbc=>?_)));clear hK K;have heX:Ext w0 wx:=he0.trans ex;have hsX:Sw w0 wx sb:=⟨0,rfl,.inr ⟨sb,1,_,rfl,Nat.le_trans he0.size hbx,hbc,Nat.le_refl _,by decide,rfl,rfl⟩⟩;have hoX:d8A w0 wx b cap n D:=ho0.ext ex)|(refine oD 20 ?_;refine avA rfl rfl rfl (by dsimp only [fits];omega) ?_;rw [show ((lo:Int) + (L:Int) / 4 * 1)=((lo + L / 4 * 1:Nat):Int) by omega])|(refine oD 25 ?_;refine avA rfl rfl rfl (by dsimp only [fits];omega) ?_;rw [show ((lo:Int) + (L:Int) / 4 * 2)=((lo + L / 4 * 2:Nat):Int) by omega])|(refine oD 30 ?_;refine avA rfl rfl rfl (by dsimp only [fits];omega) ?_;rw [show ((lo:Int) + (L:Int) / 4 * 3)=((lo + L / 4 * 3:Nat):Int) by omega])|(refine oD 37 ?_;refine a4A (hK _ _ (d9A (f:=217) rfl (by decide) rfl rfl rfl rfl (fun v w'=>∃ p:Nat,v=.int .i64 p ∧ (lo ≤ p ∧ p < hi) ∧ Ext w0 w' ∧ d8A w0 w' b cap n D ∧ Sw w0 w' sb) (fun w' e=>(k9A (heX.trans e) (hoX.ext e) (hsX.ext e) hn hb lo hi h2 (lo + L / 4 * 1) (by omega)).mono (by rintro e5 w5 ⟨p,h1,h2⟩;exact ⟨_,h1,p,rfl,h2⟩)) (fun v w1 hv=>?_)));clear hK K;obtain ⟨p1,rfl,bp1,he1,ho1,hs1⟩:=hv)|(refine oD 40 ?_;refine a4A (hK _ _ (d9A (f:=217) rfl (by decide) rfl rfl rfl rfl (fun v w'=>∃ p:Nat,v=.int .i64 p ∧ (lo ≤ p ∧ p < hi) ∧ Ext w0 w' ∧ d8A w0 w' b cap n D ∧ Sw w0 w' sb) (fun w' e=>(k9A (he1.trans e) (ho1.ext e) (hs1.ext e) hn hb lo hi h2 (lo + L / 4 * 2) (by omega)).mono (by rintro e5 w5 ⟨p,h1,h2⟩;exact ⟨_,h1,p,rfl,h2⟩)) (fun v w2 hv=>?_)));clear hK K;obtain ⟨p2,rfl,bp2,he2,ho2,hs2⟩:=hv)|(refine oD 43 ?_;refine a4A (hK _ _ (d9A (f:=217) rfl (by decide) rfl rfl rfl rfl (fun v w'=>∃ p:Nat,v=.int .i64 p ∧ (lo ≤ p ∧ p < hi) ∧ Ext w0 w' ∧ d8A w0 w' b cap n D ∧ Sw w0 w' sb) (fun w' e=>(k9A (he2.trans e) (ho2.ext e) (hs2.ext e) hn hb lo hi h2 (lo + L / 4 * 3) (by omega)).mono (by rintro e5 w5 ⟨p,h1,h2⟩;exact ⟨_,h1,p,rfl,h2⟩)) (fun v w3 hv=>?_)));clear hK K;obtain ⟨p3,rfl,bp3,he3,ho3,hs3⟩:=hv)|(refine ceA rfl rfl ?_)|(refine cdA rfl rfl ?_)|refine wOp ?_|(refine wCm ?_ ?_<;>intro hc)|(refine wNl hK ?_;clear hK K))|(refine oCX ?_;first|refine cjA (id:=6) (ι:=Nat) (fun j=>[(9,.val (.pointer (some ⟨sb,0,none⟩))),(11,.val (.int .i64 (j:Int)))]) (fun p w'=>(lo ≤ p ∧ p < hi) ∧ Ext w0 w' ∧ d8A w0 w' b cap n D ∧ Sw w0 w' sb) ?_ ?_|refine cjA (id:=7) (ι:=Nat × Nat × Nat) (fun i=>[(0,.val (.slice (some ⟨b,0,none⟩) n cap)),(1,.val (.int .i64 lo)),(9,.val (.pointer (some ⟨sb,0,none⟩))),(10,.val (.int .i64 ((i.1:Nat):Int))),(11,.val (.int .i64 ((i.2.1:Nat):Int))),(12,.val (.int .i64 ((i.2.2:Nat):Int)))]) (fun i w'=>(lo ≤ i.1 ∧ i.1 < hi) ∧ (lo ≤ i.2.1 ∧ i.2.1 < hi) ∧ (lo ≤ i.2.2 ∧ i.2.2 < hi) ∧ Ext w0 w' ∧ d8A w0 w' b cap n D ∧ Sw w0 w' sb) ?_ ?_)|refine wG ?_|(refine wCR ?_;intro K hK)|(refine oLX ?_;first|(refine aeA rfl ?_;intro K hK))|fail)
  · exact a6A (p1,p2,p3) (fun w6 e6=>⟨bp1,bp2,bp3,he3.trans e6,ho3.ext e6,hs3.ext e6⟩) (by omega) (by dsimp only;exact (by repeat' (first | exact Sub.nil | refine Sub.val rfl (by first | with_reducible rfl | (congr 1;omega)) ?_ | refine Sub.same rfl ?_)))
  · exact a6A (lo + L / 4 * 1,lo + L / 4 * 2,lo + L / 4 * 3) (fun w6 e6=>⟨by dsimp only;omega,by dsimp only;omega,by dsimp only;omega,heX.trans e6,hoX.ext e6,hsX.ext e6⟩) (by omega) (by dsimp only;exact (by repeat' (first | exact Sub.nil | refine Sub.val rfl (by first | with_reducible rfl | (congr 1;omega)) ?_ | refine Sub.same rfl ?_)))
  · rintro ⟨i,j,k⟩ w3 ⟨bi,bj,bk,he3,ho3,hs3⟩
    dsimp only at bi bj bk ⊢
    repeat' (first|(refine oLA ?_;first|refine a0A rfl ?_|(refine oD 48 ?_;refine a4A (hK _ _ (hrA (f:=218) rfl (by decide) rfl rfl rfl rfl rfl rfl (fun v w'=>∃ p:Nat,v=.int .i64 p ∧ (lo ≤ p ∧ p < hi) ∧ Ext w0 w' ∧ d8A w0 w' b cap n D ∧ Sw w0 w' sb) (fun w' e=>(qsA (he3.trans e) (ho3.ext e) (hs3.ext e) hn hb lo hi h2 i j k bi bj bk).mono (by rintro e5 w5 ⟨p,h1,h2⟩;exact ⟨_,h1,p,rfl,h2⟩)) (fun v w1 hv=>?_)));clear hK K;obtain ⟨p,rfl,bp,he1,ho1,hs1⟩:=hv)|(refine ceA rfl rfl ?_)|(refine cdA rfl rfl ?_)|refine wOp ?_|(refine wCm ?_ ?_<;>intro hc)|(refine wNl hK ?_;clear hK K))|refine wG ?_|(refine wCR ?_;intro K hK)|(refine oLX ?_;first|(refine aeA rfl ?_;intro K hK))|fail)
    exact a6A p (fun w6 e6=>⟨bp,he1.trans e6,ho1.ext e6,hs1.ext e6⟩) (by omega) (by repeat' (first | exact Sub.nil | refine Sub.val rfl (by first | with_reducible rfl | (congr 1;omega)) ?_ | refine Sub.same rfl ?_))
  · exact a6A (lo + L / 4 * 2) (fun w6 e6=>⟨by omega,heX.trans e6,hoX.ext e6,hsX.ext e6⟩) (by omega) (by repeat' (first | exact Sub.nil | refine Sub.val rfl (by first | with_reducible rfl | (congr 1;omega)) ?_ | refine Sub.same rfl ?_))
  · rintro j w3 ⟨bj,he3,ho3,s,hs3⟩
    repeat' (first|(refine oLA ?_;first|refine a0A rfl ?_|(refine oD 49 ?_;refine alA hs3 rfl (fun _=>rfl) rfl (by exact Nat.zero_lt_one) ?_;rw [show [s].getD 0 0=s from rfl])|refine wOp ?_|(refine wCm ?_ ?_<;>intro hc)|(refine wNl hK ?_;clear hK K))|refine wG ?_|(refine wCR ?_;intro K hK)|fail)
    all_goals exact d4A rfl (fun u v w5 e5 hu hv=>by obtain rfl:u=_:=hu;obtain rfl:v=_:=hv;exact ⟨j,_,rfl,bj,he3.trans e5,ho3.ext e5⟩)
end Srt
end Go.Proofs.YtbokphkfojijoaaGreatDoor
end
section
set_option linter.unusedSimpArgs false
set_option linter.unusedVariables false
set_option maxRecDepth 3000
namespace Go.Proofs.YtbokphkfojijoaaGreatDoor
namespace Srt
open Go.LA Go.ArrP Go.RowKit
end Srt
end Go.Proofs.YtbokphkfojijoaaGreatDoor
namespace Go.LA
structure CXh (P:Program) (N:Nn) (wb:World) (c:Code) (E:Env) (Q:Exit → Act → World → Prop):Prop where
  out:CX P N wb c E Q
theorem kuA {P:Program} {N:Nn} {wb:World} {E:Env} {Q:Exit → Act → World → Prop} {id:Nat} {l:Array Oper} {m:Bool} {c1 c':Code} (h:CXh P N wb (.seq (.seq (.region id l m) c1) c') E Q):CX P N wb (.seq (.seq (.region id l m) c1) c') E Q:=h.out
theorem suA {P:Program} {N:Nn} {wb:World} {E:Env} {Q:Exit → Act → World → Prop} {c:Code} (h:CX P N wb c E Q):CXh P N wb c E Q:=⟨h⟩
end Go.LA
namespace Go.Proofs.YtbokphkfojijoaaGreatDoor
namespace Srt
open Go.LA Go.ArrP Go.RowKit
set_option maxHeartbeats 16000000 in
theorem xgA (m:Nat):∀ {w0 w:World} {b cap n:Nat} {D0:Array Int} (he0:Ext w0 w) (ho0:d8A w0 w b cap n D0) (hn:n=D0.size) (hb:D0.size < 4611686018427387904) (lo hi lim:Nat) (hm:hi - lo ≤ m) (h1:lo ≤ hi) (h2:hi ≤ D0.size) (hB0:Go.Sort.Below Go.Sort.ltInt lo hi D0) (hl0:lim < 4611686018427387904),
    Fc Tryz.prog 183 #[(.slice (some ⟨b,0,none⟩) n cap),.int .i64 lo,.int .i64 hi,.int .i64 lim] w (fun e w'=>e=.returned (.tuple #[]) ∧ Ext w0 w' ∧ ∃ D',Go.Sort.PermIn lo hi D0 D' ∧ Go.Sort.SortedIn Go.Sort.ltInt lo hi D' ∧ d8A w0 w' b cap n D'):=by
  induction m using Nat.strongRecOn with
  | ind m ih =>
  intro w0 w b cap n D0 he0 ho0 hn hb lo hi lim hm h1 h2 hB0 hl0
  have swo:Go.Sort.SWO Go.Sort.ltInt:=Go.Sort.swo_ltInt
  refine Fc.of (args:=[_,_,_,_]) Tryz.func183 rfl rfl Tryz.ntmps183 (Nat.le_of_ble_eq_true rfl) ?_
  repeat' (first|(refine oLA ?_;first|refine a0A rfl ?_|refine wOp ?_|(refine wCm ?_ ?_<;>intro hc)|(refine wNl hK ?_;clear hK K))|refine wG ?_|(refine wCR ?_;intro K hK)|fail)
  refine adA (ι:=Nat × Nat × Nat × Bool × Bool × Array Int) (fun i=>[(0,.val (.slice (some ⟨b,0,none⟩) n cap)),(1,.val (.int .i64 ((i.1:Nat):Int))),(2,.val (.int .i64 ((i.2.1:Nat):Int))),(3,.val (.int .i64 ((i.2.2.1:Nat):Int))),(8,.val (.bool i.2.2.2.1)),(9,.val (.bool i.2.2.2.2.1))])
    (fun i w'=>Ext w0 w' ∧ i.1 ≤ i.2.1 ∧ i.2.1 ≤ D0.size ∧ i.2.2.2.2.2.size=D0.size ∧ i.2.1 - i.1 ≤ hi - lo ∧ i.2.2.1 < 4611686018427387904 ∧ Go.Sort.Below Go.Sort.ltInt i.1 i.2.1 i.2.2.2.2.2 ∧ (∀ R,Go.Sort.PermIn i.1 i.2.1 i.2.2.2.2.2 R → Go.Sort.SortedIn Go.Sort.ltInt i.1 i.2.1 R → Go.Sort.PermIn lo hi D0 R ∧ Go.Sort.SortedIn Go.Sort.ltInt lo hi R) ∧ d8A w0 w' b cap n i.2.2.2.2.2) (fun i=>i.2.1 - i.1)
    (fun w2 e2=>⟨(lo,hi,lim,true,true,D0),⟨he0.trans e2,h1,h2,rfl,Nat.le_refl _,hl0,hB0,fun R p s=>⟨p,s⟩,ho0.ext e2⟩,by dsimp only;exact (by repeat' (first | exact Sub.nil | refine Sub.val rfl (by first | with_reducible rfl | (congr 1;omega)) ?_ | refine Sub.same rfl ?_))⟩) ?_
  rintro ⟨a,z,l,wb,wp,D⟩ w1 ⟨he1,haz,hz,hs1,hza,hl1,hB1,hG1,ho1⟩
  dsimp only at haz hz hs1 hza hl1 hB1 hG1 ho1 ⊢
  by_cases h12:z - a ≤ 12
  · have q0:True:=trivial
    repeat' (first|(refine oLA ?_;first|refine a0A rfl ?_|(refine oD 21 ?_;refine afA rfl rfl rfl (by dsimp only [fits];omega) ?_;rw [show ((z:Int) - a)=((z - a:Nat):Int) by omega])|(refine oD 27 ?_;refine a4A (hK _ _ (g0A (f:=203) (fun w'=>Ext w0 w' ∧ d8A w0 w' b cap n (Go.Sort.insertionSort Go.Sort.ltInt D a z)) (fun w' e=>y1A (he1.trans e) (ho1.ext e) (hn.trans hs1.symm) a z haz (by omega) (by omega)) rfl (by decide) rfl rfl rfl rfl (fun w2 hw2=>?_)));clear hK K;obtain ⟨he2,ho2⟩:=hw2)|refine wOp ?_|(refine wCm ?_ ?_<;>intro hc)|(refine wNl hK ?_;clear hK K))|refine wG ?_|(refine wCR ?_;intro K hK)|fail)
    have hh:=Go.Sort.insertionSort_holds (lt:=Go.Sort.ltInt) swo D a z haz (by omega)
    have hg:=hG1 _ hh.1 hh.2
    exact bmA rfl (fun w5 e5=>⟨rfl,he2.trans e5,_,hg.1,hg.2,ho2.ext e5⟩) (.inr rfl)
  by_cases hlz:l=0
  · have q0:True:=trivial
    repeat' (first|(refine oLA ?_;first|refine a0A rfl ?_|(refine oD 21 ?_;refine afA rfl rfl rfl (by dsimp only [fits];omega) ?_;rw [show ((z:Int) - a)=((z - a:Nat):Int) by omega])|(refine oD 33 ?_;refine a4A (hK _ _ (g0A (f:=204) (fun w'=>Ext w0 w' ∧ d8A w0 w' b cap n (Go.Sort.heapSort Go.Sort.ltInt D a z)) (fun w' e=>u3A (he1.trans e) (ho1.ext e) (hn.trans hs1.symm) a z haz (by omega) (by omega)) rfl (by decide) rfl rfl rfl rfl (fun w2 hw2=>?_)));clear hK K;obtain ⟨he2,ho2⟩:=hw2)|refine wOp ?_|(refine wCm ?_ ?_<;>intro hc)|(refine wNl hK ?_;clear hK K))|refine wG ?_|(refine wCR ?_;intro K hK)|fail)
    have hh:=Go.Sort.heapSort_holds (lt:=Go.Sort.ltInt) swo D a z haz (by omega)
    have hg:=hG1 _ hh.1 hh.2
    exact bmA rfl (fun w5 e5=>⟨rfl,he2.trans e5,_,hg.1,hg.2,ho2.ext e5⟩) (.inr rfl)
  repeat' (first|(refine oLA ?_;first|refine a0A rfl ?_|(refine oD 21 ?_;refine afA rfl rfl rfl (by dsimp only [fits];omega) ?_;rw [show ((z:Int) - a)=((z - a:Nat):Int) by omega])|refine wOp ?_|(refine wCm ?_ ?_<;>intro hc)|(refine wNl hK ?_;clear hK K))|(refine oCX ?_;first|refine kuA (id:=7) ?_)|refine wG ?_|(refine wCR ?_;intro K hK)|fail)
  refine suA (cjA (id:=7) (ι:=Nat × Array Int) (fun i=>[(0,.val (.slice (some ⟨b,0,none⟩) n cap)),(1,.val (.int .i64 ((a:Nat):Int))),(2,.val (.int .i64 ((z:Nat):Int))),(3,.val (.int .i64 ((i.1:Nat):Int))),(8,.val (.bool wb)),(9,.val (.bool wp)),(10,.val (.int .i64 ((z - a:Nat):Int)))]) (fun i w'=>i.1 < 4611686018427387904 ∧ Go.Sort.PermIn a z D i.2 ∧ Ext w0 w' ∧ d8A w0 w' b cap n i.2) ?_ ?_)
  · cases wb
    · have q0:True:=trivial
      repeat' (first|(refine oLA ?_;first|refine a0A rfl ?_|(refine oD 39 ?_;refine a4A (hK _ _ (g0A (f:=205) (fun w'=>Ext w0 w' ∧ ∃ D',Go.Sort.PermIn a z D D' ∧ d8A w0 w' b cap n D') (fun w' e=>yqA (he1.trans e) (ho1.ext e) (hn.trans hs1.symm) a z haz (by omega) (by omega)) rfl (by decide) rfl rfl rfl rfl (fun w2 hw2=>?_)));clear hK K;obtain ⟨he2,D2,hp2,ho2⟩:=hw2)|(refine oD 41 ?_;refine afA rfl rfl rfl (by dsimp only [fits];omega) ?_;rw [show ((l:Int) - 1)=((l - 1:Nat):Int) by omega])|refine wOp ?_|(refine wCm ?_ ?_<;>intro hc)|(refine wNl hK ?_;clear hK K))|refine wG ?_|(refine wCR ?_;intro K hK)|fail)
      exact a6A (l - 1,D2) (fun w6 e6=>⟨by dsimp only;omega,hp2,he2.trans e6,ho2.ext e6⟩) (by omega) (by dsimp only;exact (by repeat' (first | exact Sub.nil | refine Sub.val rfl (by first | with_reducible rfl | (congr 1;omega)) ?_ | refine Sub.same rfl ?_)))
    · have q0:True:=trivial
      repeat' (first|(refine oLA ?_;first|refine a0A rfl ?_|refine wOp ?_|(refine wCm ?_ ?_<;>intro hc)|(refine wNl hK ?_;clear hK K))|refine wG ?_|(refine wCR ?_;intro K hK)|fail)
      exact a6A (l,D) (fun w6 e6=>⟨hl1,Go.Sort.permIn_refl _ _ _,he1.trans e6,ho1.ext e6⟩) (by omega) (by dsimp only;exact (by repeat' (first | exact Sub.nil | refine Sub.val rfl (by first | with_reducible rfl | (congr 1;omega)) ?_ | refine Sub.same rfl ?_)))
  rintro ⟨l2,D2⟩ w2 ⟨hl2,hp2,he2,ho2⟩
  dsimp only at hl2 hp2 ho2 ⊢
  have hs2:D2.size=D0.size:=hp2.1.trans hs1
  repeat' (first|(refine oLA ?_;first|refine a0A rfl ?_|(refine oD 46 ?_;refine a4A (hK _ _ (d9A (f:=206) rfl (by decide) rfl rfl rfl rfl (fun v w'=>∃ (p:Nat) (h:Int),v=.tuple #[.int .i64 p,.int .i64 h] ∧ (a ≤ p ∧ p < z) ∧ Ext w0 w' ∧ d8A w0 w' b cap n D2) (fun w' e=>(yiA (he2.trans e) (ho2.ext e) (hn.trans hs2.symm) (by omega) a z (by omega) (by omega)).mono (by rintro e5 w5 ⟨p,h,h1,h2⟩;exact ⟨_,h1,p,h,rfl,h2⟩)) (fun v w3 hv=>?_)));clear hK K;obtain ⟨pv,hint,rfl,bpv,he3,ho3⟩:=hv)|(refine oD 54 ?_;refine a4A (hK _ _ (g0A (f:=207) (fun w'=>Ext w0 w' ∧ d8A w0 w' b cap n (Go.Sort.reverseRange D2 a z)) (fun w' e=>x8A (he3.trans e) (ho3.ext e) (hn.trans hs2.symm) a z (by omega) (by omega) (by omega)) rfl (by decide) rfl rfl rfl rfl (fun w4 hw4=>?_)));clear hK K;obtain ⟨he4,ho4⟩:=hw4)|(refine oD 60 ?_;refine afA rfl rfl rfl (by dsimp only [fits];omega) ?_;rw [show ((z:Int) - 1 - ((pv:Int) - a))=((z - 1 - (pv - a):Nat):Int) by omega])|(refine ceA rfl rfl ?_)|(refine cdA rfl rfl ?_)|refine wOp ?_|(refine wCm ?_ ?_<;>intro hc)|(refine wNl hK ?_;clear hK K))|(refine oCX ?_;first|refine kuA (id:=15) ?_|refine cjA (id:=11) (ι:=Nat × Int × Array Int) (fun i=>[(0,.val (.slice (some ⟨b,0,none⟩) n cap)),(1,.val (.int .i64 ((a:Nat):Int))),(2,.val (.int .i64 ((z:Nat):Int))),(3,.val (.int .i64 ((l2:Nat):Int))),(8,.val (.bool wb)),(9,.val (.bool wp)),(10,.val (.int .i64 ((z - a:Nat):Int))),(11,.val (.int .i64 ((i.1:Nat):Int))),(12,.val (.int .i64 i.2.1))]) (fun i w'=>(a ≤ i.1 ∧ i.1 < z) ∧ Go.Sort.PermIn a z D i.2.2 ∧ Ext w0 w' ∧ d8A w0 w' b cap n i.2.2) ?_ ?_)|refine wG ?_|(refine wCR ?_;intro K hK)|(refine oLX ?_;first|(refine aeA rfl ?_;intro K hK))|fail)
  · exact a6A (z - 1 - (pv - a),1,Go.Sort.reverseRange D2 a z) (fun w6 e6=>⟨by dsimp only;omega,Go.Sort.permIn_trans _ _ _ _ _ hp2 (Go.Sort.reverseRange_holds D2 a z haz (by omega)),he4.trans e6,ho4.ext e6⟩) (by omega) (by dsimp only;exact (by repeat' (first | exact Sub.nil | refine Sub.val rfl (by first | with_reducible rfl | (congr 1;omega)) ?_ | refine Sub.same rfl ?_)))
  · exact a6A (pv,hint,D2) (fun w6 e6=>⟨bpv,hp2,he3.trans e6,ho3.ext e6⟩) (by omega) (by dsimp only;exact (by repeat' (first | exact Sub.nil | refine Sub.val rfl (by first | with_reducible rfl | (congr 1;omega)) ?_ | refine Sub.same rfl ?_)))
  rintro ⟨p3,hint3,D3⟩ w3 ⟨bp3,hp3,he3,ho3⟩
  dsimp only at bp3 hp3 ho3 ⊢
  clear ho2 he2 hp2 hs2
  have hs3:D3.size=D0.size:=hp3.1.trans hs1
  have hB3:Go.Sort.Below Go.Sort.ltInt a z D3:=hB1.perm (by omega) hp3
  have hpi:=Go.Sort.partialInsertionSort_holds (lt:=Go.Sort.ltInt) swo D3 a z (by omega) (by omega) hB3
  refine cjA (id:=15) (ι:=Array Int) (fun i=>[(0,.val (.slice (some ⟨b,0,none⟩) n cap)),(1,.val (.int .i64 ((a:Nat):Int))),(2,.val (.int .i64 ((z:Nat):Int))),(3,.val (.int .i64 ((l2:Nat):Int))),(8,.val (.bool wb)),(9,.val (.bool wp)),(10,.val (.int .i64 ((z - a:Nat):Int))),(11,.val (.int .i64 ((p3:Nat):Int)))]) (fun i w'=>Go.Sort.PermIn a z D i ∧ Ext w0 w' ∧ d8A w0 w' b cap n i) ?_ ?_
  · by_cases hh1:hint3=1
    · cases hpb:(Go.Sort.partialInsertionSort Go.Sort.ltInt D3 a z).2 <;> cases wb <;> cases wp
      all_goals
        repeat' (first|(refine oLA ?_;first|refine a0A rfl ?_|(refine oD 72 ?_;refine a4A (hK _ _ (d9A (f:=208) rfl (by decide) rfl rfl rfl rfl (fun v w'=>v=.bool (Go.Sort.partialInsertionSort Go.Sort.ltInt D3 a z).2 ∧ Ext w0 w' ∧ d8A w0 w' b cap n (Go.Sort.partialInsertionSort Go.Sort.ltInt D3 a z).1) (fun w' e=>(tgA (he3.trans e) (ho3.ext e) (hn.trans hs3.symm) a z (by omega) (by omega) (by omega)).mono (by rintro e5 w5 ⟨h1,h2⟩;exact ⟨_,h1,rfl,h2⟩)) (fun v w5 hv=>?_)));clear hK K;obtain ⟨rfl,he5,ho5⟩:=hv;rw [hpb])|(refine ceA rfl rfl ?_)|(refine cdA rfl rfl ?_)|refine wOp ?_|(refine wCm ?_ ?_<;>intro hc)|(refine wNl hK ?_;clear hK K))|refine wG ?_|(refine wCR ?_;intro K hK)|(refine oLX ?_;first|(refine aeA rfl ?_;intro K hK))|fail)
      all_goals first
        | (have hg:=hG1 _ (Go.Sort.permIn_trans _ _ _ _ _ hp3 hpi.1) (hpi.2 hpb);exact bmA rfl (fun w6 e6=>⟨rfl,he5.trans e6,_,hg.1,hg.2,ho5.ext e6⟩) (.inr rfl))
        | exact a6A (Go.Sort.partialInsertionSort Go.Sort.ltInt D3 a z).1 (fun w6 e6=>⟨Go.Sort.permIn_trans _ _ _ _ _ hp3 hpi.1,he5.trans e6,ho5.ext e6⟩) (by omega) (by repeat' (first | exact Sub.nil | refine Sub.val rfl (by first | with_reducible rfl | (congr 1;omega)) ?_ | refine Sub.same rfl ?_))
        | exact a6A D3 (fun w6 e6=>⟨hp3,he3.trans e6,ho3.ext e6⟩) (by omega) (by repeat' (first | exact Sub.nil | refine Sub.val rfl (by first | with_reducible rfl | (congr 1;omega)) ?_ | refine Sub.same rfl ?_))
    · cases wb <;> cases wp
      all_goals
        repeat' (first|(refine oLA ?_;first|refine a0A rfl ?_|refine wOp ?_|(refine wCm ?_ ?_<;>intro hc)|(refine wNl hK ?_;clear hK K))|refine wG ?_|(refine wCR ?_;intro K hK)|fail)
      all_goals exact a6A D3 (fun w6 e6=>⟨hp3,he3.trans e6,ho3.ext e6⟩) (by omega) (by repeat' (first | exact Sub.nil | refine Sub.val rfl (by first | with_reducible rfl | (congr 1;omega)) ?_ | refine Sub.same rfl ?_))
  intro D4 w4 ⟨hp4,he4,ho4⟩
  clear hpi hB3 hs3 hp3 ho3 he3
  have hs4:D4.size=D0.size:=hp4.1.trans hs1
  have hl4:=asA D4
  have hB4:Go.Sort.Below Go.Sort.ltInt a z D4:=hB1.perm (by omega) hp4
  by_cases hc:0 < a ∧ Go.Sort.ltInt D4[a - 1]! D4[p3]! = false
  · obtain ⟨mid,D5,hx⟩:∃ mid D5,Go.Sort.partitionEqual Go.Sort.ltInt D4 a z p3=(mid,D5):=⟨_,_,rfl⟩
    obtain ⟨r1,r2,r3,r4,r5⟩:=Go.Sort.round_eq swo (Go.Sort.partitionEqual_holds Go.Sort.ltInt) hc.1 bp3.1 bp3.2 (by omega) hB4 hc.2 hx
    repeat' (first|(refine oLA ?_;first|refine a0A rfl ?_|(refine oD 79 ?_;refine a9A rfl rfl (fun _=>rfl) rfl rfl (a - 1) (by omega) (by omega) ?_)|(refine oI ?_;refine a9A rfl rfl (fun _=>rfl) rfl rfl _ rfl (by omega) ?_)|(refine oL ?_;refine alA ho4 rfl (fun _=>rfl) rfl (by omega) ?_;rw [cuA])|(refine oD 92 ?_;refine a4A (hK _ _ (dqA (f:=209) rfl (by decide) rfl rfl rfl rfl rfl (fun v w'=>v=.int .i64 (mid:Int) ∧ Ext w0 w' ∧ d8A w0 w' b cap n D5) (fun w' e=>(qdA (he4.trans e) (ho4.ext e) (hn.trans hs4.symm) a z p3 (by omega) (by omega) (by omega) (by omega)).mono (by rw [hx];rintro e5 w5 ⟨h1,h2⟩;exact ⟨_,h1,rfl,h2⟩)) (fun v w6 hv=>?_)));clear hK K;obtain ⟨rfl,he6,ho6⟩:=hv)|(refine ceA rfl rfl ?_)|(refine cdA rfl rfl ?_)|refine wOp ?_|(refine wCm ?_ ?_<;>intro hc)|(refine oCv ?_;first|(refine oC 191 ?_;refine a3A (f:=191) rfl rfl rfl rfl  (.val (.bool false)) (by intro u1 u2 w e hu1 hu2;(try obtain rfl:u1=_:=hu1);(try obtain rfl:u2=_:=hu2);exact anA (by rw [hc.2]) (ayA _ _ _)) ?_))|(refine wNl hK ?_;clear hK K))|refine wG ?_|(refine wCR ?_;intro K hK)|(refine oLX ?_;first|(refine aeA rfl ?_;intro K hK))|fail)
    exact a6A (mid,z,l2,wb,wp,D5) (fun w7 e7=>⟨he6.trans e7,by dsimp only;omega,by dsimp only;omega,by dsimp only;exact r3.trans hs4,by dsimp only;omega,hl2,r4,fun R p s=>hG1 R (Go.Sort.permIn_trans _ _ _ _ _ hp4 (r5 R p s).1) (r5 R p s).2,ho6.ext e7⟩) (by dsimp only;omega) (by dsimp only;exact (by repeat' (first | exact Sub.nil | refine Sub.val rfl (by first | with_reducible rfl | (congr 1;omega)) ?_ | refine Sub.same rfl ?_)))
  refine cjA (id:=17) (ι:=Unit) (fun _=>[(0,.val (.slice (some ⟨b,0,none⟩) n cap)),(1,.val (.int .i64 ((a:Nat):Int))),(2,.val (.int .i64 ((z:Nat):Int))),(3,.val (.int .i64 ((l2:Nat):Int))),(8,.val (.bool wb)),(9,.val (.bool wp)),(10,.val (.int .i64 ((z - a:Nat):Int))),(11,.val (.int .i64 ((p3:Nat):Int)))]) (fun _ w'=>Ext w0 w' ∧ d8A w0 w' b cap n D4) ?_ ?_
  · by_cases ha0:0 < a
    · cases hp:Go.Sort.ltInt D4[a - 1]! D4[p3]!
      · exact absurd ⟨ha0,hp⟩ hc
      · have q0:True:=trivial
        repeat' (first|(refine oLA ?_;first|refine a0A rfl ?_|(refine oD 79 ?_;refine a9A rfl rfl (fun _=>rfl) rfl rfl (a - 1) (by omega) (by omega) ?_)|(refine oI ?_;refine a9A rfl rfl (fun _=>rfl) rfl rfl _ rfl (by omega) ?_)|(refine oL ?_;refine alA ho4 rfl (fun _=>rfl) rfl (by omega) ?_;rw [cuA])|refine wOp ?_|(refine wCm ?_ ?_<;>intro hc)|(refine oCv ?_;first|(refine oC 191 ?_;refine a3A (f:=191) rfl rfl rfl rfl  (.val (.bool true)) (by intro u1 u2 w e hu1 hu2;(try obtain rfl:u1=_:=hu1);(try obtain rfl:u2=_:=hu2);exact anA (by rw [hp]) (ayA _ _ _)) ?_))|(refine wNl hK ?_;clear hK K))|refine wG ?_|(refine wCR ?_;intro K hK)|fail)
        exact a6A () (fun w7 e7=>⟨he4.trans e7,ho4.ext e7⟩) (by omega) (by repeat' (first | exact Sub.nil | refine Sub.val rfl (by first | with_reducible rfl | (congr 1;omega)) ?_ | refine Sub.same rfl ?_))
    · have q0:True:=trivial
      repeat' (first|(refine oLA ?_;first|refine a0A rfl ?_|refine wOp ?_|(refine wCm ?_ ?_<;>intro hc)|(refine wNl hK ?_;clear hK K))|refine wG ?_|(refine wCR ?_;intro K hK)|fail)
      exact a6A () (fun w7 e7=>⟨he4.trans e7,ho4.ext e7⟩) (by omega) (by repeat' (first | exact Sub.nil | refine Sub.val rfl (by first | with_reducible rfl | (congr 1;omega)) ?_ | refine Sub.same rfl ?_))
  · intro _ w5 ⟨he5,ho5⟩
    obtain ⟨mid,ap,D5,hx⟩:∃ mid ap D5,Go.Sort.partition Go.Sort.ltInt D4 a z p3=(mid,ap,D5):=⟨_,_,_,rfl⟩
    obtain ⟨r1,r2,r3,hBa,hBr,hleft,hright⟩:=Go.Sort.round_part swo (Go.Sort.partition_holds Go.Sort.ltInt) bp3.1 bp3.2 (by omega) hB4 hx
    repeat' (first|(refine oLA ?_;first|refine a0A rfl ?_|(refine oD 99 ?_;refine a4A (hK _ _ (dqA (f:=210) rfl (by decide) rfl rfl rfl rfl rfl (fun v w'=>v=.tuple #[.int .i64 (mid:Int),.bool ap] ∧ Ext w0 w' ∧ d8A w0 w' b cap n D5) (fun w' e=>(tkA (he5.trans e) (ho5.ext e) (hn.trans hs4.symm) a z p3 (by omega) (by omega) (by omega) (by omega)).mono (by rw [hx];rintro e5 w5 ⟨h1,h2⟩;exact ⟨_,h1,rfl,h2⟩)) (fun v wA hv=>?_)));clear hK K;obtain ⟨rfl,heA,hoA⟩:=hv)|(refine oD 105 ?_;refine afA rfl rfl rfl (by dsimp only [fits];omega) ?_;rw [show ((mid:Int) - a)=((mid - a:Nat):Int) by omega])|(refine oD 108 ?_;refine afA rfl rfl rfl (by dsimp only [fits];omega) ?_;rw [show ((z:Int) - mid)=((z - mid:Nat):Int) by omega])|(refine oD 123 ?_;refine avA rfl rfl rfl (by dsimp only [fits];omega) ?_;rw [show ((mid:Int) + 1)=((mid + 1:Nat):Int) by omega])|(refine oD 129 ?_;refine avA rfl rfl rfl (by dsimp only [fits];omega) ?_;rw [show ((mid:Int) + 1)=((mid + 1:Nat):Int) by omega])|(refine oD 121 ?_;refine a4A (hK _ _ (f7A (f:=183) (fun w'=>Ext w0 w' ∧ ∃ D',Go.Sort.PermIn a mid D5 D' ∧ Go.Sort.SortedIn Go.Sort.ltInt a mid D' ∧ d8A w0 w' b cap n D') (fun w' e=>ih (m - 1) (by omega) (heA.trans e) (hoA.ext e) (hn.trans (r3.trans hs4).symm) (by omega) a mid l2 (by omega) (by omega) (by omega) hBa hl2) rfl (by decide) rfl rfl rfl rfl rfl (fun w6 hw6=>?_)));clear hK K;obtain ⟨he6,D6,hp6,hs6,ho6⟩:=hw6)|(refine oD 132 ?_;refine a4A (hK _ _ (f7A (f:=183) (fun w'=>Ext w0 w' ∧ ∃ D',Go.Sort.PermIn (mid + 1) z D5 D' ∧ Go.Sort.SortedIn Go.Sort.ltInt (mid + 1) z D' ∧ d8A w0 w' b cap n D') (fun w' e=>ih (m - 1) (by omega) (heA.trans e) (hoA.ext e) (hn.trans (r3.trans hs4).symm) (by omega) (mid + 1) z l2 (by omega) (by omega) (by omega) hBr hl2) rfl (by decide) rfl rfl rfl rfl rfl (fun w6 hw6=>?_)));clear hK K;obtain ⟨he6,D6,hp6,hs6,ho6⟩:=hw6)|(refine ceA rfl rfl ?_)|(refine cdA rfl rfl ?_)|refine wOp ?_|(refine wCm ?_ ?_<;>intro hc)|(refine wNl hK ?_;clear hK K))|refine wG ?_|(refine wCR ?_;intro K hK)|(refine oLX ?_;first|(refine aeA rfl ?_;intro K hK))|fail)
    · exact a6A (mid + 1,z,l2,true,ap,D6) (fun w7 e7=>⟨he6.trans e7,by dsimp only;omega,by dsimp only;omega,by dsimp only;exact hp6.1.trans (r3.trans hs4),by dsimp only;omega,hl2,(hleft D6 hp6 hs6).1,fun R p s=>hG1 R (Go.Sort.permIn_trans _ _ _ _ _ hp4 ((hleft D6 hp6 hs6).2 R p s).1) ((hleft D6 hp6 hs6).2 R p s).2,ho6.ext e7⟩) (by dsimp only;omega) (by dsimp only;exact (by repeat' (first | exact Sub.nil | refine Sub.val rfl (by first | with_reducible rfl | (congr 1;omega)) ?_ | refine Sub.same rfl ?_)))
    · exact a6A (mid + 1,z,l2,false,ap,D6) (fun w7 e7=>⟨he6.trans e7,by dsimp only;omega,by dsimp only;omega,by dsimp only;exact hp6.1.trans (r3.trans hs4),by dsimp only;omega,hl2,(hleft D6 hp6 hs6).1,fun R p s=>hG1 R (Go.Sort.permIn_trans _ _ _ _ _ hp4 ((hleft D6 hp6 hs6).2 R p s).1) ((hleft D6 hp6 hs6).2 R p s).2,ho6.ext e7⟩) (by dsimp only;omega) (by dsimp only;exact (by repeat' (first | exact Sub.nil | refine Sub.val rfl (by first | with_reducible rfl | (congr 1;omega)) ?_ | refine Sub.same rfl ?_)))
    · exact a6A (a,mid,l2,true,ap,D6) (fun w7 e7=>⟨he6.trans e7,by dsimp only;omega,by dsimp only;omega,by dsimp only;exact hp6.1.trans (r3.trans hs4),by dsimp only;omega,hl2,(hright D6 hp6 hs6).1,fun R p s=>hG1 R (Go.Sort.permIn_trans _ _ _ _ _ hp4 ((hright D6 hp6 hs6).2 R p s).1) ((hright D6 hp6 hs6).2 R p s).2,ho6.ext e7⟩) (by dsimp only;omega) (by dsimp only;exact (by repeat' (first | exact Sub.nil | refine Sub.val rfl (by first | with_reducible rfl | (congr 1;omega)) ?_ | refine Sub.same rfl ?_)))
    · exact a6A (a,mid,l2,false,ap,D6) (fun w7 e7=>⟨he6.trans e7,by dsimp only;omega,by dsimp only;omega,by dsimp only;exact hp6.1.trans (r3.trans hs4),by dsimp only;omega,hl2,(hright D6 hp6 hs6).1,fun R p s=>hG1 R (Go.Sort.permIn_trans _ _ _ _ _ hp4 ((hright D6 hp6 hs6).2 R p s).1) ((hright D6 hp6 hs6).2 R p s).2,ho6.ext e7⟩) (by dsimp only;omega) (by dsimp only;exact (by repeat' (first | exact Sub.nil | refine Sub.val rfl (by first | with_reducible rfl | (congr 1;omega)) ?_ | refine Sub.same rfl ?_)))
end Srt
end Go.Proofs.YtbokphkfojijoaaGreatDoor
end
