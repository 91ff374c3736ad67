import Derived.Test.YtbokphkfojijoaaGreatDoorM16
section
set_option linter.unusedSimpArgs false
set_option linter.unusedVariables false
set_option maxRecDepth 3000
namespace Go.Proofs.YtbokphkfojijoaaGreatDoor
namespace Srt
open Go.LA Go.ArrP Go.RowKit
set_option maxHeartbeats 1000000 in
theorem insN16_c {w:World}:Fc Tryz.prog 203 #[.slice none 0 0,.int .i64 0,.int .i64 0] w (fun e w'=>e=.returned (.tuple #[]) ∧ Ext w w'):=by
  refine Fc.of (args:=[_,_,_]) Tryz.func203 rfl rfl Tryz.ntmps203 (Nat.le_of_ble_eq_true rfl) ?_
  repeat' (first|(refine oLA ?_;first|refine a0A rfl ?_|refine wOp ?_|(refine wCm ?_ ?_<;>intro hc)|(refine wNl hK ?_;clear hK K))|refine wG ?_|(refine wCR ?_;intro K hK)|fail)
  refine bjA (ι:=Unit) (fun i=>[(0,.val (.slice none 0 0)),(2,.val (.int .i64 0)),(6,.val (.int .i64 1))]) (fun _=>True) (fun _=>0) () trivial (by repeat' (first | exact Sub.nil | refine Sub.val rfl (by first | with_reducible rfl | (congr 1;omega)) ?_ | refine Sub.same rfl ?_)) ?_
  rintro _ -
  repeat' (first|(refine oLA ?_;first|refine a0A rfl ?_|refine wOp ?_|(refine wCm ?_ ?_<;>intro hc)|(refine wNl hK ?_;clear hK K))|refine wG ?_|(refine wCR ?_;intro K hK)|fail)
  exact bmA rfl (fun w5 e5=>⟨rfl,e5⟩) (.inl rfl)
theorem tiA {w:World} (lim:Nat) (hl:lim < 4611686018427387904):Fc Tryz.prog 183 #[.slice none 0 0,.int .i64 0,.int .i64 0,.int .i64 lim] w (fun e w'=>e=.returned (.tuple #[]) ∧ Ext w w'):=by
  refine Fc.of (args:=[_,_,_,_]) Tryz.func183 rfl rfl Tryz.ntmps183 (Nat.le_of_ble_eq_true rfl) ?_
  repeat' (first|(refine oLA ?_;first|refine a0A rfl ?_|refine wOp ?_|(refine wCm ?_ ?_<;>intro hc)|(refine wNl hK ?_;clear hK K))|refine wG ?_|(refine wCR ?_;intro K hK)|fail)
  refine bjA (ι:=Unit) (fun i=>[(0,.val (.slice none 0 0)),(1,.val (.int .i64 0)),(2,.val (.int .i64 0)),(3,.val (.int .i64 lim))]) (fun _=>True) (fun _=>0) () trivial (by repeat' (first | exact Sub.nil | refine Sub.val rfl (by first | with_reducible rfl | (congr 1;omega)) ?_ | refine Sub.same rfl ?_)) ?_
  rintro _ -
  repeat' (first|(refine oLA ?_;first|refine a0A rfl ?_|(refine oD 27 ?_;refine a4A (hK _ _ (g0A (f:=203) (fun w'=>Ext w w') (fun w' e=>insN16_c.mono (by rintro e5 w5 ⟨h1,h2⟩;exact ⟨h1,e.trans h2⟩)) rfl (by decide) rfl rfl rfl rfl (fun w2 hw2=>?_)));clear hK K)|refine wOp ?_|(refine wCm ?_ ?_<;>intro hc)|(refine wNl hK ?_;clear hK K))|refine wG ?_|(refine wCR ?_;intro K hK)|fail)
  exact bmA rfl (fun w5 e5=>⟨rfl,hw2.trans e5⟩) (.inr rfl)
set_option maxHeartbeats 1000000 in
theorem sort16_c {w0 w:World} {v:Value} {xs:List Int} (he0:Ext w0 w) (ho:OwnI w0.heap.size 31 .u16 w v xs) (hb:xs.length < 4611686018427387904) :
    Fc Tryz.prog 138 #[v] w (fun e w'=>e=.returned (.tuple #[]) ∧ Ext w0 w' ∧ OwnI w0.heap.size 31 .u16 w' v (xs.mergeSort (fun x y=>decide (x ≤ y)))):=by
  rcases ho.2 with ⟨rfl,h0⟩ | ⟨b,cap,cur,rfl,hx⟩
  · have hx0:xs=[]:=List.eq_nil_of_length_eq_zero h0
    subst hx0
    refine Fc.of (args:=[_]) Tryz.func138 rfl rfl Tryz.ntmps138 (Nat.le_of_ble_eq_true rfl) ?_
    repeat' (first|(refine oLA ?_;first|refine a0A rfl ?_|(refine dkA ?_;refine azA rfl _ rfl rfl (by exact (HasI.val (OwnI.slI ho)).c) ?_)|(refine oD 10 ?_;refine a4A (hK _ _ (f7A (f:=183) (fun w'=>Ext w0 w') (fun w' e=>(tiA (Go.Sort.bitsLen 0) (by decide)).mono (by rintro e5 w5 ⟨h1,h2⟩;exact ⟨h1,(he0.trans e).trans h2⟩)) rfl (by decide) rfl rfl rfl rfl rfl (fun w2 hw2=>?_)));clear hK K)|refine wOp ?_|(refine wCm ?_ ?_<;>intro hc)|(refine oCv ?_;first|(refine oC 120 ?_;refine a2A (f:=120) rfl rfl rfl  (.val (.int .i64 (Go.Sort.bitsLen 0:Nat))) (by intro u1 w e hu1;(try obtain rfl:u1=_:=hu1);exact g6A 0 (by omega)) ?_))|(refine wNl hK ?_;clear hK K))|refine wG ?_|(refine wCR ?_;intro K hK)|fail)
    exact bmA rfl (fun w5 e5=>⟨rfl,hw2.trans e5,by rw [List.mergeSort_nil];exact OwnI.nil⟩) (.inl rfl)
  · have hk:Go.Sort.bitsLen xs.length ≤ 62:=(Go.Sort.bitsLen_le_iff _ 62).2 (by omega)
    have ho1:d8A w0 w b cap xs.length xs.toArray:=ho
    refine Fc.of (args:=[_]) Tryz.func138 rfl rfl Tryz.ntmps138 (Nat.le_of_ble_eq_true rfl) ?_
    repeat' (first|(refine oLA ?_;first|refine a0A rfl ?_|(refine dkA ?_;refine azA rfl _ rfl rfl (by exact (HasI.val (OwnI.slI ho)).c) ?_)|(refine oD 10 ?_;refine a4A (hK _ _ (f7A (f:=183) (fun w'=>Ext w0 w' ∧ ∃ D',Go.Sort.PermIn 0 xs.length xs.toArray D' ∧ Go.Sort.SortedIn Go.Sort.ltInt 0 xs.length D' ∧ d8A w0 w' b cap xs.length D') (fun w' e=>xgA xs.length (he0.trans e) (ho1.ext e) (by simp) (by simpa using hb) 0 xs.length (Go.Sort.bitsLen xs.length) (by omega) (by omega) (by simp) (.inl rfl) (by omega)) rfl (by decide) rfl rfl rfl rfl rfl (fun w2 hw2=>?_)));clear hK K;obtain ⟨he2,D',hp,hs,ho2⟩:=hw2)|refine wOp ?_|(refine wCm ?_ ?_<;>intro hc)|(refine oCv ?_;first|(refine oC 120 ?_;refine a2A (f:=120) rfl rfl rfl  (.val (.int .i64 (Go.Sort.bitsLen xs.length:Nat))) (by intro u1 w e hu1;(try obtain rfl:u1=_:=hu1);exact g6A xs.length (by omega)) ?_))|(refine wNl hK ?_;clear hK K))|refine wG ?_|(refine wCR ?_;intro K hK)|fail)
    have hu:=Go.Sort.sorted_unique_holds (lt:=Go.Sort.ltInt) Go.Sort.swo_ltInt (by intro x y h1 h2;simp [Go.Sort.ltInt] at h1 h2;omega) xs.toArray D' (by simpa using hp) (by simpa using hs)
    have hle:(fun x y:Int=>!Go.Sort.ltInt y x)=(fun x y=>decide (x ≤ y)):=by
      funext x y;unfold Go.Sort.ltInt;by_cases h:x ≤ y <;> simp [h] <;> omega
    rw [hle] at hu
    exact bmA rfl (fun w5 e5=>⟨rfl,he2.trans e5,by have h3:=OwnI.ext ho2 e5;rw [hu] at h3;exact h3⟩) (.inl rfl)
end Srt
end Go.Proofs.YtbokphkfojijoaaGreatDoor
end
