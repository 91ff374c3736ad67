import Derived.Test.YtbokphkfojijoaaGreatDoorJ11
set_option linter.unusedSimpArgs false
set_option linter.unusedVariables false
set_option maxRecDepth 3000
set_option maxHeartbeats 16000000
section
namespace Go.Proofs.YtbokphkfojijoaaGreatDoor
open Go.LA Go.ArrP Go.RowKit
theorem pvA (w:World) (v:Value) (base:Nat) (p:Nat→Bool) (h:MkI base tM w v p):Fc Tryz.prog 84 #[v] w (Ret w (.pred (euA w.heap.size 105 (alA p)))):=by
 obtain ⟨b,rfl,-,hb⟩:=h;refine Fc.of (args:=[_]) Tryz.func84 rfl rfl Tryz.ntmps84 nZ ?_
 repeat' (first|(refine yL ?_;first|refine a0A rfl ?_|refine yO ?_|(refine yC ?_ ?_<;>intro hc)|(refine yN hK ?_;clear hK K))|refine wG ?_|(refine yR ?_;intro K hK)|fail)
 refine aaA (ι:=Nat × Value) (λ i=>[(0,.val (.pointer (some ⟨b,0,none⟩))),(3,.val i.2),(4,.val (.int .i64 i.1))]) (λ i w'=>Ext w w'∧i.1≤65536∧OwnR w.heap.size 105 w' i.2 (opn p i.1)) (λ i=>65536-i.1)
  (λ w2 e2=>⟨(0,.slice none 0 0),⟨e2,Nat.zero_le _,OwnR.nil⟩,sZ⟩) ?_
 rintro ⟨k,so⟩ w1 ⟨he,hk,ho⟩;dsimp only at hk ho ⊢;have hb1:=he.block hb
 by_cases hkl:k<65536
 ·have hget:(marks p)[0+k*1]?=some (.bool (p k)):=by rw [show 0+k*1=k by omega];exact e0A p oZ
  have hget2:(marks p)[0+(k-1)*1]?=some (.bool (p (k-1))):=by rw [show 0+(k-1)*1=k-1 by omega];exact e0A p oZ
  have hol:(opn p k).length≤k:=by rw [dwA];exact cnt_le _ _
  cases hp:p k
  ·rw [hp] at hget
   have hno:=giA hp
   repeat' (first|(refine yL ?_;first|refine a0A rfl ?_|refine a8A rfl rfl ?_|refine blA (n:=65536) (s:=1) rfl rfl (λ _=>rfl) rfl rfl k rfl oZ ?_|refine a7A rfl (λ _=>rfl) rfl hb1 hget ?_|refine yO ?_|(refine yC ?_ ?_<;>intro hc)|(refine yN hK ?_;clear hK K))|refine wG ?_|(refine yR ?_;intro K hK)|fail)
   exact a4A (k+1,so) (λ w5 e5=>⟨he.trans e5,hkl,by dsimp only;rw [hno];exact ho.ext e5⟩) eZ sZ
  ·rw [hp] at hget
   by_cases hA:0<k∧p (k-1)=true
   ·obtain ⟨Y,rfl⟩:∃ Y,k=Y+1:=⟨k-1,by omega⟩
    have hbl:bel p (Y+1)=true:=hA.2;rw [hA.2] at hget2;have hfl:=g5A p (Y+1) hbl;rw [fdA hbl] at ho;have hnew:=f1A hp hbl;obtain ⟨f,hf⟩:∃ f:Int,f=frm p (Y+1):=⟨_,rfl⟩;obtain ⟨a,ha⟩:∃ a,a=rnC p (Y+1):=⟨_,rfl⟩;obtain ⟨m,hm⟩:∃ m:Int,m=((Y+1:Nat):Int)-f-1:=⟨_,rfl⟩;rw [← hf,← ha,← hm] at ho;rw [← hf,← ha,show ((Y+1:Nat):Int)-f=m+1 by omega] at hnew;have hal:a.length≤Y+1:=ha▸k3A _ _;have hfb:0≤f∧f<Y+1:=oZ;obtain ⟨gb,cap,cur,rfl,hgb,hgc,hgn,hgm,hgs,hgt⟩:=ho.row (by simp);have hra:=last_at hgt;have hln:((a++[(f,m)]).length:Int)=(a.length:Int)+1:=by simp
    have hlN:(a++[(f,m)]).length=a.length+1:=by simp
    repeat' (first|(refine yL ?_;first|refine a0A rfl ?_|refine a8A rfl rfl ?_|(refine oD 19 ?_;refine blA (n:=65536) (s:=1) rfl rfl (λ _=>rfl) rfl rfl (Y+1) rfl oZ ?_)|(refine oD 30 ?_;refine blA (n:=65536) (s:=1) rfl rfl (λ _=>rfl) rfl rfl (Y+1-1) oZ oZ ?_)|(refine oD 20 ?_;refine a7A rfl (λ _=>rfl) rfl hb1 hget ?_)|(refine oD 31 ?_;refine a7A rfl (λ _=>rfl) rfl hb1 hget2 ?_)|(refine oD 35 ?_;refine c8A rfl _ rfl rfl (HasR.ownV ho) ?_;rw [hln])|(refine oD 36 ?_;refine afA rfl rfl rfl fZ ?_;rw [Int.add_sub_cancel])|(refine oD 37 ?_;refine biA (s:=2) rfl rfl (λ _=>rfl) rfl rfl oZ oZ ?_;rw [Int.toNat_natCast])|(refine oD 41 ?_;refine biA (s:=2) rfl rfl (λ _=>rfl) rfl rfl oZ oZ ?_;rw [Int.toNat_natCast])|(refine oF 1 ?_;refine a2A (a:=⟨gb,0+a.length*2,none⟩) (a':=⟨gb,a.length*2+1,none⟩) rfl rfl (λ w=>by rw [Nat.zero_add];rfl) ?_)|(refine oD 39 ?_;refine a7A rfl (λ _=>rfl) rfl hgc hra ?_)|(refine a3A (hK _ _ (bhA rfl rfl rfl hgc (λ _=>rfl) oZ rfl rfl (λ w4 e4=>?_)));clear hK K;dsimp only [vals];refine abA kZ (λ K hK=>?_))|refine yO ?_|(refine yC ?_ ?_<;>intro hc)|(refine yN hK ?_;clear hK K))|refine wG ?_|(refine yR ?_;intro K hK)|fail)
    refine a4A (Y+1+1,_) (λ w5 e5=>⟨((he.trans e4).setRow hgb _).trans e5,hkl,?_⟩) eZ sZ;dsimp only;rw [hnew];exact OwnR.ext (OwnR.bump hgb (e4.block hgc) hgn hgm hgs hgt (m+1)) e5
   ·have hbl:bel p k=false:=by
     cases k with
     | zero=>rfl
     | succ Y =>
       show p Y=false
       cases hY:p Y
       ·rfl
       ·exact absurd ⟨by omega,hY⟩ hA
    have hnew:=g6A hp hbl;have hA':0<k→p (k-1)=false:=λ h0=>by
     cases hY:p (k-1)
     ·rfl
     ·exact absurd ⟨h0,hY⟩ hA
    by_cases hk0:0<k
    ·rw [hA' hk0] at hget2
     repeat' (first|(refine yL ?_;first|refine a0A rfl ?_|refine a8A rfl rfl ?_|(refine oD 19 ?_;refine blA (n:=65536) (s:=1) rfl rfl (λ _=>rfl) rfl rfl k rfl oZ ?_)|(refine oD 30 ?_;refine blA (n:=65536) (s:=1) rfl rfl (λ _=>rfl) rfl rfl (k-1) oZ oZ ?_)|(refine oD 20 ?_;refine a7A rfl (λ _=>rfl) rfl hb1 hget ?_)|(refine oD 31 ?_;refine a7A rfl (λ _=>rfl) rfl hb1 hget2 ?_)|refine ezA (c:=pbA k 0) rfl rfl (λ w=>run_build w _ _ _ kZ) ?_|refine e6A rfl g2A rfl rfl dZ ?_|(refine a3A (hK _ _ (eyA rfl dZ g2A rfl ho rfl oZ oZ he (λ v' w' he' ho'=>?_)));clear hK K;dsimp only [vals];refine abA kZ (λ K hK=>?_))|refine yO ?_|(refine yC ?_ ?_<;>intro hc)|(refine yN hK ?_;clear hK K))|refine wG ?_|(refine yR ?_;intro K hK)|fail)
     exact a4A (k+1,v') (λ w5 e5=>⟨he'.trans e5,hkl,by dsimp only;rw [hnew];exact ho'.ext e5⟩) eZ sZ
    ·obtain rfl:k=0:=oZ
     repeat' (first|(refine yL ?_;first|refine a0A rfl ?_|refine a8A rfl rfl ?_|(refine oD 19 ?_;refine blA (n:=65536) (s:=1) rfl rfl (λ _=>rfl) rfl rfl 0 rfl oZ ?_)|(refine oD 20 ?_;refine a7A rfl (λ _=>rfl) rfl hb1 hget ?_)|refine ezA (c:=pbA ((0:Nat):Int) 0) rfl rfl (λ w=>run_build w _ _ _ kZ) ?_|refine e6A rfl g2A rfl rfl dZ ?_|(refine a3A (hK _ _ (eyA rfl dZ g2A rfl ho rfl oZ oZ he (λ v' w' he' ho'=>?_)));clear hK K;dsimp only [vals];refine abA kZ (λ K hK=>?_))|refine yO ?_|(refine yC ?_ ?_<;>intro hc)|(refine yN hK ?_;clear hK K))|refine wG ?_|(refine yR ?_;intro K hK)|fail)
     exact a4A (0+1,v') (λ w5 e5=>⟨he'.trans e5,hkl,by dsimp only;rw [hnew];exact ho'.ext e5⟩) eZ sZ
 ·obtain rfl:k=65536:=oZ
  repeat' (first|(refine yL ?_;first|refine a0A rfl ?_|refine yO ?_|(refine yC ?_ ?_<;>intro hc)|(refine yN hK ?_;clear hK K))|refine wG ?_|(refine yR ?_;intro K hK)|fail)
  exact aiA rfl rfl he (λ u w5 e5 hu'=>by obtain rfl:u=_:=hu';exact ho.ext e5)
end Go.Proofs.YtbokphkfojijoaaGreatDoor
end
