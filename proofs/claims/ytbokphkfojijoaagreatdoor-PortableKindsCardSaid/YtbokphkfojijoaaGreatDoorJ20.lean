import Derived.Test.YtbokphkfojijoaaGreatDoorJ11
import Derived.Test.YtbokphkfojijoaaGreatDoorJ18
set_option linter.unusedSimpArgs false
set_option linter.unusedVariables false
set_option maxRecDepth 3000
set_option maxHeartbeats 16000000
section
namespace Go.Proofs.YtbokphkfojijoaaGreatDoor
open Go.LA Go.ArrP Go.RowKit
theorem osA {e:Nat→Bool} {k:Nat} (h:e k=true):aeA e (k+1)=aeA e k++[(k:Int)]:=by
 simp only [aeA,h,if_true]
theorem d7A {e:Nat→Bool} {a:Nat}:∀ b,a≤b→(∀ k,a≤k→k<b→e k=false)→aeA e b=aeA e a
 | 0,h,_=>by obtain rfl:a=0:=oZ
             rfl
 | b+1,h,hf=>by
   by_cases e0:a=b+1
   ·rw [e0]
   ·rw [← d7A b oZ (λ k h1 h2=>hf k h1 oZ)]
    simp only [aeA,hf b oZ (Nat.lt_succ_self b),Bool.false_eq_true,if_false,List.append_nil]
theorem otA {e:Nat→Bool} {k:Nat} (h:0<(aeA e k).length):(aeA e k).getD ((aeA e k).length-1) 0<(k:Int):=by
 have hm:(aeA e k).getD ((aeA e k).length-1) 0 ∈ aeA e k:=by
  rw [List.getD_eq_getElem?_getD,List.getElem?_eq_getElem oZ];exact List.getElem_mem _
 obtain ⟨i,h1,_,h3⟩:=(byA e _ k).1 hm;omega
theorem vmA {p:Nat→Bool} {k y:Nat} (h:p y=true) (h1:k*65536≤y) (h2:y<(k+1)*65536):ne p k=true :=
 ne_iff.2 ⟨y-k*65536,by rw [fjA] at h2;omega,by rw [show k*65536+(y-k*65536)=y by omega];exact h⟩
theorem q8A {p:Nat→Bool} {k:Nat} (h:∀ y,k*65536≤y→y<(k+1)*65536→p y=false):ne p k=false:=by
 cases hn:ne p k with
 | false=>rfl
 | true =>
   obtain ⟨i,h1,h2⟩:=ne_iff.1 hn;rw [h _ oZ (by rw [fjA];omega)] at h2;cases h2
def cK (hi:Nat→Nat) (i:Nat):Nat:=if i=0 then 0 else (hi (i-1)-1) / 65536+1
theorem qpA {p:Nat→Bool} {T n:Nat} {lo hi:Nat→Nat} (W:SpW p T n lo hi) {i:Nat} (h:i<n) :
 aeA (ne p) (cK hi i)=aeA (ne p) (lo i / 65536)∨aeA (ne p) (cK hi i)=aeA (ne p) (lo i / 65536+1):=by
 have h2:=W.lt i h
 by_cases e0:i=0
 ·subst e0
  left
  refine (d7A _ (Nat.zero_le _) (λ k _ h4=>q8A (λ y h5 h6=>W.pre y (λ _=>?_) ?_))).symm
  ·omega
  ·omega
 ·have h3:=W.up (i-1) oZ
  have h4:=W.lt (i-1) oZ;rw [show i-1+1=i by omega] at h3;have hc:cK hi i=(hi (i-1)-1) / 65536+1:=if_neg e0
  by_cases e1:cK hi i=lo i / 65536+1
  ·right;rw [e1]
  ·left
   refine (d7A _ oZ (λ k h5 h6=>q8A (λ y h7 h8=>?_))).symm;have:=W.off (i-1) oZ y oZ (by rw [show i-1+1=i by omega];omega);exact this
theorem zbA {p:Nat→Bool} {T n:Nat} {lo hi:Nat→Nat} (W:SpW p T n lo hi) {i k:Nat} (h:i<n) (h1:lo i / 65536≤k) (h2:k≤(hi i-1) / 65536):ne p k=true:=by
 have h3:=W.lt i h
 by_cases e:lo i≤k*65536
 ·exact vmA (W.on i h (k*65536) e oZ) (Nat.le_refl _) oZ
 ·exact vmA (W.on i h (lo i) (Nat.le_refl _) h3.1) oZ oZ
theorem tqA {p:Nat→Bool} {n:Nat} {lo hi:Nat→Nat} (W:SpW p TOP n lo hi):aeA (ne p) (cK hi n)=b7A p:=by
 have htop:=enA;have hle:cK hi n≤65536:=by
  unfold cK
  split
  ·omega
  ·have:=W.lt (n-1) oZ;omega
 refine (d7A _ hle (λ k h5 h6=>q8A (λ y h7 h8=>?_))).symm
 by_cases e0:n=0
 ·exact W.pre y (λ h0=>by omega) oZ
 ·have hc:cK hi n=(hi (n-1)-1) / 65536+1:=if_neg e0
  exact W.post oZ y oZ oZ
theorem m6A {w:World} {v:Value} {p:Nat→Bool} (h:SlP .u64 w v (spL p TOP)):Fc Tryz.prog 11 #[v] w (Ret w (.pred (axA w.heap.size tK .u16 (b7A p)))):=by
 have htop:=enA;obtain ⟨lo,hi,W,hS⟩:=i5A p TOP;have hlen:=h.len;obtain ⟨S,hSd⟩:∃ S,S=spL p TOP:=⟨_,rfl⟩;rw [← hSd] at h W hS hlen;clear hSd;have hll:∀ k,k≤65536→(aeA (ne p) k).length≤65536:=λ k hk=>by rw [ayA];have:=cnt_le (ne p) k;omega
 refine Fc.of (args:=[_]) Tryz.func11 rfl rfl Tryz.ntmps11 nZ ?_
 repeat' (first|(refine yL ?_;first|refine a0A rfl ?_|refine yO ?_|(refine yC ?_ ?_<;>intro hc)|(refine yN hK ?_;clear hK K))|refine wG ?_|(refine yR ?_;intro K hK)|fail)
 refine aaA (ι:=Nat × Value) (λ j=>[(0,.val v),(3,.val j.2),(4,.val (.int .i64 j.1))]) (λ j w'=>Ext w w'∧j.1≤S.length∧OwnI w.heap.size tK .u16 w' j.2 (aeA (ne p) (cK hi j.1))) (λ j=>S.length-j.1)
  (λ w2 e2=>⟨(0,.slice none 0 0),⟨e2,Nat.zero_le _,OwnI.nil⟩,sZ⟩) ?_
 rintro ⟨i,out⟩ w1 ⟨he,hi',ho⟩;dsimp only at hi' ho ⊢;have h1:=h.ext he
 by_cases hil:i<S.length
 ·have hSi:=hS i hil
  have f2:=W.lt i hil;have hen:=qpA W hil;have hin:∀ {k:Nat},lo i / 65536≤k→k≤(hi i-1) / 65536→ne p k=true:=λ h1 h2=>zbA W hil h1 h2
  have hcs:cK hi (i+1)=(hi i-1) / 65536+1:=if_neg (Nat.succ_ne_zero i);obtain ⟨L,hL⟩:∃ L,L=lo i:=⟨_,rfl⟩;obtain ⟨H,hH⟩:∃ H,H=hi i:=⟨_,rfl⟩;rw [← hL,← hH] at hSi f2;rw [← hL] at hen;rw [← hH] at hcs;have hin':∀ {k:Nat},L / 65536≤k→k≤(H-1) / 65536→ne p k=true:=λ h1 h2=>hin oZ oZ
  clear hin hL hH W hS;obtain ⟨k0,hk0⟩:∃ k,k=L / 65536:=⟨_,rfl⟩;obtain ⟨k1,hk1⟩:∃ k,k=(H-1) / 65536:=⟨_,rfl⟩;have hq0:(L:Int) / 65536=(k0:Int):=oZ;have hs1:(H:Int)-1=((H-1:Nat):Int):=oZ;have hq1:((H-1:Nat):Int) / 65536=(k1:Int):=oZ;rw [← hk0] at hen;rw [← hk1] at hcs;have hle01:k0≤k1:=oZ;have hk1b:k1<65536:=oZ;have hin2:∀ {k:Nat},k0≤k→k≤k1→ne p k=true:=λ h1 h2=>hin' oZ oZ
  clear hin' hk0
  repeat' (first|(refine yL ?_;first|refine a0A rfl ?_|(refine oI ?_;refine baA rfl _ rfl (λ _=>rfl) rfl (HasP.val h1) rfl hil ?_;rw [hSi])|(refine oF 0 ?_;refine adA (f:=0) (o:=0) rfl rfl (λ _ _=>rfl) ?_)|(refine oL ?_;refine b9A rfl (λ _=>rfl) rfl rfl ?_;try dsimp only)|(refine d3A ?_;refine bjA rfl _ rfl rfl (HasP.val h1) ?_)|(refine oD 17 ?_;refine d5A rfl rfl rfl oZ oZ fZ ?_;rw [hq0])|refine yO ?_|(refine yC ?_ ?_<;>intro hc)|(refine yN hK ?_;clear hK K))|refine wG ?_|(refine yR ?_;intro K hK)|fail)
  refine aaA (ι:=Nat × Value) (λ j=>[(0,.val v),(3,.val j.2),(4,.val (.int .i64 i)),(5,.val (.int .u64 j.1))]) (λ j w'=>Ext w w'∧k0≤j.1∧j.1≤k1+1∧∃ xs,OwnI w.heap.size tK .u16 w' j.2 xs∧(xs=aeA (ne p) j.1∨(j.1≤k1∧xs=aeA (ne p) (j.1+1)))) (λ j=>k1+1-j.1)
   (λ w2 e2=>⟨(k0,out),⟨he.trans e2,Nat.le_refl _,by dsimp only;omega,_,ho.ext e2,hen.imp id (λ h=>⟨hle01,h⟩)⟩,sZ⟩) ?_
  rintro ⟨k,out⟩ w2 ⟨he2,g1,g2,xs,ho2,hks⟩;dsimp only at g1 g2 ho2 hks ⊢;have h2:=h.ext he2
  by_cases hkl:k≤k1
  ·have hnk:=hin2 g1 hkl
   have hnx:=osA hnk;have hlb:=hll k oZ;have hcv:IntKind.u16.wrap (k:Int)=(k:Int):=ctA .u16 _ fZ
   rcases hks with hks|⟨-,hks⟩
   ·have hlast:0<xs.length→xs.getD (xs.length-1) 0≠(k:Int):=λ h=>by
     rw [hks] at h ⊢;have:=otA h;omega
    rw [← hks] at hlb hnx
    by_cases h0:xs.length=0
    ·skip
     repeat' (first|(refine yL ?_;first|refine a0A rfl ?_|(refine oD 21 ?_;refine baA rfl _ rfl (λ _=>rfl) rfl (HasP.val h2) rfl hil ?_;rw [hSi])|(refine oF 1 ?_;refine adA (f:=1) (o:=1) rfl rfl (λ _ _=>rfl) ?_)|(refine oD 23 ?_;refine b9A rfl (λ _=>rfl) rfl rfl ?_;try dsimp only)|(refine oD 24 ?_;refine afA rfl rfl rfl fZ ?_;rw [hs1])|(refine oD 25 ?_;refine d5A rfl rfl rfl oZ oZ fZ ?_;rw [hq1])|(refine d3A ?_;refine azA rfl _ rfl rfl (HasI.ownV ho2).c ?_)|(refine oD 36 ?_;refine afA rfl rfl rfl fZ ?_;rw [show ((xs.length:Int)-1)=((xs.length-1:Nat):Int) by omega])|(refine oD 37 ?_;refine agA rfl _ rfl (λ _=>rfl) rfl (HasI.ownV ho2) rfl oZ ?_;try rw [hgl])|(refine oV ?_;refine e8A rfl rfl rfl rfl ?_;rw [hcv])|(refine oD 46 ?_;refine ftA rfl c5A rfl rfl ?_)|(refine oD 47 ?_;refine a3A (hK _ _ (dbA (w0:=w) rfl dZ c5A rfl ho2 rfl oZ oZ he2 (λ v' wv xv hov=>?_)));clear hK K;refine abA kZ (λ K hK=>?_))|refine yO ?_|(refine yC ?_ ?_<;>intro hc)|(refine yN hK ?_;clear hK K))|refine wG ?_|(refine yR ?_;intro K hK)|fail)
     exact a4A (k+1,v') (λ w5 e5=>⟨xv.trans e5,by dsimp only;omega,by dsimp only;omega,_,hov.ext e5,.inl hnx.symm⟩) eZ sZ
    ·have hlast':=hlast oZ
     repeat' (first|(refine yL ?_;first|refine a0A rfl ?_|(refine oD 21 ?_;refine baA rfl _ rfl (λ _=>rfl) rfl (HasP.val h2) rfl hil ?_;rw [hSi])|(refine oF 1 ?_;refine adA (f:=1) (o:=1) rfl rfl (λ _ _=>rfl) ?_)|(refine oD 23 ?_;refine b9A rfl (λ _=>rfl) rfl rfl ?_;try dsimp only)|(refine oD 24 ?_;refine afA rfl rfl rfl fZ ?_;rw [hs1])|(refine oD 25 ?_;refine d5A rfl rfl rfl oZ oZ fZ ?_;rw [hq1])|(refine d3A ?_;refine azA rfl _ rfl rfl (HasI.ownV ho2).c ?_)|(refine oD 36 ?_;refine afA rfl rfl rfl fZ ?_;rw [show ((xs.length:Int)-1)=((xs.length-1:Nat):Int) by omega])|(refine oD 37 ?_;refine agA rfl _ rfl (λ _=>rfl) rfl (HasI.ownV ho2) rfl oZ ?_;try rw [hgl])|(refine oV ?_;refine e8A rfl rfl rfl rfl ?_;rw [hcv])|(refine oD 46 ?_;refine ftA rfl c5A rfl rfl ?_)|(refine oD 47 ?_;refine a3A (hK _ _ (dbA (w0:=w) rfl dZ c5A rfl ho2 rfl oZ oZ he2 (λ v' wv xv hov=>?_)));clear hK K;refine abA kZ (λ K hK=>?_))|refine yO ?_|(refine yC ?_ ?_<;>intro hc)|(refine yN hK ?_;clear hK K))|refine wG ?_|(refine yR ?_;intro K hK)|fail)
     exact a4A (k+1,v') (λ w5 e5=>⟨xv.trans e5,by dsimp only;omega,by dsimp only;omega,_,hov.ext e5,.inl hnx.symm⟩) eZ sZ
   ·have hln:xs.length-1=(aeA (ne p) k).length:=by rw [hks,hnx,List.length_append,List.length_singleton];omega
    have hpos:0<xs.length:=by rw [hks,hnx,List.length_append,List.length_singleton];omega
    have hgl:xs.getD (xs.length-1) 0=(k:Int):=by
     rw [hln,hks,hnx,dfA (Nat.le_refl _),Nat.sub_self];rfl
    have hlb2:xs.length≤65537:=by rw [hks,hnx,List.length_append,List.length_singleton];omega
    clear hln
    repeat' (first|(refine yL ?_;first|refine a0A rfl ?_|(refine oD 21 ?_;refine baA rfl _ rfl (λ _=>rfl) rfl (HasP.val h2) rfl hil ?_;rw [hSi])|(refine oF 1 ?_;refine adA (f:=1) (o:=1) rfl rfl (λ _ _=>rfl) ?_)|(refine oD 23 ?_;refine b9A rfl (λ _=>rfl) rfl rfl ?_;try dsimp only)|(refine oD 24 ?_;refine afA rfl rfl rfl fZ ?_;rw [hs1])|(refine oD 25 ?_;refine d5A rfl rfl rfl oZ oZ fZ ?_;rw [hq1])|(refine d3A ?_;refine azA rfl _ rfl rfl (HasI.ownV ho2).c ?_)|(refine oD 36 ?_;refine afA rfl rfl rfl fZ ?_;rw [show ((xs.length:Int)-1)=((xs.length-1:Nat):Int) by omega])|(refine oD 37 ?_;refine agA rfl _ rfl (λ _=>rfl) rfl (HasI.ownV ho2) rfl oZ ?_;try rw [hgl])|(refine oV ?_;refine e8A rfl rfl rfl rfl ?_;rw [hcv])|(refine oD 46 ?_;refine ftA rfl c5A rfl rfl ?_)|(refine oD 47 ?_;refine a3A (hK _ _ (dbA (w0:=w) rfl dZ c5A rfl ho2 rfl oZ oZ he2 (λ v' wv xv hov=>?_)));clear hK K;refine abA kZ (λ K hK=>?_))|refine yO ?_|(refine yC ?_ ?_<;>intro hc)|(refine yN hK ?_;clear hK K))|refine wG ?_|(refine yR ?_;intro K hK)|fail)
    exact a4A (k+1,out) (λ w5 e5=>⟨he2.trans e5,by dsimp only;omega,by dsimp only;omega,_,ho2.ext e5,.inl hks⟩) eZ sZ
  ·obtain rfl:k=k1+1:=oZ
   have hxs:xs=aeA (ne p) (cK hi (i+1)):=by
    rw [hcs]
    rcases hks with h|⟨h,-⟩
    ·exact h
    ·omega
   rw [hxs] at ho2
   repeat' (first|(refine yL ?_;first|refine a0A rfl ?_|(refine oD 21 ?_;refine baA rfl _ rfl (λ _=>rfl) rfl (HasP.val h2) rfl hil ?_;rw [hSi])|(refine oF 1 ?_;refine adA (f:=1) (o:=1) rfl rfl (λ _ _=>rfl) ?_)|(refine oD 23 ?_;refine b9A rfl (λ _=>rfl) rfl rfl ?_;try dsimp only)|(refine oD 24 ?_;refine afA rfl rfl rfl fZ ?_;rw [hs1])|(refine oD 25 ?_;refine d5A rfl rfl rfl oZ oZ fZ ?_;rw [hq1])|(refine d3A ?_;refine azA rfl _ rfl rfl (HasI.ownV ho2).c ?_)|(refine oD 36 ?_;refine afA rfl rfl rfl fZ ?_;rw [show ((xs.length:Int)-1)=((xs.length-1:Nat):Int) by omega])|(refine oD 37 ?_;refine agA rfl _ rfl (λ _=>rfl) rfl (HasI.ownV ho2) rfl oZ ?_;try rw [hgl])|(refine oV ?_;refine e8A rfl rfl rfl rfl ?_;rw [hcv])|(refine oD 46 ?_;refine ftA rfl c5A rfl rfl ?_)|(refine oD 47 ?_;refine a3A (hK _ _ (dbA (w0:=w) rfl dZ c5A rfl ho2 rfl oZ oZ he2 (λ v' wv xv hov=>?_)));clear hK K;refine abA kZ (λ K hK=>?_))|refine yO ?_|(refine yC ?_ ?_<;>intro hc)|(refine yN hK ?_;clear hK K))|refine wG ?_|(refine yR ?_;intro K hK)|fail)
   exact a4A (i+1,out) (λ w5 e5=>⟨he2.trans e5,hil,ho2.ext e5⟩) eZ sZ
 ·obtain rfl:i=S.length:=oZ
  rw [tqA W] at ho
  repeat' (first|(refine yL ?_;first|refine a0A rfl ?_|(refine d3A ?_;refine bjA rfl _ rfl rfl (HasP.val h1) ?_)|refine yO ?_|(refine yC ?_ ?_<;>intro hc)|(refine yN hK ?_;clear hK K))|refine wG ?_|(refine yR ?_;intro K hK)|fail)
  exact aiA rfl rfl he (λ u w5 e5 hu=>by obtain rfl:u=_:=hu;exact ho.ext e5)
def mkT (r:Nat→Bool) (F c j:Nat):Bool:=decide (F+j<c) && r (F+j)
theorem thA {r:Nat→Bool} {F a b:Nat} (hab:a≤b) (h:∀ y,a≤y→y<b→r y=false):mkT r F b=mkT r F a:=by
 funext j
 unfold mkT
 by_cases e1:F+j<a
 ·rw [decide_eq_true e1,decide_eq_true (show F+j<b by omega)]
 ·by_cases e2:F+j<b
  ·rw [h _ oZ e2,Bool.and_false,Bool.and_false]
  ·rw [decide_eq_false e1,decide_eq_false e2]
theorem tgA {r:Nat→Bool} {F x:Nat} (h1:F≤x) (h:r x=true) (j:Nat):(if j=0+(x-F)*1 then true else mkT r F x j)=mkT r F (x+1) j:=by
 unfold mkT
 by_cases e:j=0+(x-F)*1
 ·rw [if_pos e,show F+j=x by omega,h,decide_eq_true (Nat.lt_succ_self x)];rfl
 ·rw [if_neg e]
  congr 1;exact decide_eq_decide.2 oZ
theorem wzA {p c:Nat→Bool} {key F:Nat} (hF:F=key*65536) (hc:c=itv F (F+65536)) {T:Nat} (hT:F+65536≤T):mkT (two (opF 1) p c) F T=blk p key:=by
 funext j
 have h1:two (opF 1) p c (F+j)=(p (F+j) && c (F+j)):=rfl;unfold mkT;rw [h1]
 by_cases e:j<65536
 ·rw [cyA e,hc,qrA oZ oZ,Bool.and_true,decide_eq_true (show F+j<T by omega),hF];rfl
 ·rw [epA e,hc,foA (.inr oZ),Bool.and_false,Bool.and_false]
theorem ncA {w:World} {v:Value} {p:Nat→Bool} (h:SlP .u64 w v (spL p TOP)) {key:Nat} (hk:key<65536):Fc Tryz.prog 12 #[v,.int .u16 key] w (Ret w (.pred (mkI w.heap.size tM (blk p key)))):=by
 have htop:=enA;obtain ⟨F,hF⟩:∃ F,F=key*65536:=⟨_,rfl⟩;have hFb:F+65536≤TOP:=oZ;have eF:(key:Int)*65536=(F:Int):=oZ;have eF2:(F:Int)+65536=((F+65536:Nat):Int):=oZ;have hsp:∀ w',Ext w w'→_:=λ w' e=>puA w' (lo:=F) (hi:=F+65536) oZ oZ
 rw [Nat.min_eq_left hFb] at hsp;obtain ⟨c,hc⟩:∃ c,c=itv F (F+65536):=⟨_,rfl⟩;have hall:=wzA (p:=p) hF hc hFb;rw [← hc] at hsp;have hbo:∀ w',Ext w w'→∀ u,OwnP w.heap.size tSp .u64 w' u (spL c TOP)→_:=λ w' e u hu=>pzA w' 1 (p:=p) (q:=c) (h.ext e) hu.slP
 have hrc:∀ y,two (opF 1) p c y=true→F≤y∧y<F+65536:=λ y hy=>by
  have h1:two (opF 1) p c y=(p y && c y):=rfl;rw [h1,Bool.and_eq_true,hc,itv_iff] at hy;exact hy.2
 obtain ⟨r,hr⟩:∃ r,r=two (opF 1) p c:=⟨_,rfl⟩;rw [← hr] at hbo hrc hall;rw [← hall];obtain ⟨lo,hi,W,hS⟩:=i5A r TOP;obtain ⟨S,hSd⟩:∃ S,S=spL r TOP:=⟨_,rfl⟩;obtain ⟨C,hCd⟩:∃ C,C=spL c TOP:=⟨_,rfl⟩;have hsl:(spL r TOP).length≤4294967296:=by
  have h1:=n2A r TOP;have h2:=cnt_le r TOP;omega
 rw [← hSd] at hbo W hS hsl;rw [← hCd] at hsp hbo;clear hr hc hall hSd hCd;refine Fc.of (args:=[_,_]) Tryz.func12 rfl rfl Tryz.ntmps12 nZ ?_
 repeat' (first|(refine yL ?_;first|refine a0A rfl ?_|refine guA rfl ubA ?_|refine j3A rfl rfl ?_|(refine oD 14 ?_;refine ejA rfl rfl rfl fZ ?_;rw [eF])|(refine oD 18 ?_;refine btA rfl rfl rfl fZ ?_;rw [eF2])|refine yO ?_|(refine yC ?_ ?_<;>intro hc)|(refine yV ?_;first|(refine oC 44 ?_;refine a5A (f:=44) rfl rfl rfl rfl  (.pred (l7A w.heap.size tSp .u64 C)) (by intro u1 u2 w e hu1 hu2;(try obtain rfl:u1=_:=hu1);(try obtain rfl:u2=_:=hu2);exact (hsp _ e).mono (eeA e.size rfl)) ?_)|(refine oC 34 ?_;refine bcA (f:=34) rfl rfl rfl rfl rfl  (.pred (l7A w.heap.size tSp .u64 S)) (by intro u1 u2 u3 w e hu1 hu2 hu3;(try obtain rfl:u1=_:=hu1);(try obtain rfl:u2=_:=hu2);(try obtain rfl:u3=_:=hu3);exact (hbo _ e _ hu2).mono (eeA e.size rfl)) ?_))|(refine yN hK ?_;clear hK K))|refine wG ?_|(refine yR ?_;intro K hK)|fail)
 refine bwA 7 rfl (λ v7 w7 e7 h7=>?_);refine bwA 5 rfl (λ v5 w5 e5 h5=>?_);obtain ⟨b,hb0,rfl,hb⟩:=h5;have hT:∀ {i:Nat},¬ i<S.length→sjA TOP S.length lo i=TOP:=λ h=>m7A h
 refine aaA (ι:=Nat) (λ i=>[(5,.val (.pointer (some ⟨b,0,none⟩))),(6,.val (.int .u64 F)),(7,.val v7),(8,.val (.int .i64 i))]) (λ i w'=>Ext w w'∧i≤S.length∧OwnP w.heap.size tSp .u64 w' v7 S∧w'.heap[b]?=some (.cells (marks (mkT r F (sjA TOP S.length lo i))) tM (0,0))) (λ i=>S.length-i)
  (λ w2 e2=>⟨0,⟨(e7.trans e5).trans e2,Nat.zero_le _,(OwnP.ext h7 e5).ext e2,?_⟩,sZ⟩) ?_
 ·have h0:∀ y,y<sjA TOP S.length lo 0→r y=false:=λ y hy=>W.pre y (λ h0=>by rwa [nfA h0] at hy) (by
   by_cases e:0<S.length
   ·rw [nfA e] at hy;have:=W.lt 0 e;omega
   ·rwa [m7A e] at hy)
  have:marks (mkT r F (sjA TOP S.length lo 0))=marks (λ _=>false):=icA (λ j _=>by
   unfold mkT
   by_cases e:F+j<sjA TOP S.length lo 0
   ·rw [h0 _ e,Bool.and_false]
   ·rw [decide_eq_false e,Bool.false_and])
  rw [this];exact e2.block hb
 rintro i w1 ⟨he,hi',ho,hbl⟩
 by_cases hil:i<S.length
 ·have hSi:=hS i hil
  have f2:=W.lt i hil;obtain ⟨f3,f4⟩:=wpA W hil;have hon:=W.on i hil;have hfl:mkT r F (sjA TOP S.length lo (i+1))=mkT r F (hi i):=thA f3 f4;rw [nfA hil] at hbl;obtain ⟨L,hL⟩:∃ L,L=lo i:=⟨_,rfl⟩;obtain ⟨H,hH⟩:∃ H,H=hi i:=⟨_,rfl⟩;rw [← hL,← hH] at hSi hon f2;rw [← hL] at hbl;rw [← hH] at hfl;clear f3 f4 hL hH W hS
  repeat' (first|(refine yL ?_;first|refine a0A rfl ?_|(refine oI ?_;refine baA rfl _ rfl (λ _=>rfl) rfl (HasP.ownV ho) rfl hil ?_;rw [hSi])|(refine oF 0 ?_;refine adA (f:=0) (o:=0) rfl rfl (λ _ _=>rfl) ?_)|(refine oL ?_;refine b9A rfl (λ _=>rfl) rfl rfl ?_;try dsimp only)|(refine d3A ?_;refine bjA rfl _ rfl rfl (HasP.ownV ho) ?_)|refine yO ?_|(refine yC ?_ ?_<;>intro hc)|(refine yN hK ?_;clear hK K))|refine wG ?_|(refine yR ?_;intro K hK)|fail)
  refine aaA (ι:=Nat) (λ x=>[(5,.val (.pointer (some ⟨b,0,none⟩))),(6,.val (.int .u64 F)),(7,.val v7),(8,.val (.int .i64 i)),(9,.val (.int .u64 x))]) (λ x w'=>Ext w w'∧L≤x∧x≤H∧OwnP w.heap.size tSp .u64 w' v7 S∧w'.heap[b]?=some (.cells (marks (mkT r F x)) tM (0,0))) (λ x=>H-x)
   (λ w2 e2=>⟨L,⟨he.trans e2,Nat.le_refl _,Nat.le_of_lt f2.1,ho.ext e2,e2.block hbl⟩,sZ⟩) ?_
  rintro x w2 ⟨he2,g1,g2,ho2,hbl2⟩
  by_cases hxh:x<H
  ·have hrx:=hon x g1 hxh
   obtain ⟨d1,d2⟩:=hrc x hrx;have eX:(x:Int)-F=((x-F:Nat):Int):=oZ;have hnx:=tgA d1 hrx
   repeat' (first|(refine yL ?_;first|refine a0A rfl ?_|(refine oD 35 ?_;refine baA rfl _ rfl (λ _=>rfl) rfl (HasP.ownV ho2) rfl hil ?_;rw [hSi])|(refine oF 1 ?_;refine adA (f:=1) (o:=1) rfl rfl (λ _ _=>rfl) ?_)|(refine oL ?_;refine b9A rfl (λ _=>rfl) rfl rfl ?_;try dsimp only)|(refine oD 44 ?_;refine afA rfl rfl rfl fZ ?_;rw [eX])|refine a8A rfl rfl ?_|refine blA (n:=65536) (s:=1) rfl rfl (λ _=>rfl) rfl rfl (x-F) oZ oZ ?_|(refine a3A (hK _ _ rfl (bhA rfl rfl rfl hbl2 (λ _=>rfl) (by rw [ecA];omega) rfl rfl (λ w4 e4=>?_)));clear hK K;dsimp only [vals];refine abA kZ (λ K hK=>?_))|(refine a3A (hK _ _ (bhA rfl rfl rfl hbl2 (λ _=>rfl) (by rw [ecA];omega) rfl rfl (λ w4 e4=>?_)));clear hK K;dsimp only [vals];refine abA kZ (λ K hK=>?_))|refine yO ?_|(refine yC ?_ ?_<;>intro hc)|(refine yN hK ?_;clear hK K))|(refine oCX ?_;first|refine dcA 6 kZ kZ dZ (λ K hK=>?_))|refine wG ?_|(refine yR ?_;intro K hK)|fail)
   have h6:=setRow_heap w4 b _ ((marks (mkT r F x)).setIfInBounds (0+(x-F)*1) (.bool true)) _ (0,0) (e4.block hbl2);have ho4:=Own.setRow (ho2.ext e4) ((marks (mkT r F x)).setIfInBounds (0+(x-F)*1) (.bool true)) (Own.apart (ho2.ext e4) (e4.block hbl2) dZ)
   conv at h6=>rhs;rw [qgA _ _ oZ,icA (q:=mkT r F (x+1)) (λ j _=>hnx j)]
   exact a4A (x+1) (λ w6 e6=>⟨((he2.trans e4).setRow hb0 _).trans e6,by omega,by omega,Own.ext ho4 e6,e6.block h6⟩) oZ sZ
  ·obtain rfl:x=H:=oZ
   repeat' (first|(refine yL ?_;first|refine a0A rfl ?_|(refine oD 35 ?_;refine baA rfl _ rfl (λ _=>rfl) rfl (HasP.ownV ho2) rfl hil ?_;rw [hSi])|(refine oF 1 ?_;refine adA (f:=1) (o:=1) rfl rfl (λ _ _=>rfl) ?_)|(refine oL ?_;refine b9A rfl (λ _=>rfl) rfl rfl ?_;try dsimp only)|refine yO ?_|(refine yC ?_ ?_<;>intro hc)|(refine yN hK ?_;clear hK K))|refine wG ?_|(refine yR ?_;intro K hK)|fail)
   exact a4A (i+1) (λ w6 e6=>⟨he2.trans e6,hil,ho2.ext e6,by rw [hfl];exact e6.block hbl2⟩) oZ sZ
 ·obtain rfl:i=S.length:=oZ
  rw [hT hil] at hbl
  repeat' (first|(refine yL ?_;first|refine a0A rfl ?_|(refine d3A ?_;refine bjA rfl _ rfl rfl (HasP.ownV ho) ?_)|refine yO ?_|(refine yC ?_ ?_<;>intro hc)|(refine yN hK ?_;clear hK K))|refine wG ?_|(refine yR ?_;intro K hK)|fail)
  exact aiA rfl rfl he (λ u w6 e6 hu=>by obtain rfl:u=_:=hu;exact ⟨b,rfl,hb0,e6.block hbl⟩)
end Go.Proofs.YtbokphkfojijoaaGreatDoor
end
