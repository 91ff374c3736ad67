import Derived.Test.YtbokphkfojijoaaGreatDoorM26
set_option linter.unusedSimpArgs false
set_option linter.unusedVariables false
set_option maxRecDepth 3000
set_option maxHeartbeats 16000000
section
namespace Go.Proofs.YtbokphkfojijoaaGreatDoor.Pt
open Go.LA Go.ArrP Go.RowKit
def onA (ids:List Int) (lo hi:Int) (x:Nat):Bool:=decide (x<ids.length) && (decide (lo≤ids.getD x 0) && decide (ids.getD x 0≤hi))
theorem rngP_iff {ids:List Int} {lo hi:Int} {x:Nat}:onA ids lo hi x=true↔x<ids.length∧lo≤ids.getD x 0∧ids.getD x 0≤hi:=by
 unfold onA;rw [Bool.and_eq_true,Bool.and_eq_true,decide_eq_true_iff,decide_eq_true_iff,decide_eq_true_iff]
theorem n8A (ids:List Int) (id:Int):onA ids id id=idP ids id:=lbA λ x=>by rw [rngP_iff,idP_iff];omega
theorem n6A {w:World} {v:Value} {ids:List Int} (h:SlI .i64 w v ids) (lo hi:Int) (hl:ids.length≤300):Fc Tryz.prog 31 #[v,.int .i64 lo,.int .i64 hi] w (Ret w (.pred (k6A w.heap.size tSp .u64 (spL (onA ids lo hi) TOP)))):=by
 have htp:=epA;have hfin:spL (onA ids lo hi) TOP=spL (onA ids lo hi) ids.length:=ecA oZ (λ x h1 h2=>gyA λ h'=>by have:=(rngP_iff.1 h').1;omega);rw [hfin];refine Fc.of (args:=[_,_,_]) Tryz.func31 rfl rfl Tryz.ntmps31 nZ ?_
 repeat' (first|(refine yL ?_;first|refine a0A rfl ?_|refine yO ?_|(refine yC ?_ ?_<;>intro hc)|(refine yN hK ?_;clear hK K))|refine wG ?_|(refine yR ?_;intro K hK)|fail)
 refine abA (ι:=Nat × Value) (λ j=>[(0,.val v),(1,.val (.int .i64 lo)),(2,.val (.int .i64 hi)),(7,.val j.2),(8,.val (.int .i64 j.1))])
  (λ j w'=>j.1≤ids.length∧Ext w w'∧OwnP w.heap.size tSp .u64 w' j.2 (spL (onA ids lo hi) j.1)) (λ j=>ids.length-j.1)
  (λ w5 e5=>⟨(0,nilS),⟨Nat.zero_le _,e5,OwnP.nil⟩,sZ⟩) ?_
 rintro ⟨i,vs⟩ w1 ⟨hi',he,ho⟩;dsimp only at hi' ho ⊢;have hsl:=luA (onA ids lo hi) i;have hcl:=cnt_le (onA ids lo hi) i;have hv:=h.ext he
 by_cases hil:i<ids.length
 ·by_cases hin:lo≤ids.getD i 0∧ids.getD i 0≤hi
  ·have hst:=mzA (p:=onA ids lo hi) (a:=i) (b:=i+1) (Nat.lt_succ_self i) (λ x h1 h2=>by
    obtain rfl:x=i:=oZ;exact rngP_iff.2 ⟨hil,hin⟩)
   obtain ⟨h1,h2⟩:=hin;obtain ⟨SN,hSN⟩:∃ S,S=spL (onA ids lo hi) (i+1):=⟨_,rfl⟩;obtain ⟨SL,hSL⟩:∃ S,S=spL (onA ids lo hi) i:=⟨_,rfl⟩;rw [← hSN,← hSL] at hst;rw [← hSL] at ho hsl;obtain ⟨X,hX⟩:∃ X,X=ids.getD i 0:=⟨_,rfl⟩;rw [← hX] at h1 h2;clear hSL
   rcases hst with ⟨s1,s2,s3⟩|⟨s1,s3⟩
   ·obtain ⟨gb,cap,cur,rfl,r1,r2,r3,r4,r5,r6⟩:=ho.row s1
    repeat' (first|(refine yL ?_;first|refine a0A rfl ?_|(refine oD 13 ?_;refine akA rfl _ rfl rfl (HasI.val hv).c ?_)|(refine oD 19 ?_;refine acA rfl _ rfl (λ _=>rfl) rfl (HasI.val hv) rfl hil ?_;rw [← hX])|(refine oD 26 ?_;refine acA rfl _ rfl (λ _=>rfl) rfl (HasI.val hv) rfl hil ?_;rw [← hX])|(refine oD 34 ?_;refine ccA rfl _ rfl rfl (HasP.ownV ho) ?_)|(refine oD 40 ?_;refine adA rfl rfl rfl fZ ?_;rw [show ((SL.length:Int)-1)=((SL.length-1:Nat):Int) by omega])|(refine oD 41 ?_;refine buA rfl _ rfl (λ _=>rfl) rfl (HasP.ownV ho) rfl oZ ?_;rw [s2])|(refine oD 42 ?_;refine ajA (o:=1) rfl rfl (λ _ _=>rfl) ?_)|(refine oD 43 ?_;refine boA rfl (λ _=>rfl) rfl rfl ?_)|(refine oD 49 ?_;refine adA rfl rfl rfl fZ ?_;rw [show ((SL.length:Int)-1)=((SL.length-1:Nat):Int) by omega])|(refine oD 50 ?_;refine buA rfl _ rfl (λ _=>rfl) rfl (HasP.ownV ho) rfl oZ ?_;rw [s2])|(refine oD 51 ?_;refine ajA (o:=1) rfl rfl (λ _ _=>rfl) ?_)|(refine oD 52 ?_;refine boA rfl (λ _=>rfl) rfl rfl ?_)|(refine oD 53 ?_;refine b3A rfl rfl rfl fZ ?_;rw [show (i:Int)+1=((i+1:Nat):Int) by omega])|(refine oD 54 ?_;refine bjA (s:=2) rfl rfl (λ _=>rfl) rfl rfl oZ oZ ?_;rw [Int.toNat_natCast,Nat.zero_add])|(refine oD 55 ?_;refine a1A (a':=⟨gb,(SL.length-1)*2+1,none⟩) rfl rfl (λ _=>rfl) ?_)|(refine oSt ?_;refine a2A (hK _ _ (bfA rfl rfl rfl r2 (λ _=>rfl) oZ rfl rfl (λ w7 e7=>?_)));clear hK K;refine aeA kZ (λ K hK=>?_))|refine yO ?_|(refine yC ?_ ?_<;>intro hc)|(refine yN hK ?_;clear hK K))|refine wG ?_|(refine yR ?_;intro K hK)|fail)
    have ho7:=OwnP.set2 r1 (e7.block r2) r3 r4 r5 r6 (SL.length-1) ((i+1:Nat):Int);have x7:=(he.trans e7).setRow r1 (cur.setIfInBounds ((SL.length-1)*2+1) (.int .u64 ((i+1:Nat):Int)));exact a5A (i+1,_) (λ w5 e5=>⟨hil,x7.trans e5,by dsimp only;rw [← hSN,s3];exact ho7.ext e5⟩) eZ sZ
   ·by_cases h0:SL.length=0
    ·skip
     repeat' (first|(refine yL ?_;first|refine a0A rfl ?_|(refine oD 13 ?_;refine akA rfl _ rfl rfl (HasI.val hv).c ?_)|(refine oD 19 ?_;refine acA rfl _ rfl (λ _=>rfl) rfl (HasI.val hv) rfl hil ?_;rw [← hX])|(refine oD 26 ?_;refine acA rfl _ rfl (λ _=>rfl) rfl (HasI.val hv) rfl hil ?_;rw [← hX])|(refine oD 34 ?_;refine ccA rfl _ rfl rfl (HasP.ownV ho) ?_)|(refine oD 59 ?_;refine b3A rfl rfl rfl fZ ?_;rw [show (i:Int)+1=((i+1:Nat):Int) by omega])|(refine oD 60 ?_;refine dnA (c:=spV .u64 ((i:Int),((i+1:Nat):Int))) rfl rfl rfl (λ w=>run_build w _ _ _ kZ) ?_)|(refine oD 61 ?_;refine ehA rfl faA rfl rfl dZ ?_)|(refine oD 62 ?_;refine a2A (hK _ _ (gpA (w0:=w) rfl nZ faA rfl ho rfl oZ oZ he (λ v' wv xv hov=>?_)));clear hK K;refine aeA kZ (λ K hK=>?_))|refine yO ?_|(refine yC ?_ ?_<;>intro hc)|(refine yN hK ?_;clear hK K))|refine wG ?_|(refine yR ?_;intro K hK)|fail)
     exact a5A (i+1,v') (λ w5 e5=>⟨hil,xv.trans e5,by dsimp only;rw [← hSN,s3];exact hov.ext e5⟩) eZ sZ
    ·have s1':(SL.getD (SL.length-1) (0,0)).2≠((i:Nat):Int):=s1.resolve_left h0
     repeat' (first|(refine yL ?_;first|refine a0A rfl ?_|(refine oD 13 ?_;refine akA rfl _ rfl rfl (HasI.val hv).c ?_)|(refine oD 19 ?_;refine acA rfl _ rfl (λ _=>rfl) rfl (HasI.val hv) rfl hil ?_;rw [← hX])|(refine oD 26 ?_;refine acA rfl _ rfl (λ _=>rfl) rfl (HasI.val hv) rfl hil ?_;rw [← hX])|(refine oD 34 ?_;refine ccA rfl _ rfl rfl (HasP.ownV ho) ?_)|(refine oD 40 ?_;refine adA rfl rfl rfl fZ ?_;rw [show ((SL.length:Int)-1)=((SL.length-1:Nat):Int) by omega])|(refine oD 41 ?_;refine buA rfl _ rfl (λ _=>rfl) rfl (HasP.ownV ho) rfl oZ ?_)|(refine oD 42 ?_;refine ajA (o:=1) rfl rfl (λ _ _=>rfl) ?_)|(refine oD 43 ?_;refine boA rfl (λ _=>rfl) rfl rfl ?_)|(refine oD 59 ?_;refine b3A rfl rfl rfl fZ ?_;rw [show (i:Int)+1=((i+1:Nat):Int) by omega])|(refine oD 60 ?_;refine dnA (c:=spV .u64 ((i:Int),((i+1:Nat):Int))) rfl rfl rfl (λ w=>run_build w _ _ _ kZ) ?_)|(refine oD 61 ?_;refine ehA rfl faA rfl rfl dZ ?_)|(refine oD 62 ?_;refine a2A (hK _ _ (gpA (w0:=w) rfl nZ faA rfl ho rfl oZ oZ he (λ v' wv xv hov=>?_)));clear hK K;refine aeA kZ (λ K hK=>?_))|refine yO ?_|(refine yC ?_ ?_<;>intro hc)|(refine yN hK ?_;clear hK K))|refine wG ?_|(refine yR ?_;intro K hK)|fail)
     exact a5A (i+1,v') (λ w5 e5=>⟨hil,xv.trans e5,by dsimp only;rw [← hSN,s3];exact hov.ext e5⟩) eZ sZ
  ·have hfl:spL (onA ids lo hi) (i+1)=spL (onA ids lo hi) i:=ecA oZ (λ x h1 h2=>gyA λ h'=>by
    obtain rfl:x=i:=oZ;exact hin (rngP_iff.1 h').2)
   obtain ⟨X,hX⟩:∃ X,X=ids.getD i 0:=⟨_,rfl⟩;rw [← hX] at hin;have hc:X<lo∨(lo≤X∧hi<X):=oZ
   rcases hc with hc|⟨hc,hc2⟩
   all_goals
    repeat' (first|(refine yL ?_;first|refine a0A rfl ?_|(refine oD 13 ?_;refine akA rfl _ rfl rfl (HasI.val hv).c ?_)|(refine oD 19 ?_;refine acA rfl _ rfl (λ _=>rfl) rfl (HasI.val hv) rfl hil ?_;rw [← hX])|(refine oD 26 ?_;refine acA rfl _ rfl (λ _=>rfl) rfl (HasI.val hv) rfl hil ?_;rw [← hX])|refine yO ?_|(refine yC ?_ ?_<;>intro hc)|(refine yN hK ?_;clear hK K))|refine wG ?_|(refine yR ?_;intro K hK)|fail)
    exact a5A (i+1,vs) (λ w5 e5=>⟨hil,he.trans e5,by dsimp only;rw [hfl];exact ho.ext e5⟩) eZ sZ
 ·obtain rfl:i=ids.length:=oZ
  repeat' (first|(refine yL ?_;first|refine a0A rfl ?_|(refine oD 13 ?_;refine akA rfl _ rfl rfl (HasI.val hv).c ?_)|refine yO ?_|(refine yC ?_ ?_<;>intro hc)|(refine yN hK ?_;clear hK K))|refine wG ?_|(refine yR ?_;intro K hK)|fail)
  exact aiA rfl rfl he (λ u w5 e5 hu=>by obtain rfl:u=_:=hu;exact OwnP.ext ho e5)
theorem zdA {w:World} {v:Value} {ids:List Int} {n:Nat} (h:SlI .i64 w v ids) (hl:ids.length≤300) (hn:n≤100):Fc Tryz.prog 30 #[v,.int .i64 n] w (Ret w (.pred (b4A w.heap.size tB .u8 (byA (λ i=>eqA (idP ids i)) n)))):=by
 have h8:∀ i:Nat,nk (idP ids i)≤8:=λ i=>id8 hl i
 have hlh:=h.len;refine Fc.of (args:=[_,_]) Tryz.func30 rfl rfl Tryz.ntmps30 nZ ?_
 repeat' (first|(refine yL ?_;first|refine a0A rfl ?_|refine yO ?_|(refine yC ?_ ?_<;>intro hc)|(refine yN hK ?_;clear hK K))|refine wG ?_|(refine yR ?_;intro K hK)|fail)
 refine abA (ι:=Nat × Value) (λ j=>[(0,.val v),(1,.val (.int .i64 n)),(5,.val j.2),(6,.val (.int .i64 j.1))])
  (λ j w'=>Ext w w'∧j.1≤n∧OwnI w.heap.size tB .u8 w' j.2 (byA (λ i=>eqA (idP ids i)) j.1)) (λ j=>n-j.1)
  (λ w2 e2=>⟨(0,nilS),⟨e2,Nat.zero_le _,OwnI.nil⟩,sZ⟩) ?_
 rintro ⟨i,vb⟩ w1 ⟨he,hi,hB⟩;dsimp only at hi hB ⊢
 by_cases hil:i<n
 ·have hrw:∀ w',Ext w1 w'→Fc Tryz.prog 31 #[v,.int .i64 ((i:Int)),.int .i64 i] w' (Ret w' (.pred (k6A w'.heap.size tSp .u64 (spL (idP ids i) TOP)))):=λ w' e=>by
   have:=n6A (h.ext (he.trans e)) ((i:Int)) i oZ;rw [n8A] at this;exact this
  have hwr:∀ w' u,SlP .u64 w' u (spL (idP ids i) TOP)→w.heap.size≤w'.heap.size→Fc Tryz.prog 19 #[u] w' (Ret w' (.pred (b4A w.heap.size tB .u8 (eqA (idP ids i))))):=λ w' u hu hs=>(urA hu (h8 i)).mono (a8A hs)
  have hl1:=jjA (ps:=λ i=>idP ids i) h8 i;have hl2:=niA (h8 i);have hcat:byA (λ i=>eqA (idP ids i)) (i+1)=byA (λ i=>eqA (idP ids i)) i++eqA (idP ids i):=rfl;obtain ⟨B,hBB⟩:∃ B,B=byA (λ i=>eqA (idP ids i)) i:=⟨_,rfl⟩;obtain ⟨D,hD⟩:∃ D,D=eqA (idP ids i):=⟨_,rfl⟩;rw [← hBB] at hB hcat hl1;rw [← hD] at hwr hcat hl2
  repeat' (first|(refine yL ?_;first|refine a0A rfl ?_|(refine oD 18 ?_;refine a2A (hK _ _ (awA 17 rfl (λ vd wd ed hd=>?_)));clear hK K;replace hd:OwnI w.heap.size tB .u8 wd vd D:=hd;refine arA rfl nZ erA rfl (OwnI.ext hB ed) rfl (HasI.ownV hd).c c4A (by unfold maxLen;omega) oZ (λ v' wu wv eu ho hfr hlc=>?_);obtain ⟨x3,hn3⟩:=pqA (OwnI.ext hB ed) (he.trans ed) eu ho hfr hlc;refine aeA kZ (λ K hK=>?_))|refine yO ?_|(refine yC ?_ ?_<;>intro hc)|(refine yV ?_;first|(refine oC 31 ?_;refine b8A (f:=31) rfl rfl rfl rfl rfl  (.pred (k6A w.heap.size tSp .u64 (spL (idP ids i) TOP))) (by intro u1 u2 u3 w e hu1 hu2 hu3;(try obtain rfl:u1=_:=hu1);(try obtain rfl:u2=_:=hu2);(try obtain rfl:u3=_:=hu3);exact (hrw _ e).mono (elA (he.trans e).size rfl)) ?_)|(refine oC 19 ?_;refine a3A (f:=19) rfl rfl rfl  (.pred (b4A w.heap.size tB .u8 D)) (by intro u1 w e hu1;(try obtain rfl:u1=_:=hu1);exact hwr _ _ (OwnP.slP hu1) (he.trans e).size) ?_))|(refine yN hK ?_;clear hK K))|refine wG ?_|(refine yR ?_;intro K hK)|fail)
  exact a5A (i+1,v') (λ w5 e5=>⟨x3.trans e5,hil,by dsimp only;rw [hcat];exact OwnI.ext hn3 e5⟩) eZ sZ
 ·obtain rfl:i=n:=oZ
  repeat' (first|(refine yL ?_;first|refine a0A rfl ?_|refine yO ?_|(refine yC ?_ ?_<;>intro hc)|(refine yN hK ?_;clear hK K))|refine wG ?_|(refine yR ?_;intro K hK)|fail)
  exact aiA rfl rfl he (λ u w5 e5 hu=>by obtain rfl:u=_:=hu;exact OwnI.ext hB e5)
theorem xvA {w:World} {v:Value} {ids:List Int} (h:SlI .i64 w v ids) (many:Int) (hl:ids.length≤300) (hm:many≤60):Fc Tryz.prog 28 #[v,.int .i64 many] w (Ret w (.val (.bool (neA ids many)))):=by
 have hmx:=l7A ids many
 by_cases hn:many<0
 ·have hf:neA ids many=false:=Bool.eq_false_iff.2 λ h'=>by have:=(hmx.1 h').1;omega
  rw [hf];refine Fc.of (args:=[_,_]) Tryz.func28 rfl rfl Tryz.ntmps28 nZ ?_
  repeat' (first|(refine yL ?_;first|refine a0A rfl ?_|refine yO ?_|(refine yC ?_ ?_<;>intro hc)|(refine yN hK ?_;clear hK K))|refine wG ?_|(refine yR ?_;intro K hK)|fail)
  all_goals exact afA rfl rfl (Ext.refl _) rfl
 ·refine Fc.of (args:=[_,_]) Tryz.func28 rfl rfl Tryz.ntmps28 nZ ?_
  repeat' (first|(refine yL ?_;first|refine a0A rfl ?_|(refine cnA ?_;refine akA rfl _ rfl rfl (HasI.val h).c ?_)|refine yO ?_|(refine yC ?_ ?_<;>intro hc)|(refine yN hK ?_;clear hK K))|refine wG ?_|(refine yR ?_;intro K hK)|fail)
  refine abA (ι:=Nat) (λ i=>[(0,.val v),(1,.val (.int .i64 many)),(5,.val (.int .i64 i))]) (λ i w'=>i≤ids.length∧Ext w w'∧∀ j,j<i→0≤ids.getD j 0∧ids.getD j 0<many) (λ i=>ids.length-i)
   (λ w5 e5=>⟨0,⟨Nat.zero_le _,e5,λ j hj=>absurd hj (Nat.not_lt_zero _)⟩,sZ⟩) ?_
  rintro i w1 ⟨hi,he,hall⟩;have hv:=h.ext he
  by_cases hil:i<ids.length
  ·by_cases hin:0≤ids.getD i 0∧ids.getD i 0<many
   ·obtain ⟨X,hX⟩:∃ X,X=ids.getD i 0:=⟨_,rfl⟩
    have hin':=hin;rw [← hX] at hin';obtain ⟨g1,g2⟩:=hin'
    repeat' (first|(refine yL ?_;first|refine a0A rfl ?_|(refine cnA ?_;refine akA rfl _ rfl rfl (HasI.val hv).c ?_)|(refine oD 25 ?_;refine acA rfl _ rfl (λ _=>rfl) rfl (HasI.val hv) rfl hil ?_;rw [← hX])|(refine oD 31 ?_;refine acA rfl _ rfl (λ _=>rfl) rfl (HasI.val hv) rfl hil ?_;rw [← hX])|refine yO ?_|(refine yC ?_ ?_<;>intro hc)|(refine yN hK ?_;clear hK K))|refine wG ?_|(refine yR ?_;intro K hK)|fail)
    refine a5A (i+1) (λ w5 e5=>⟨hil,he.trans e5,λ j hj=>?_⟩) oZ sZ
    by_cases e:j=i
    ·rw [e];exact hin
    ·exact hall j oZ
   ·have hf:neA ids many=false:=Bool.eq_false_iff.2 λ h'=>hin ((hmx.1 h').2.2.2 _ (by rw [List.getD_eq_getElem?_getD,List.getElem?_eq_getElem hil];exact List.getElem_mem hil))
    rw [hf];obtain ⟨X,hX⟩:∃ X,X=ids.getD i 0:=⟨_,rfl⟩;rw [← hX] at hin;have hc:X<0∨(0≤X∧many≤X):=oZ
    rcases hc with hc|⟨hc,hc2⟩
    all_goals
     repeat' (first|(refine yL ?_;first|refine a0A rfl ?_|(refine cnA ?_;refine akA rfl _ rfl rfl (HasI.val hv).c ?_)|(refine oD 25 ?_;refine acA rfl _ rfl (λ _=>rfl) rfl (HasI.val hv) rfl hil ?_;rw [← hX])|(refine oD 31 ?_;refine acA rfl _ rfl (λ _=>rfl) rfl (HasI.val hv) rfl hil ?_;rw [← hX])|refine yO ?_|(refine yC ?_ ?_<;>intro hc)|(refine yN hK ?_;clear hK K))|refine wG ?_|(refine yR ?_;intro K hK)|fail)
     all_goals exact afA rfl rfl he rfl
  ·obtain rfl:i=ids.length:=oZ
   have ht:neA ids many=true:=hmx.2 ⟨by omega,by omega,by omega,λ x hx=>by
    obtain ⟨j,hj,rfl⟩:=List.getElem_of_mem hx;have:=hall j hj;rw [List.getD_eq_getElem?_getD,List.getElem?_eq_getElem hj] at this;exact this⟩
   rw [ht]
   repeat' (first|(refine yL ?_;first|refine a0A rfl ?_|(refine cnA ?_;refine akA rfl _ rfl rfl (HasI.val hv).c ?_)|refine yO ?_|(refine yC ?_ ?_<;>intro hc)|(refine yN hK ?_;clear hK K))|refine wG ?_|(refine yR ?_;intro K hK)|fail)
   all_goals exact afA rfl rfl he rfl
theorem appI {kd:IntKind} {e:Nat} {w w1 wu wv:World} {v v':Value} {a b:List Int} (h:OwnI w.heap.size e kd w1 v a) (x:Ext w w1) (eu:Ext w1 wu) (ho:LA.Own 0 e 1 wv v' (a.length+b.length) (a.map (Value.int kd)++b.map (Value.int kd))) (hfr:Fr (λ k=>v.ownBlock=some k) wu wv) (hlc:LocR wu v v') :
 Ext w wv∧OwnI w.heap.size e kd wv v' (a++b):=by
 have hx:=x.trans eu;refine ⟨Fr.ext hx hfr (λ k hk=>(Own.lt h k hk).1),?_⟩;unfold OwnI;rw [List.map_append,List.length_append];exact Own.rebase ho (hlc.ge (λ k hk=>(Own.lt h k hk).1) hx.size)
theorem IX.offG {R:Nat→Prop} {t n:Nat} {ps:Nat→Nat→Bool} {w w':World} {v:Value} (h:IX t n ps w v) (hf:Fr R w w') (hR:∀ k,R k→∃ cur e,w.heap[k]?=some (.cells cur e (0,0))∧OffT e∧t≠e∧tPs≠e):IX t n ps w' v:=by
 obtain ⟨b,sv,ptrs,h1,h2,h3⟩:=h;refine ⟨b,sv,ptrs,h1,hf.at h2 (λ hk=>?_),hf.own h3.own (λ k hk hr=>?_),λ i hi=>(h3.at_ i hi).off hf (λ k hk=>?_)⟩
 ·obtain ⟨cur,e,hc,-,h4,-⟩:=hR b hk
  rw [h2] at hc;cases hc;exact h4 rfl
 ·obtain ⟨cur,e,hc,-,-,h4⟩:=hR k hr
  exact Own.apart h3.own hc h4 hk
 ·obtain ⟨cur,e,hc,h4,-⟩:=hR k hk
  exact ⟨cur,e,hc,h4⟩
theorem Fr.one {w:World} {gb:Nat} {cs:Array Value}:Fr (λ k=>k=gb) w (w.setRow gb cs):=Fr.setRow (R:=λ k=>k=gb) (Fr.of (Ext.refl _)) rfl _
theorem sp_no (T:Nat):spL (λ _=>false) T=[]:=(ecA (Nat.zero_le T) (λ _ _ _=>rfl)).trans rfl
end Go.Proofs.YtbokphkfojijoaaGreatDoor.Pt
end
