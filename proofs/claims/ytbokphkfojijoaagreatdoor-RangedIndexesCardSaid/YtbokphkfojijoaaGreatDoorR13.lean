import Derived.Test.YtbokphkfojijoaaGreatDoorR12
set_option linter.unusedSimpArgs false
set_option linter.unusedVariables false
set_option maxRecDepth 3000
set_option maxHeartbeats 16000000
section
namespace Go.Proofs.YtbokphkfojijoaaGreatDoor
open Go.LA Go.ArrP Go.RowKit
variable {A:Nat→Prop}
section
variable {P:Program} {l:List Oper} {wb:World} {K:List Oper→Env→Prop} {rest:List Oper} {E:Env} {d:Tmp} {ty t:TypeId} {pos:String} {after:Array Edge} {g:Option (Nat × Bool)} {x:Operand}
theorem uoA {c0 c1 c2 c3:Value} {p:Addr} (hg:blA l E g=some true) (ht:∀ w,(isAgg t).run P w=.ok true w) (hs:∀ w,(sizeOf t).run P w=.ok 4 w) (hx:opE E x=.val (.pointer (some p))) (hc:∀ (j:Nat) (c:Value),([c0,c1,c2,c3]:List Value)[j]?=some c→wb.cell? (p.add j)=some c)
 (h:LA P l wb K rest ((d,.val (.agg #[c0,c1,c2,c3]))::E)):LA P l wb K (⟨some d,.load t x,ty,pos,after,g⟩::rest) E :=
 bcA _ hg (bsA λ a w he hh=>by
  have h1:=hh x (by simp [Op.operands]);rw [hx] at h1;simp only [AD.ok] at h1;have hl:=run_loadCells_list (P:=P) w p [c0,c1,c2,c3] (λ j v hj=>he.cell (hc j v hj));simp only [List.length_cons,List.length_nil,Nat.zero_add,Nat.reduceAdd] at hl;simp only [execOp,h1,Instr.loadAt,Instr.sureAddr,loadVar,Sem.run_bind,Sem.run_pure,Result.andThen_ok,ht,if_true,hs,hl]) h
end
theorem u2A {w:World} {a:Value} {c0 c1 c2 c3:Value} {q:Nat→Bool} {ko:Int} {x:Nat} (hc:(imA [c0,c1,c2,c3]).p a w) (ho:Cn A w (.agg #[c0,c1,c2,c3]) q ko) (hx:x<65536) :
 Fc Tryz.prog 144 #[.int .u16 x,a] w (Ret w (.val (.bool (!q x)))):=by
 have h0:∀ w',Ext w w'→_:=λ w' e=>hyA (ho.ext e) hx
 obtain ⟨p0,rfl,hc⟩:=hc;refine Fc.of (args:=[_,_]) Tryz.func144 rfl rfl Tryz.ntmps144 nZ ?_
 repeat' (first|(refine yL ?_;first|refine a0A rfl ?_|(refine oLd ?_;refine uoA rfl (λ _=>rfl) (λ _=>rfl) rfl hc ?_)|refine yO ?_|(refine yC ?_ ?_<;>intro hc)|(refine yV ?_;first|(refine oC 105 ?_;refine a4A (f:=105) rfl rfl rfl rfl  (.val (.bool (q x))) (by intro u1 u2 w e hu1 hu2;(try obtain rfl:u1=_:=hu1);(try obtain rfl:u2=_:=hu2);exact h0 _ e) ?_))|(refine yN hK ?_;clear hK K))|refine wG ?_|(refine yR ?_;intro K hK)|(refine oPX ?_;first|exact afA rfl rfl (Ext.refl _) rfl)|fail)
theorem rqA {w:World} {u:Value} {c0 c1 c2 c3:Value} {q:Nat→Bool} {ko:Int} (ho:Cn A w (.agg #[c0,c1,c2,c3]) q ko) (hu:(holds 144 (.pred (imA [c0,c1,c2,c3]))).p u w):Tells w u (λ i=>!q i):=by
 obtain ⟨c,rfl,hc⟩:=hu;exact λ w' e x hx=>Clb.of1 (u2A ((imA [c0,c1,c2,c3]).mono _ _ _ e hc) (ho.ext e) hx)
theorem tuA {w:World} {vc vo:Value} {p q:Nat→Bool} {kc ko:Int} (hc:Cn A w vc p kc) (ho:Cn A w vo q ko) (hT:Tab w) (hA:Fsh A w) :
 Fc Tryz.prog 108 #[vc,vo] w (Ret w (.pred (cnP A (two (λ x y=>x && !y) p q) (asA (two (λ x y=>x && !y) p q))))):=by
 have hr:two (λ x y=>x && !y) p q 65536=false:=by unfold two;rw [hc.1,ho.1];rfl
 have hdo:∀ w',Ext w w'→_:=λ w' e=>do_c (hc.ext e) (ho.ext e) (o6A hc.1 ho.1) hr (hT.ext e) (hA.ext e)
 have hk1:∀ w',Ext w w'→_:=λ w' e=>f3A (hc.ext e)
 have hk2:∀ w',Ext w w'→_:=λ w' e=>f3A (ho.ext e)
 have e1:(λ i=>p i && !q i)=two (λ x y=>x && !y) p q:=rfl;obtain ⟨r,hrr⟩:∃ r,r=two (λ x y=>x && !y) p q:=⟨_,rfl⟩;rw [← hrr] at hr hdo e1 ⊢
 by_cases hk:kc=1
 ·obtain ⟨kd',va',vw',vr',rfl,-,-,-,-,k1',k2',-⟩:=ho.parts
  obtain ⟨hp,⟨-,kd,va,hkd,rfl,h1⟩|⟨h9,-⟩|⟨h9,-⟩⟩:=hc
  ·have hs:∀ w' u,Ext w w'→(holds 144 (.pred (imA [.int .u8 kd',va',vw',vr']))).p u w'→_:=λ w' u e hu=>cpB (q:=λ i=>!q i) (h1.ext e).slI hp (rqA (ho.ext e) hu) (hT.ext e) (hA.ext e)
   rw [e1] at hs;refine Fc.of (args:=[_,_]) Tryz.func108 rfl rfl Tryz.ntmps108 nZ ?_
   repeat' (first|(refine yL ?_;first|refine a0A rfl ?_|refine eaA ?_|(refine m0A rfl rfl ?_)|refine byA rfl (λ _=>rfl) ?_|refine daA (c:=.agg #[.func (.func 145) #[] #[],.func (.func 146) #[] #[],.func (.func 147) #[] #[]]) rfl rfl rfl rfl (λ _=>by kernel_rfl) ?_|(refine a3A (hK _ _ (ceA (φ:=cnP A r (asA r)) (w0:=w) rfl rfl rfl b7A (λ v' w' e hv=>hv) rfl (λ _=>rfl) (Ext.refl _) (λ w' e'=>?_)));clear hK K)|refine yO ?_|(refine yC ?_ ?_<;>intro hc)|(refine yV ?_;first|(refine oC 143 ?_;refine a4A (f:=143) rfl rfl rfl rfl (.pred (cnP A r (asA r))) (by intro u1 u2 w' e hu1 hu2;obtain rfl:u1=_:=hu1;exact hs w' _ e hu2) ?_)|(refine oC 63 ?_;refine oD 6 ?_;refine a2A (f:=63) rfl rfl rfl _ (by intro u1 w' e hu1;obtain rfl:u1=_:=hu1;exact hk1 w' e) ?_)|(refine oC 63 ?_;refine oD 998 ?_;refine a2A (f:=63) rfl rfl rfl _ (by intro u1 w' e hu1;obtain rfl:u1=_:=hu1;exact hk2 w' e) ?_)|(refine oC 116 ?_;refine axA (f:=116) rfl rfl rfl rfl rfl (.pred (cnP A r (asA r))) (by intro u1 u2 u3 w' e hu1 hu2 hu3;obtain rfl:u1=_:=hu1;obtain rfl:u2=_:=hu2;obtain rfl:u3=_:=hu3;exact hdo w' e) ?_))|(refine yN hK ?_;clear hK K))|refine wG ?_|(refine yR ?_;intro K hK)|(refine oPX ?_;first|exact cqA rfl rfl rfl rfl rfl (by assumption))|fail)
  ·omega
  ·omega
 ·obtain ⟨kd,va,vw,vr,rfl,-,-,-,-,k1,k2,-⟩:=hc.parts
  obtain ⟨kd',va',vw',vr',rfl,-,-,-,-,k1',k2',-⟩:=ho.parts;have hs:True:=trivial
  ·skip
   refine Fc.of (args:=[_,_]) Tryz.func108 rfl rfl Tryz.ntmps108 nZ ?_
   repeat' (first|(refine yL ?_;first|refine a0A rfl ?_|refine eaA ?_|(refine m0A rfl rfl ?_)|refine byA rfl (λ _=>rfl) ?_|refine daA (c:=.agg #[.func (.func 145) #[] #[],.func (.func 146) #[] #[],.func (.func 147) #[] #[]]) rfl rfl rfl rfl (λ _=>by kernel_rfl) ?_|(refine a3A (hK _ _ (ceA (φ:=cnP A r (asA r)) (w0:=w) rfl rfl rfl b7A (λ v' w' e hv=>hv) rfl (λ _=>rfl) (Ext.refl _) (λ w' e'=>?_)));clear hK K)|refine yO ?_|(refine yC ?_ ?_<;>intro hc)|(refine yV ?_;first|(refine oC 143 ?_;refine a4A (f:=143) rfl rfl rfl rfl (.pred (cnP A r (asA r))) (by intro u1 u2 w' e hu1 hu2;obtain rfl:u1=_:=hu1;exact hs w' _ e hu2) ?_)|(refine oC 63 ?_;refine oD 6 ?_;refine a2A (f:=63) rfl rfl rfl _ (by intro u1 w' e hu1;obtain rfl:u1=_:=hu1;exact hk1 w' e) ?_)|(refine oC 63 ?_;refine oD 998 ?_;refine a2A (f:=63) rfl rfl rfl _ (by intro u1 w' e hu1;obtain rfl:u1=_:=hu1;exact hk2 w' e) ?_)|(refine oC 116 ?_;refine axA (f:=116) rfl rfl rfl rfl rfl (.pred (cnP A r (asA r))) (by intro u1 u2 u3 w' e hu1 hu2 hu3;obtain rfl:u1=_:=hu1;obtain rfl:u2=_:=hu2;obtain rfl:u3=_:=hu3;exact hdo w' e) ?_))|(refine yN hK ?_;clear hK K))|refine wG ?_|(refine yR ?_;intro K hK)|(refine oPX ?_;first|exact cqA rfl rfl rfl rfl rfl (by assumption))|fail)
end Go.Proofs.YtbokphkfojijoaaGreatDoor
end
section
namespace Go.Proofs.YtbokphkfojijoaaGreatDoor
open Go.LA Go.ArrP Go.RowKit
theorem ztA {w:World} {v:Value} {base:Nat} {p:Nat→Bool} (h:MkI base tM w v p):Fc Tryz.prog 69 #[v] w (Ret w (.val (.int .u8 (asA p)))):=by
 obtain ⟨n,r,kq,en,er,eq,h1,h2,hK⟩:=kkA p;have hl:∀ w',Ext w w'→_:=λ w' e=>nqA w' v base p (h.ext e)
 have hm:∀ w',Ext w w'→_:=λ w' e=>afB w' v base p (h.ext e)
 have hln:(agA p 65536).length=n:=by rw [b2A];exact en
 rw [er] at hm;rw [eq];obtain ⟨xs,hxs⟩:∃ xs,xs=agA p 65536:=⟨_,rfl⟩;rw [← hxs] at hl hln;clear en er eq hxs
 rcases hK with ⟨a1,a2,rfl⟩|⟨a1,a2,rfl⟩|⟨a1,a2,rfl⟩|⟨a1,a2,rfl⟩
 all_goals
  refine Fc.of (args:=[_]) Tryz.func69 rfl rfl Tryz.ntmps69 nZ ?_
  repeat' (first|(refine yL ?_;first|refine a0A rfl ?_|(refine coA ?_;refine apA rfl _ rfl rfl HasI.own.c ?_;rw [hln])|refine yO ?_|(refine yC ?_ ?_<;>intro hc)|(refine yV ?_;first|(refine oC 47 ?_;refine a2A (f:=47) rfl rfl rfl  (.pred (b3A _ 31 .u16 xs)) (by intro u1 w e hu1;(try obtain rfl:u1=_:=hu1);exact (hl _ e).mono (a8A e.size)) ?_)|(refine oC 13 ?_;refine a2A (f:=13) rfl rfl rfl  (.val (.int .i64 r)) (by intro u1 w e hu1;(try obtain rfl:u1=_:=hu1);exact hm _ e) ?_))|(refine yN hK ?_;clear hK K))|refine wG ?_|(refine yR ?_;intro K hK)|(refine oPX ?_;first|exact afA rfl rfl (Ext.refl _) rfl)|fail)
theorem s1A (w:World) (v:Value) (base:Nat) (p:Nat→Bool) (h:MkI base tM w v p):Fc Tryz.prog 84 #[v] w (Ret w (.pred (feA w.heap.size 105 (aqA p)))):=by
 obtain ⟨b,rfl,-,hb⟩:=h;refine Fc.of (args:=[_]) Tryz.func84 rfl rfl Tryz.ntmps84 nZ ?_
 repeat' (first|(refine yL ?_;first|refine a0A rfl ?_|refine yO ?_|(refine yC ?_ ?_<;>intro hc)|(refine yN hK ?_;clear hK K))|refine wG ?_|(refine yR ?_;intro K hK)|fail)
 refine abA (ι:=Nat × Value) (λ i=>[(0,.val (.pointer (some ⟨b,0,none⟩))),(3,.val i.2),(4,.val (.int .i64 i.1))]) (λ i w'=>Ext w w'∧i.1≤65536∧OwnR w.heap.size 105 w' i.2 (opn p i.1)) (λ i=>65536-i.1)
  (λ w2 e2=>⟨(0,.slice none 0 0),⟨e2,Nat.zero_le _,OwnR.nil⟩,sZ⟩) ?_
 rintro ⟨k,so⟩ w1 ⟨he,hk,ho⟩;dsimp only at hk ho ⊢;have hb1:=he.block hb
 by_cases hkl:k<65536
 ·have hget:(marks p)[0+k*1]?=some (.bool (p k)):=by rw [show 0+k*1=k by omega];exact emA p oZ
  have hget2:(marks p)[0+(k-1)*1]?=some (.bool (p (k-1))):=by rw [show 0+(k-1)*1=k-1 by omega];exact emA p oZ
  have hol:(opn p k).length≤k:=by rw [fbA];exact cnt_le _ _
  cases hp:p k
  ·rw [hp] at hget
   have hno:=gbA hp
   repeat' (first|(refine yL ?_;first|refine a0A rfl ?_|refine a9A rfl rfl ?_|refine c7A (n:=65536) (s:=1) rfl rfl (λ _=>rfl) rfl rfl k rfl oZ ?_|refine a6A rfl (λ _=>rfl) rfl hb1 hget ?_|refine yO ?_|(refine yC ?_ ?_<;>intro hc)|(refine yN hK ?_;clear hK K))|refine wG ?_|(refine yR ?_;intro K hK)|fail)
   exact a5A (k+1,so) (λ w5 e5=>⟨he.trans e5,hkl,by dsimp only;rw [hno];exact ho.ext e5⟩) eZ sZ
  ·rw [hp] at hget
   by_cases hA:0<k∧p (k-1)=true
   ·obtain ⟨Y,rfl⟩:∃ Y,k=Y+1:=⟨k-1,by omega⟩
    have hbl:bel p (Y+1)=true:=hA.2;rw [hA.2] at hget2;have hfl:=g3A p (Y+1) hbl;rw [faA hbl] at ho;have hnew:=erA hp hbl;obtain ⟨f,hf⟩:∃ f:Int,f=frm p (Y+1):=⟨_,rfl⟩;obtain ⟨a,ha⟩:∃ a,a=rnC p (Y+1):=⟨_,rfl⟩;obtain ⟨m,hm⟩:∃ m:Int,m=((Y+1:Nat):Int)-f-1:=⟨_,rfl⟩;rw [← hf,← ha,← hm] at ho;rw [← hf,← ha,show ((Y+1:Nat):Int)-f=m+1 by omega] at hnew;have hal:a.length≤Y+1:=ha▸l0A _ _;have hfb:0≤f∧f<Y+1:=oZ;obtain ⟨gb,cap,cur,rfl,hgb,hgc,hgn,hgm,hgs,hgt⟩:=ho.row (by simp);have hra:=last_at hgt;have hln:((a++[(f,m)]).length:Int)=(a.length:Int)+1:=by simp
    have hlN:(a++[(f,m)]).length=a.length+1:=by simp
    repeat' (first|(refine yL ?_;first|refine a0A rfl ?_|refine a9A rfl rfl ?_|(refine oD 19 ?_;refine c7A (n:=65536) (s:=1) rfl rfl (λ _=>rfl) rfl rfl (Y+1) rfl oZ ?_)|(refine oD 30 ?_;refine c7A (n:=65536) (s:=1) rfl rfl (λ _=>rfl) rfl rfl (Y+1-1) oZ oZ ?_)|(refine oD 20 ?_;refine a6A rfl (λ _=>rfl) rfl hb1 hget ?_)|(refine oD 31 ?_;refine a6A rfl (λ _=>rfl) rfl hb1 hget2 ?_)|(refine oD 35 ?_;refine bwA rfl _ rfl rfl (HasR.ownV ho) ?_;rw [hln])|(refine oD 36 ?_;refine adA rfl rfl rfl fZ ?_;rw [Int.add_sub_cancel])|(refine oD 37 ?_;refine bkA (s:=2) rfl rfl (λ _=>rfl) rfl rfl oZ oZ ?_;rw [Int.toNat_natCast])|(refine oD 41 ?_;refine bkA (s:=2) rfl rfl (λ _=>rfl) rfl rfl oZ oZ ?_;rw [Int.toNat_natCast])|(refine oF 1 ?_;refine a1A (a:=⟨gb,0+a.length*2,none⟩) (a':=⟨gb,a.length*2+1,none⟩) rfl rfl (λ w=>by rw [Nat.zero_add];rfl) ?_)|(refine oD 39 ?_;refine a6A rfl (λ _=>rfl) rfl hgc hra ?_)|(refine a3A (hK _ _ (bgA rfl rfl rfl hgc (λ _=>rfl) oZ rfl rfl (λ w4 e4=>?_)));clear hK K;dsimp only [vals];refine acA kZ (λ K hK=>?_))|refine yO ?_|(refine yC ?_ ?_<;>intro hc)|(refine yN hK ?_;clear hK K))|refine wG ?_|(refine yR ?_;intro K hK)|fail)
    refine a5A (Y+1+1,_) (λ w5 e5=>⟨((he.trans e4).setRow hgb _).trans e5,hkl,?_⟩) eZ sZ;dsimp only;rw [hnew];exact OwnR.ext (OwnR.bump hgb (e4.block hgc) hgn hgm hgs hgt (m+1)) e5
   ·have hbl:bel p k=false:=by
     cases k with
     | zero=>rfl
     | succ Y =>
       show p Y=false
       cases hY:p Y
       ·rfl
       ·exact absurd ⟨by omega,hY⟩ hA
    have hnew:=frA hp hbl;have hA':0<k→p (k-1)=false:=λ h0=>by
     cases hY:p (k-1)
     ·rfl
     ·exact absurd ⟨h0,hY⟩ hA
    by_cases hk0:0<k
    ·rw [hA' hk0] at hget2
     repeat' (first|(refine yL ?_;first|refine a0A rfl ?_|refine a9A rfl rfl ?_|(refine oD 19 ?_;refine c7A (n:=65536) (s:=1) rfl rfl (λ _=>rfl) rfl rfl k rfl oZ ?_)|(refine oD 30 ?_;refine c7A (n:=65536) (s:=1) rfl rfl (λ _=>rfl) rfl rfl (k-1) oZ oZ ?_)|(refine oD 20 ?_;refine a6A rfl (λ _=>rfl) rfl hb1 hget ?_)|(refine oD 31 ?_;refine a6A rfl (λ _=>rfl) rfl hb1 hget2 ?_)|refine fnA (c:=qnA k 0) rfl rfl (λ w=>run_build w _ _ _ kZ) ?_|refine ehA rfl gzA rfl rfl dZ ?_|(refine a3A (hK _ _ (fmA rfl dZ gzA rfl ho rfl oZ oZ he (λ v' w' he' ho'=>?_)));clear hK K;dsimp only [vals];refine acA kZ (λ K hK=>?_))|refine yO ?_|(refine yC ?_ ?_<;>intro hc)|(refine yN hK ?_;clear hK K))|refine wG ?_|(refine yR ?_;intro K hK)|fail)
     exact a5A (k+1,v') (λ w5 e5=>⟨he'.trans e5,hkl,by dsimp only;rw [hnew];exact ho'.ext e5⟩) eZ sZ
    ·obtain rfl:k=0:=oZ
     repeat' (first|(refine yL ?_;first|refine a0A rfl ?_|refine a9A rfl rfl ?_|(refine oD 19 ?_;refine c7A (n:=65536) (s:=1) rfl rfl (λ _=>rfl) rfl rfl 0 rfl oZ ?_)|(refine oD 20 ?_;refine a6A rfl (λ _=>rfl) rfl hb1 hget ?_)|refine fnA (c:=qnA ((0:Nat):Int) 0) rfl rfl (λ w=>run_build w _ _ _ kZ) ?_|refine ehA rfl gzA rfl rfl dZ ?_|(refine a3A (hK _ _ (fmA rfl dZ gzA rfl ho rfl oZ oZ he (λ v' w' he' ho'=>?_)));clear hK K;dsimp only [vals];refine acA kZ (λ K hK=>?_))|refine yO ?_|(refine yC ?_ ?_<;>intro hc)|(refine yN hK ?_;clear hK K))|refine wG ?_|(refine yR ?_;intro K hK)|fail)
     exact a5A (0+1,v') (λ w5 e5=>⟨he'.trans e5,hkl,by dsimp only;rw [hnew];exact ho'.ext e5⟩) eZ sZ
 ·obtain rfl:k=65536:=oZ
  repeat' (first|(refine yL ?_;first|refine a0A rfl ?_|refine yO ?_|(refine yC ?_ ?_<;>intro hc)|(refine yN hK ?_;clear hK K))|refine wG ?_|(refine yR ?_;intro K hK)|fail)
  exact aiA rfl rfl he (λ u w5 e5 hu'=>by obtain rfl:u=_:=hu';exact ho.ext e5)
end Go.Proofs.YtbokphkfojijoaaGreatDoor
end
