import Derived.Test.YtlnaebejmjmepaaGreatDoorM11
set_option linter.unusedSimpArgs false
set_option linter.unusedVariables false
set_option maxRecDepth 3000
set_option maxHeartbeats 16000000
section
namespace Go.Proofs.YtlnaebejmjmepaaGreatDoor
open Go.LA Go.ArrP Go.RowKit
variable {A:Nat→Prop}
theorem uzA {w:World} {p q:Nat→Bool} (hp:p 65536=false) (hq:q 65536=false):Does w 100 101 102 p q (two (λ x y=>x && y) p q) where
 a:=λ w' e va vb ha hb=>by
  have hm:axA uuA (adA p 65536) (adA q 65536)=adA (two (λ x y=>x && y) p q) 65536:=(bxB (bjA p _) (bjA q _) (chA p) (chA q)).trans (cyA 65536 λ i hi=>by rw [c4A p hi,c4A q hi];simp [geA,two]);have:=and_c w' va vb _ _ ha hb (by have:=ijA p;have:=ijA q;omega);rwa [hm] at this
 w:=λ w' e va vb ha hb=>wandP w' va vb p q ha hb
 r:=λ w' e va vb ha hb=>ayB w' va vb p q hp hq ha hb
theorem z4A {w:World} {p q:Nat→Bool} (hp:p 65536=false) (hq:q 65536=false):Does w 91 92 93 p q (two (λ x y=>x || y) p q) where
 a:=λ w' e va vb ha hb=>by
  have hm:axA fOr (adA p 65536) (adA q 65536)=adA (two (λ x y=>x || y) p q) 65536:=(b2B (bjA p _) (bjA q _) (chA p) (chA q)).trans (cyA 65536 λ i hi=>by rw [c4A p hi,c4A q hi];simp [geA,two]);have:=or_c w' va vb _ _ ha hb (by have:=ijA p;have:=ijA q;omega);rwa [hm] at this
 w:=λ w' e va vb ha hb=>worP w' va vb p q ha hb
 r:=λ w' e va vb ha hb=>ror_c w' va vb p q hp hq ha hb
theorem mlA {w:World} {p q:Nat→Bool} (hp:p 65536=false) (hq:q 65536=false):Does w 104 105 106 p q (two (λ x y=>x && !y) p q) where
 a:=λ w' e va vb ha hb=>by
  have hm:axA sxA (adA p 65536) (adA q 65536)=adA (two (λ x y=>x && !y) p q) 65536:=(b7B (bjA p _) (bjA q _) (chA p) (chA q)).trans (cyA 65536 λ i hi=>by rw [c4A p hi,c4A q hi];simp [geA,two]);have:=veA w' va vb _ _ ha hb (by have:=ijA p;have:=ijA q;omega);rwa [hm] at this
 w:=λ w' e va vb ha hb=>wnotP w' va vb p q ha hb
 r:=λ w' e va vb ha hb=>arB w' va vb p q hp hq ha hb
theorem uyA {w:World} {p q:Nat→Bool} (hp:p 65536=false) (hq:q 65536=false):Does w 107 108 109 p q (two (λ x y=>!(x == y)) p q) where
 a:=λ w' e va vb ha hb=>by
  have hm:axA usA (adA p 65536) (adA q 65536)=adA (two (λ x y=>!(x == y)) p q) 65536:=(a1B (bjA p _) (bjA q _) (chA p) (chA q)).trans (cyA 65536 λ i hi=>by rw [c4A p hi,c4A q hi];simp [geA,two]);have:=xor_c w' va vb _ _ ha hb (by have:=ijA p;have:=ijA q;omega);rwa [hm] at this
 w:=λ w' e va vb ha hb=>wxorP w' va vb p q ha hb
 r:=λ w' e va vb ha hb=>amB w' va vb p q hp hq ha hb
theorem brB {w:World} {vc vo:Value} {p q:Nat→Bool} {kc ko:Int} (hc:Cn A w vc p kc) (ho:Cn A w vo q ko) (hT:Tab w) (hA:Fsh A w) :
 Fc Tryz.prog 68 #[vc,vo] w (Ret w (.pred (cnP A (two (λ x y=>x || y) p q) (aoA (two (λ x y=>x || y) p q))))):=by
 have hr:two (λ x y=>x || y) p q 65536=false:=by unfold two;rw [hc.1,ho.1];rfl
 have hdo:∀ w',Ext w w'→_:=λ w' e=>do_c (hc.ext e) (ho.ext e) (z4A hc.1 ho.1) hr (hT.ext e) (hA.ext e)
 have hk1:∀ w',Ext w w'→_:=λ w' e=>e5A (hc.ext e)
 have hk2:∀ w',Ext w w'→_:=λ w' e=>e5A (ho.ext e)
 obtain ⟨r,hrr⟩:∃ r,r=two (λ x y=>x || y) p q:=⟨_,rfl⟩;rw [← hrr] at hr hdo ⊢;obtain ⟨kd,va,vw,vr,rfl,-,-,-,-,k1,k2,-⟩:=hc.parts;obtain ⟨kd',va',vw',vr',rfl,-,-,-,-,k1',k2',-⟩:=ho.parts
 ·skip
  refine Fc.of (args:=[_,_]) Tryz.func68 rfl rfl Tryz.ntmps68 nZ ?_
  repeat' (first|(refine yL ?_;first|refine a0A rfl ?_|refine d9A ?_|refine b4A rfl (λ _=>rfl) ?_|refine c0A (c:=.agg #[.func (.func 91) #[] #[],.func (.func 92) #[] #[],.func (.func 93) #[] #[]]) rfl rfl rfl rfl (λ _=>by kernel_rfl) ?_|(refine a4A (hK _ _ (bsA (φ:=cnP A r (aoA r)) (w0:=w) rfl rfl rfl auA (λ v' w' e hv=>hv) rfl (λ _=>rfl) (Ext.refl _) (λ w' e'=>?_)));clear hK K)|refine yO ?_|(refine yC ?_ ?_<;>intro hc)|(refine yV ?_;first|(refine oC 57 ?_;refine oD 999 ?_;refine a2A (f:=57) rfl rfl rfl _ (by intro u1 w' e hu1;obtain rfl:u1=_:=hu1;exact hk1 w' e) ?_)|(refine oC 57 ?_;refine oD 998 ?_;refine a2A (f:=57) rfl rfl rfl _ (by intro u1 w' e hu1;obtain rfl:u1=_:=hu1;exact hk2 w' e) ?_)|(refine oC 94 ?_;refine alA (f:=94) rfl rfl rfl rfl rfl (.pred (cnP A r (aoA r))) (by intro u1 u2 u3 w' e hu1 hu2 hu3;obtain rfl:u1=_:=hu1;obtain rfl:u2=_:=hu2;obtain rfl:u3=_:=hu3;exact hdo w' e) ?_))|(refine yN hK ?_;clear hK K))|refine wG ?_|(refine yR ?_;intro K hK)|(refine oPX ?_;first|exact c1A rfl rfl rfl rfl rfl (by assumption))|fail)
theorem bqB {w:World} {vc vo:Value} {p q:Nat→Bool} {kc ko:Int} (hc:Cn A w vc p kc) (ho:Cn A w vo q ko) (hT:Tab w) (hA:Fsh A w) :
 Fc Tryz.prog 73 #[vc,vo] w (Ret w (.pred (cnP A (two (λ x y=>!(x == y)) p q) (aoA (two (λ x y=>!(x == y)) p q))))):=by
 have hr:two (λ x y=>!(x == y)) p q 65536=false:=by unfold two;rw [hc.1,ho.1];rfl
 have hdo:∀ w',Ext w w'→_:=λ w' e=>do_c (hc.ext e) (ho.ext e) (uyA hc.1 ho.1) hr (hT.ext e) (hA.ext e)
 have hk1:∀ w',Ext w w'→_:=λ w' e=>e5A (hc.ext e)
 have hk2:∀ w',Ext w w'→_:=λ w' e=>e5A (ho.ext e)
 obtain ⟨r,hrr⟩:∃ r,r=two (λ x y=>!(x == y)) p q:=⟨_,rfl⟩;rw [← hrr] at hr hdo ⊢;obtain ⟨kd,va,vw,vr,rfl,-,-,-,-,k1,k2,-⟩:=hc.parts;obtain ⟨kd',va',vw',vr',rfl,-,-,-,-,k1',k2',-⟩:=ho.parts
 ·skip
  refine Fc.of (args:=[_,_]) Tryz.func73 rfl rfl Tryz.ntmps73 nZ ?_
  repeat' (first|(refine yL ?_;first|refine a0A rfl ?_|refine d9A ?_|refine b4A rfl (λ _=>rfl) ?_|refine c0A (c:=.agg #[.func (.func 107) #[] #[],.func (.func 108) #[] #[],.func (.func 109) #[] #[]]) rfl rfl rfl rfl (λ _=>by kernel_rfl) ?_|(refine a4A (hK _ _ (bsA (φ:=cnP A r (aoA r)) (w0:=w) rfl rfl rfl auA (λ v' w' e hv=>hv) rfl (λ _=>rfl) (Ext.refl _) (λ w' e'=>?_)));clear hK K)|refine yO ?_|(refine yC ?_ ?_<;>intro hc)|(refine yV ?_;first|(refine oC 57 ?_;refine oD 999 ?_;refine a2A (f:=57) rfl rfl rfl _ (by intro u1 w' e hu1;obtain rfl:u1=_:=hu1;exact hk1 w' e) ?_)|(refine oC 57 ?_;refine oD 998 ?_;refine a2A (f:=57) rfl rfl rfl _ (by intro u1 w' e hu1;obtain rfl:u1=_:=hu1;exact hk2 w' e) ?_)|(refine oC 94 ?_;refine alA (f:=94) rfl rfl rfl rfl rfl (.pred (cnP A r (aoA r))) (by intro u1 u2 u3 w' e hu1 hu2 hu3;obtain rfl:u1=_:=hu1;obtain rfl:u2=_:=hu2;obtain rfl:u3=_:=hu3;exact hdo w' e) ?_))|(refine yN hK ?_;clear hK K))|refine wG ?_|(refine yR ?_;intro K hK)|(refine oPX ?_;first|exact c1A rfl rfl rfl rfl rfl (by assumption))|fail)
end Go.Proofs.YtlnaebejmjmepaaGreatDoor
end
section
namespace Go.Proofs.YtlnaebejmjmepaaGreatDoor
open Go.LA Go.ArrP Go.RowKit
variable {A:Nat→Prop}
theorem l9A {w:World} {vo:Value} {q:Nat→Bool} {ko:Int} (ho:Cn A w vo q ko):Tells w (.func (.func 86) #[vo] #[]) q:=λ w' e x hx=>Clb.bound1 (unA (ho.ext e) hx)
theorem btB {w:World} {vc vo:Value} {p q:Nat→Bool} {kc ko:Int} (hc:Cn A w vc p kc) (ho:Cn A w vo q ko) (hT:Tab w) (hA:Fsh A w) :
 Fc Tryz.prog 71 #[vc,vo] w (Ret w (.pred (cnP A (two (λ x y=>x && y) p q) (aoA (two (λ x y=>x && y) p q))))):=by
 have hr:two (λ x y=>x && y) p q 65536=false:=by unfold two;rw [hc.1,ho.1];rfl
 have hdo:∀ w',Ext w w'→_:=λ w' e=>do_c (hc.ext e) (ho.ext e) (uzA hc.1 ho.1) hr (hT.ext e) (hA.ext e)
 have hk1:∀ w',Ext w w'→_:=λ w' e=>e5A (hc.ext e)
 have hk2:∀ w',Ext w w'→_:=λ w' e=>e5A (ho.ext e)
 have ht1:=l9A hc;have ht2:=l9A ho;have e1:(λ i=>p i && q i)=two (λ x y=>x && y) p q:=rfl;have e2:(λ i=>q i && p i)=two (λ x y=>x && y) p q:=funext λ i=>Bool.and_comm _ _
 obtain ⟨r,hrr⟩:∃ r,r=two (λ x y=>x && y) p q:=⟨_,rfl⟩;rw [← hrr] at hr hdo e1 e2 ⊢
 by_cases hk:kc=1
 ·obtain ⟨kd',va',vw',vr',rfl,-,-,-,-,k1',k2',-⟩:=ho.parts
  obtain ⟨hp,⟨-,kd,va,hkd,rfl,h1⟩|⟨h9,-⟩|⟨h9,-⟩⟩:=hc
  ·have hs:∀ w',Ext w w'→_:=λ w' e=>puA (h1.ext e).slI hp (ht2.ext e) (hT.ext e) (hA.ext e)
   rw [e1] at hs;refine Fc.of (args:=[_,_]) Tryz.func71 rfl rfl Tryz.ntmps71 nZ ?_
   repeat' (first|(refine yL ?_;first|refine a0A rfl ?_|refine d9A ?_|(refine l2A rfl rfl ?_)|refine b4A rfl (λ _=>rfl) ?_|refine c0A (c:=.agg #[.func (.func 100) #[] #[],.func (.func 101) #[] #[],.func (.func 102) #[] #[]]) rfl rfl rfl rfl (λ _=>by kernel_rfl) ?_|(refine a4A (hK _ _ (bsA (φ:=cnP A r (aoA r)) (w0:=w) rfl rfl rfl auA (λ v' w' e hv=>hv) rfl (λ _=>rfl) (Ext.refl _) (λ w' e'=>?_)));clear hK K)|refine yO ?_|(refine yC ?_ ?_<;>intro hc)|(refine yV ?_;first|(refine oC 99 ?_;refine a3A (f:=99) rfl rfl rfl rfl (.pred (cnP A r (aoA r))) (by intro u1 u2 w' e hu1 hu2;obtain rfl:u1=_:=hu1;obtain rfl:u2=_:=hu2;exact hs w' e) ?_)|(refine oC 57 ?_;refine oD 7 ?_;refine a2A (f:=57) rfl rfl rfl _ (by intro u1 w' e hu1;obtain rfl:u1=_:=hu1;exact hk1 w' e) ?_)|(refine oC 57 ?_;refine oD 16 ?_;refine a2A (f:=57) rfl rfl rfl _ (by intro u1 w' e hu1;obtain rfl:u1=_:=hu1;exact hk2 w' e) ?_)|(refine oC 94 ?_;refine alA (f:=94) rfl rfl rfl rfl rfl (.pred (cnP A r (aoA r))) (by intro u1 u2 u3 w' e hu1 hu2 hu3;obtain rfl:u1=_:=hu1;obtain rfl:u2=_:=hu2;obtain rfl:u3=_:=hu3;exact hdo w' e) ?_))|(refine yN hK ?_;clear hK K))|refine wG ?_|(refine yR ?_;intro K hK)|(refine oPX ?_;first|exact c1A rfl rfl rfl rfl rfl (by assumption))|fail)
  ·omega
  ·omega
 ·by_cases hk':ko=1
  ·obtain ⟨kd,va,vw,vr,rfl,-,-,-,-,k1,k2,-⟩:=hc.parts
   obtain ⟨hp,⟨-,kd',va',hkd',rfl,h1⟩|⟨h9,-⟩|⟨h9,-⟩⟩:=ho
   ·have hs:∀ w',Ext w w'→_:=λ w' e=>puA (h1.ext e).slI hp (ht1.ext e) (hT.ext e) (hA.ext e)
    rw [e2] at hs;refine Fc.of (args:=[_,_]) Tryz.func71 rfl rfl Tryz.ntmps71 nZ ?_
    repeat' (first|(refine yL ?_;first|refine a0A rfl ?_|refine d9A ?_|(refine l2A rfl rfl ?_)|refine b4A rfl (λ _=>rfl) ?_|refine c0A (c:=.agg #[.func (.func 100) #[] #[],.func (.func 101) #[] #[],.func (.func 102) #[] #[]]) rfl rfl rfl rfl (λ _=>by kernel_rfl) ?_|(refine a4A (hK _ _ (bsA (φ:=cnP A r (aoA r)) (w0:=w) rfl rfl rfl auA (λ v' w' e hv=>hv) rfl (λ _=>rfl) (Ext.refl _) (λ w' e'=>?_)));clear hK K)|refine yO ?_|(refine yC ?_ ?_<;>intro hc)|(refine yV ?_;first|(refine oC 99 ?_;refine a3A (f:=99) rfl rfl rfl rfl (.pred (cnP A r (aoA r))) (by intro u1 u2 w' e hu1 hu2;obtain rfl:u1=_:=hu1;obtain rfl:u2=_:=hu2;exact hs w' e) ?_)|(refine oC 57 ?_;refine oD 7 ?_;refine a2A (f:=57) rfl rfl rfl _ (by intro u1 w' e hu1;obtain rfl:u1=_:=hu1;exact hk1 w' e) ?_)|(refine oC 57 ?_;refine oD 16 ?_;refine a2A (f:=57) rfl rfl rfl _ (by intro u1 w' e hu1;obtain rfl:u1=_:=hu1;exact hk2 w' e) ?_)|(refine oC 94 ?_;refine alA (f:=94) rfl rfl rfl rfl rfl (.pred (cnP A r (aoA r))) (by intro u1 u2 u3 w' e hu1 hu2 hu3;obtain rfl:u1=_:=hu1;obtain rfl:u2=_:=hu2;obtain rfl:u3=_:=hu3;exact hdo w' e) ?_))|(refine yN hK ?_;clear hK K))|refine wG ?_|(refine yR ?_;intro K hK)|(refine oPX ?_;first|exact c1A rfl rfl rfl rfl rfl (by assumption))|fail)
   ·omega
   ·omega
  ·obtain ⟨kd,va,vw,vr,rfl,-,-,-,-,k1,k2,-⟩:=hc.parts
   obtain ⟨kd',va',vw',vr',rfl,-,-,-,-,k1',k2',-⟩:=ho.parts;have hs:True:=trivial;refine Fc.of (args:=[_,_]) Tryz.func71 rfl rfl Tryz.ntmps71 nZ ?_
   repeat' (first|(refine yL ?_;first|refine a0A rfl ?_|refine d9A ?_|(refine l2A rfl rfl ?_)|refine b4A rfl (λ _=>rfl) ?_|refine c0A (c:=.agg #[.func (.func 100) #[] #[],.func (.func 101) #[] #[],.func (.func 102) #[] #[]]) rfl rfl rfl rfl (λ _=>by kernel_rfl) ?_|(refine a4A (hK _ _ (bsA (φ:=cnP A r (aoA r)) (w0:=w) rfl rfl rfl auA (λ v' w' e hv=>hv) rfl (λ _=>rfl) (Ext.refl _) (λ w' e'=>?_)));clear hK K)|refine yO ?_|(refine yC ?_ ?_<;>intro hc)|(refine yV ?_;first|(refine oC 99 ?_;refine a3A (f:=99) rfl rfl rfl rfl (.pred (cnP A r (aoA r))) (by intro u1 u2 w' e hu1 hu2;obtain rfl:u1=_:=hu1;obtain rfl:u2=_:=hu2;exact hs w' e) ?_)|(refine oC 57 ?_;refine oD 7 ?_;refine a2A (f:=57) rfl rfl rfl _ (by intro u1 w' e hu1;obtain rfl:u1=_:=hu1;exact hk1 w' e) ?_)|(refine oC 57 ?_;refine oD 16 ?_;refine a2A (f:=57) rfl rfl rfl _ (by intro u1 w' e hu1;obtain rfl:u1=_:=hu1;exact hk2 w' e) ?_)|(refine oC 94 ?_;refine alA (f:=94) rfl rfl rfl rfl rfl (.pred (cnP A r (aoA r))) (by intro u1 u2 u3 w' e hu1 hu2 hu3;obtain rfl:u1=_:=hu1;obtain rfl:u2=_:=hu2;obtain rfl:u3=_:=hu3;exact hdo w' e) ?_))|(refine yN hK ?_;clear hK K))|refine wG ?_|(refine yR ?_;intro K hK)|(refine oPX ?_;first|exact c1A rfl rfl rfl rfl rfl (by assumption))|fail)
end Go.Proofs.YtlnaebejmjmepaaGreatDoor
end
section
namespace Go.Proofs.YtlnaebejmjmepaaGreatDoor
open Go.LA Go.ArrP Go.RowKit
variable {A:Nat→Prop}
section
variable {P:Program} {l:List Oper} {wb:World} {K:List Oper→Env→Prop} {rest:List Oper} {E:Env} {d:Tmp} {ty t:TypeId} {pos:String} {after:Array Edge} {g:Option (Nat × Bool)} {x:Operand}
theorem slA {c0 c1 c2 c3:Value} {p:Addr} (hg:bmA l E g=some true) (ht:∀ w,(isAgg t).run P w=.ok true w) (hs:∀ w,(sizeOf t).run P w=.ok 4 w) (hx:opE E x=.val (.pointer (some p))) (hc:∀ (j:Nat) (c:Value),([c0,c1,c2,c3]:List Value)[j]?=some c→wb.cell? (p.add j)=some c)
 (h:LA P l wb K rest ((d,.val (.agg #[c0,c1,c2,c3]))::E)):LA P l wb K (⟨some d,.load t x,ty,pos,after,g⟩::rest) E :=
 bhA _ hg (bwA λ a w he hh=>by
  have h1:=hh x (by simp [Op.operands]);rw [hx] at h1;simp only [AD.ok] at h1;have hl:=run_loadCells_list (P:=P) w p [c0,c1,c2,c3] (λ j v hj=>he.cell (hc j v hj));simp only [List.length_cons,List.length_nil,Nat.zero_add,Nat.reduceAdd] at hl;simp only [execOp,h1,Instr.loadAt,Instr.sureAddr,loadVar,Sem.run_bind,Sem.run_pure,Result.andThen_ok,ht,if_true,hs,hl]) h
end
theorem s0A {w:World} {a:Value} {c0 c1 c2 c3:Value} {q:Nat→Bool} {ko:Int} {x:Nat} (hc:(hpA [c0,c1,c2,c3]).p a w) (ho:Cn A w (.agg #[c0,c1,c2,c3]) q ko) (hx:x<65536) :
 Fc Tryz.prog 103 #[.int .u16 x,a] w (Ret w (.val (.bool (!q x)))):=by
 have h0:∀ w',Ext w w'→_:=λ w' e=>unA (ho.ext e) hx
 obtain ⟨p0,rfl,hc⟩:=hc;refine Fc.of (args:=[_,_]) Tryz.func103 rfl rfl Tryz.ntmps103 nZ ?_
 repeat' (first|(refine yL ?_;first|refine a0A rfl ?_|(refine oLd ?_;refine slA rfl (λ _=>rfl) (λ _=>rfl) rfl hc ?_)|refine yO ?_|(refine yC ?_ ?_<;>intro hc)|(refine yV ?_;first|(refine oC 86 ?_;refine a3A (f:=86) rfl rfl rfl rfl  (.val (.bool (q x))) (by intro u1 u2 w e hu1 hu2;(try obtain rfl:u1=_:=hu1);(try obtain rfl:u2=_:=hu2);exact h0 _ e) ?_))|(refine yN hK ?_;clear hK K))|refine wG ?_|(refine yR ?_;intro K hK)|(refine oPX ?_;first|exact a9A rfl rfl (Ext.refl _) rfl)|fail)
theorem pmA {w:World} {u:Value} {c0 c1 c2 c3:Value} {q:Nat→Bool} {ko:Int} (ho:Cn A w (.agg #[c0,c1,c2,c3]) q ko) (hu:(holds 103 (.pred (hpA [c0,c1,c2,c3]))).p u w):Tells w u (λ i=>!q i):=by
 obtain ⟨c,rfl,hc⟩:=hu;exact λ w' e x hx=>Clb.of1 (s0A ((hpA [c0,c1,c2,c3]).mono _ _ _ e hc) (ho.ext e) hx)
theorem rvA {w:World} {vc vo:Value} {p q:Nat→Bool} {kc ko:Int} (hc:Cn A w vc p kc) (ho:Cn A w vo q ko) (hT:Tab w) (hA:Fsh A w) :
 Fc Tryz.prog 72 #[vc,vo] w (Ret w (.pred (cnP A (two (λ x y=>x && !y) p q) (aoA (two (λ x y=>x && !y) p q))))):=by
 have hr:two (λ x y=>x && !y) p q 65536=false:=by unfold two;rw [hc.1,ho.1];rfl
 have hdo:∀ w',Ext w w'→_:=λ w' e=>do_c (hc.ext e) (ho.ext e) (mlA hc.1 ho.1) hr (hT.ext e) (hA.ext e)
 have hk1:∀ w',Ext w w'→_:=λ w' e=>e5A (hc.ext e)
 have hk2:∀ w',Ext w w'→_:=λ w' e=>e5A (ho.ext e)
 have e1:(λ i=>p i && !q i)=two (λ x y=>x && !y) p q:=rfl;obtain ⟨r,hrr⟩:∃ r,r=two (λ x y=>x && !y) p q:=⟨_,rfl⟩;rw [← hrr] at hr hdo e1 ⊢
 by_cases hk:kc=1
 ·obtain ⟨kd',va',vw',vr',rfl,-,-,-,-,k1',k2',-⟩:=ho.parts
  obtain ⟨hp,⟨-,kd,va,hkd,rfl,h1⟩|⟨h9,-⟩|⟨h9,-⟩⟩:=hc
  ·have hs:∀ w' u,Ext w w'→(holds 103 (.pred (hpA [.int .u8 kd',va',vw',vr']))).p u w'→_:=λ w' u e hu=>puA (q:=λ i=>!q i) (h1.ext e).slI hp (pmA (ho.ext e) hu) (hT.ext e) (hA.ext e)
   rw [e1] at hs;refine Fc.of (args:=[_,_]) Tryz.func72 rfl rfl Tryz.ntmps72 nZ ?_
   repeat' (first|(refine yL ?_;first|refine a0A rfl ?_|refine d9A ?_|(refine kzA rfl rfl ?_)|refine b4A rfl (λ _=>rfl) ?_|refine c0A (c:=.agg #[.func (.func 104) #[] #[],.func (.func 105) #[] #[],.func (.func 106) #[] #[]]) rfl rfl rfl rfl (λ _=>by kernel_rfl) ?_|(refine a4A (hK _ _ (bsA (φ:=cnP A r (aoA r)) (w0:=w) rfl rfl rfl auA (λ v' w' e hv=>hv) rfl (λ _=>rfl) (Ext.refl _) (λ w' e'=>?_)));clear hK K)|refine yO ?_|(refine yC ?_ ?_<;>intro hc)|(refine yV ?_;first|(refine oC 99 ?_;refine a3A (f:=99) rfl rfl rfl rfl (.pred (cnP A r (aoA r))) (by intro u1 u2 w' e hu1 hu2;obtain rfl:u1=_:=hu1;exact hs w' _ e hu2) ?_)|(refine oC 57 ?_;refine oD 6 ?_;refine a2A (f:=57) rfl rfl rfl _ (by intro u1 w' e hu1;obtain rfl:u1=_:=hu1;exact hk1 w' e) ?_)|(refine oC 57 ?_;refine oD 998 ?_;refine a2A (f:=57) rfl rfl rfl _ (by intro u1 w' e hu1;obtain rfl:u1=_:=hu1;exact hk2 w' e) ?_)|(refine oC 94 ?_;refine alA (f:=94) rfl rfl rfl rfl rfl (.pred (cnP A r (aoA r))) (by intro u1 u2 u3 w' e hu1 hu2 hu3;obtain rfl:u1=_:=hu1;obtain rfl:u2=_:=hu2;obtain rfl:u3=_:=hu3;exact hdo w' e) ?_))|(refine yN hK ?_;clear hK K))|refine wG ?_|(refine yR ?_;intro K hK)|(refine oPX ?_;first|exact c1A rfl rfl rfl rfl rfl (by assumption))|fail)
  ·omega
  ·omega
 ·obtain ⟨kd,va,vw,vr,rfl,-,-,-,-,k1,k2,-⟩:=hc.parts
  obtain ⟨kd',va',vw',vr',rfl,-,-,-,-,k1',k2',-⟩:=ho.parts;have hs:True:=trivial
  ·skip
   refine Fc.of (args:=[_,_]) Tryz.func72 rfl rfl Tryz.ntmps72 nZ ?_
   repeat' (first|(refine yL ?_;first|refine a0A rfl ?_|refine d9A ?_|(refine kzA rfl rfl ?_)|refine b4A rfl (λ _=>rfl) ?_|refine c0A (c:=.agg #[.func (.func 104) #[] #[],.func (.func 105) #[] #[],.func (.func 106) #[] #[]]) rfl rfl rfl rfl (λ _=>by kernel_rfl) ?_|(refine a4A (hK _ _ (bsA (φ:=cnP A r (aoA r)) (w0:=w) rfl rfl rfl auA (λ v' w' e hv=>hv) rfl (λ _=>rfl) (Ext.refl _) (λ w' e'=>?_)));clear hK K)|refine yO ?_|(refine yC ?_ ?_<;>intro hc)|(refine yV ?_;first|(refine oC 99 ?_;refine a3A (f:=99) rfl rfl rfl rfl (.pred (cnP A r (aoA r))) (by intro u1 u2 w' e hu1 hu2;obtain rfl:u1=_:=hu1;exact hs w' _ e hu2) ?_)|(refine oC 57 ?_;refine oD 6 ?_;refine a2A (f:=57) rfl rfl rfl _ (by intro u1 w' e hu1;obtain rfl:u1=_:=hu1;exact hk1 w' e) ?_)|(refine oC 57 ?_;refine oD 998 ?_;refine a2A (f:=57) rfl rfl rfl _ (by intro u1 w' e hu1;obtain rfl:u1=_:=hu1;exact hk2 w' e) ?_)|(refine oC 94 ?_;refine alA (f:=94) rfl rfl rfl rfl rfl (.pred (cnP A r (aoA r))) (by intro u1 u2 u3 w' e hu1 hu2 hu3;obtain rfl:u1=_:=hu1;obtain rfl:u2=_:=hu2;obtain rfl:u3=_:=hu3;exact hdo w' e) ?_))|(refine yN hK ?_;clear hK K))|refine wG ?_|(refine yR ?_;intro K hK)|(refine oPX ?_;first|exact c1A rfl rfl rfl rfl rfl (by assumption))|fail)
end Go.Proofs.YtlnaebejmjmepaaGreatDoor
end
section
namespace Go.Proofs.YtlnaebejmjmepaaGreatDoor
open Go.LA Go.ArrP Go.RowKit
theorem xrA {w:World} {v:Value} {base:Nat} {p:Nat→Bool} (h:MkI base tM w v p):Fc Tryz.prog 58 #[v] w (Ret w (.val (.int .u8 (aoA p)))):=by
 obtain ⟨n,r,kq,en,er,eq,h1,h2,hK⟩:=jiA p;have hl:∀ w',Ext w w'→_:=λ w' e=>qoA w' v base p (h.ext e)
 have hm:∀ w',Ext w w'→_:=λ w' e=>ycA w' v base p (h.ext e)
 have hln:(adA p 65536).length=n:=by rw [baA];exact en
 rw [er] at hm;rw [eq];obtain ⟨xs,hxs⟩:∃ xs,xs=adA p 65536:=⟨_,rfl⟩;rw [← hxs] at hl hln;clear en er eq hxs
 rcases hK with ⟨a1,a2,rfl⟩|⟨a1,a2,rfl⟩|⟨a1,a2,rfl⟩|⟨a1,a2,rfl⟩
 all_goals
  refine Fc.of (args:=[_]) Tryz.func58 rfl rfl Tryz.ntmps58 nZ ?_
  repeat' (first|(refine yL ?_;first|refine a0A rfl ?_|(refine c7A ?_;refine asA rfl _ rfl rfl HasI.own.c ?_;rw [hln])|refine yO ?_|(refine yC ?_ ?_<;>intro hc)|(refine yV ?_;first|(refine oC 59 ?_;refine a2A (f:=59) rfl rfl rfl  (.pred (bnA _ 40 .u16 xs)) (by intro u1 w e hu1;(try obtain rfl:u1=_:=hu1);exact (hl _ e).mono (aaA e.size)) ?_)|(refine oC 87 ?_;refine a2A (f:=87) rfl rfl rfl  (.val (.int .i64 r)) (by intro u1 w e hu1;(try obtain rfl:u1=_:=hu1);exact hm _ e) ?_))|(refine yN hK ?_;clear hK K))|refine wG ?_|(refine yR ?_;intro K hK)|(refine oPX ?_;first|exact a9A rfl rfl (Ext.refl _) rfl)|fail)
end Go.Proofs.YtlnaebejmjmepaaGreatDoor
end
