import Derived.Laws.StructEq
import Derived.Test.YtlnaebejmjmepaaGreatDoorM13
import Derived.Test.YtlnaebejmjmepaaGreatDoorM14
import Derived.Test.YtlnaebejmjmepaaGreatDoorM18
set_option linter.unusedSimpArgs false
set_option linter.unusedVariables false
set_option maxRecDepth 3000
set_option maxHeartbeats 16000000
section
namespace Go.Proofs.YtlnaebejmjmepaaGreatDoor
open Go.LA Go.ArrP Go.RowKit
variable {A B:Nat→Prop}
theorem has_s {w:World} {v:Value} {p:Nat→Bool} (h:NSet B A w v p) {x:Nat} (hx:x<4294967296):Fc Tryz.prog 52 #[v,.int .u32 x] w (Ret w (.val (.bool (p x)))):=by
 have hb:blk p (x / 65536) (x % 65536)=p x:=by rw [coA (Nat.mod_lt _ oZ)];congr 1;omega
 have e2:IntKind.u16.wrap (x:Int)=((x % 65536:Nat):Int):=by rw [IntKind.wrap_u16];omega
 have e1:(x:Int) / 65536=((x / 65536:Nat):Int):=oZ;have hx1:x / 65536<65536:=oZ;have hx2:x % 65536<65536:=Nat.mod_lt _ oZ;obtain ⟨k,hk⟩:∃ k,k=x / 65536:=⟨_,rfl⟩;obtain ⟨r,hr⟩:∃ r,r=x % 65536:=⟨_,rfl⟩;rw [← hk,← hr] at hb;rw [← hk] at e1 hx1;rw [← hr] at e2 hx2;clear hk hr;refine Fc.of (args:=[_,_]) Tryz.func52 rfl rfl Tryz.ntmps52 nZ ?_
 repeat' (first|(refine yL ?_;first|refine a0A rfl ?_|(refine oB .shr ?_;refine f0A rfl rfl rfl dZ dZ ?_;rw [show (2:Int) ^ Int.toNat 16=65536 by decide,e1])|(refine oD 11 ?_;refine dwA rfl rfl rfl rfl ?_;rw [e2])|refine yO ?_|(refine yC ?_ ?_<;>intro hc)|(refine yV ?_;first|(refine oC 64 ?_;refine a3A (f:=64) rfl rfl rfl rfl  (.pred (cnP A (blk p k) (aoA (blk p k)))) (by intro u1 u2 w e hu1 hu2;(try obtain rfl:u1=_:=hu1);(try obtain rfl:u2=_:=hu2);exact reA (h.ext e) hx1) ?_)|(refine oC 86 ?_;refine a3A (f:=86) rfl rfl rfl rfl  (.val (.bool (blk p k r))) (by intro u1 u2 w e hu1 hu2;(try obtain rfl:u1=_:=hu1);(try obtain rfl:u2=_:=hu2);exact unA hu1 hx2) ?_))|(refine yN hK ?_;clear hK K))|refine wG ?_|(refine yR ?_;intro K hK)|fail)
 exact a9A rfl rfl (Ext.refl _) (by rw [hb])
theorem at_s {w:World} {v:Value} {p:Nat→Bool} (h:NSet B A w v p) {i:Nat} (hi:i<nk p):Fc Tryz.prog 15 #[v,.int .i64 i] w (Ret w (.tup2 (.pred (cnP A (blk p (kp p i)) (aoA (blk p (kp p i))))) (.val (.bool true)))):=by
 obtain ⟨lv,Q,hP,hL⟩:=ihA h;have hnk:=fcA p;obtain ⟨b,kv,rfl,hb,hkk⟩:=hP.set oZ;obtain ⟨hat,hcn,h1⟩:=hP.at hi;refine Fc.of (args:=[_,_]) Tryz.func15 rfl rfl Tryz.ntmps15 nZ ?_
 repeat' (first|(refine yL ?_;first|refine a0A rfl ?_|(refine oAl ?_;refine b4A rfl (λ _=>rfl) ?_)|(refine c7A ?_;refine asA rfl _ rfl rfl (HasC.ownV hP.own) ?_)|(refine oNc ?_;refine afA rfl rfl ?_)|(refine oF 0 ?_;refine a1A (a':=⟨b,0,none⟩) rfl rfl (λ _=>rfl) ?_)|(refine oF 1 ?_;refine a1A (a':=⟨b,1,none⟩) rfl rfl (λ _=>rfl) ?_)|(refine oLt 22 ?_;refine a5A (c:=kv) rfl (λ _=>rfl) rfl hb rfl ?_)|(refine oLt 26 ?_;refine a5A (c:=lv) rfl (λ _=>rfl) rfl hb rfl ?_)|(refine oI ?_;refine c3A (s:=4) rfl _ rfl (λ _=>rfl) rfl (HasC.ownV hP.own) rfl i rfl oZ ?_;rw [hat])|(refine oLt 32 ?_;refine akA (cs:=qcs _) rfl (λ _=>rfl) (λ _=>rfl) rfl ?_)|(refine a4A (hK _ _ (bsA (φ:=cnP A (blk p (kp p i)) (aoA (blk p (kp p i)))) (w0:=w) rfl rfl rfl auA (λ v' w' e hv=>by obtain rfl:v'=_:=hv;exact hcn.ext e) rfl (λ _=>rfl) (Ext.refl _) (λ w' e'=>?_)));clear hK K;refine aiA kZ (λ K hK=>?_))|refine yO ?_|(refine yC ?_ ?_<;>intro hc)|(refine yV ?_;first|(refine oC 60 ?_;refine a2A (f:=60) rfl rfl rfl  (.val lv) (by intro u1 w e hu1;(try obtain rfl:u1=_:=hu1);exact hL _ e) ?_))|(refine yN hK ?_;clear hK K))|refine wG ?_|(refine yR ?_;intro K hK)|fail)
 all_goals exact f4A rfl rfl rfl rfl rfl rfl (by assumption)
theorem bvB {w:World} {v:Value} {p:Nat→Bool} (h:NSet B A w v p) {i:Int} (hi:i<0∨(nk p:Int)≤i):Fc Tryz.prog 15 #[v,.int .i64 i] w (Ret w (.tup2 (.pred (cnP A (λ _=>false) 1)) (.val (.bool false)))):=by
 obtain ⟨lv,Q,hP,hL⟩:=ihA h
 by_cases h0:i<0
 ·refine Fc.of (args:=[_,_]) Tryz.func15 rfl rfl Tryz.ntmps15 nZ ?_
  repeat' (first|(refine yL ?_;first|refine a0A rfl ?_|(refine oAl ?_;refine b4A rfl (λ _=>rfl) ?_)|refine ejA (c:=.agg #[.int .u8 0,nilS,nilS,nilS]) rfl (λ _=>by kernel_rfl) ?_|(refine a4A (hK _ _ (bsA (φ:=cnP A (λ _=>false) 1) (w0:=w) rfl rfl rfl auA (λ v' w' e hv=>by obtain rfl:v'=_:=hv;exact Cn.zero) rfl (λ _=>rfl) (Ext.refl _) (λ w' e'=>?_)));clear hK K;refine aiA kZ (λ K hK=>?_))|refine yO ?_|(refine yC ?_ ?_<;>intro hc)|(refine yN hK ?_;clear hK K))|refine wG ?_|(refine yR ?_;intro K hK)|fail)
  all_goals exact f4A rfl rfl rfl rfl rfl rfl (by assumption)
 ·have h1:(nk p:Int)≤i:=oZ
  refine Fc.of (args:=[_,_]) Tryz.func15 rfl rfl Tryz.ntmps15 nZ ?_
  repeat' (first|(refine yL ?_;first|refine a0A rfl ?_|(refine oAl ?_;refine b4A rfl (λ _=>rfl) ?_)|(refine c7A ?_;refine asA rfl _ rfl rfl (HasC.ownV hP.own) ?_)|refine ejA (c:=.agg #[.int .u8 0,nilS,nilS,nilS]) rfl (λ _=>by kernel_rfl) ?_|(refine a4A (hK _ _ (bsA (φ:=cnP A (λ _=>false) 1) (w0:=w) rfl rfl rfl auA (λ v' w' e hv=>by obtain rfl:v'=_:=hv;exact Cn.zero) rfl (λ _=>rfl) (Ext.refl _) (λ w' e'=>?_)));clear hK K;refine aiA kZ (λ K hK=>?_))|refine yO ?_|(refine yC ?_ ?_<;>intro hc)|(refine yV ?_;first|(refine oC 60 ?_;refine a2A (f:=60) rfl rfl rfl  (.val lv) (by intro u1 w e hu1;(try obtain rfl:u1=_:=hu1);exact hL _ e) ?_))|(refine yN hK ?_;clear hK K))|refine wG ?_|(refine yR ?_;intro K hK)|fail)
  all_goals exact f4A rfl rfl rfl rfl rfl rfl (by assumption)
theorem RS.self {A:Nat→Prop} {w:World} {b:Nat} {kv lv:Value} {p:Nat→Bool} (h:RS A w b kv lv p):RS (λ k=>A k∧kv.ownBlock≠some k) w b kv lv p:=h.mono λ k _ ha hb=>⟨ha,hb⟩
theorem bsB {w:World} {v:Value} {p:Nat→Bool} (h:NSet B A w v p) {B' A':Nat→Prop} (hB:Fsh B' w) (hA:∀ k,k<w.heap.size→A k→A' k):Fc Tryz.prog 21 #[v] w (Ret w (.pred (rsP B' A' p))):=by
 obtain ⟨lv,Q,hP,hL⟩:=ihA h;have htop:=hrA h;have hnk:=fcA p;have hq1:∀ c ∈ bbA Q,c.oneCell'=true:=λ c hc=>by
  obtain ⟨j,j1,j2⟩:=h5A Q c hc;exact (hP.at (by have:=hP.len;omega)).2.2 c j2
 refine Fc.of (args:=[_]) Tryz.func21 rfl rfl Tryz.ntmps21 nZ ?_
 repeat' (first|(refine yL ?_;first|refine a0A rfl ?_|refine yO ?_|(refine yC ?_ ?_<;>intro hc)|(refine yV ?_;first|(refine oC 14 ?_;refine a2A (f:=14) rfl rfl rfl  (.pred (bnA w.heap.size tK .u16 (b9A p))) (by intro u1 w e hu1;(try obtain rfl:u1=_:=hu1);exact (ikA (h.ext e)).mono (aaA e.size)) ?_)|(refine oC 39 ?_;refine a2A (f:=39) rfl rfl rfl  (.pred (bnA w.heap.size tK .u16 (b9A p))) (by intro u1 w e hu1;(try obtain rfl:u1=_:=hu1);exact (ftA _ _ _ (OwnI.slI hu1) (by rw [brA];exact hnk)).mono (aaA e.size)) ?_)|(refine oC 60 ?_;refine a2A (f:=60) rfl rfl rfl  (.val lv) (by intro u1 w e hu1;(try obtain rfl:u1=_:=hu1);exact hL _ e) ?_)|(refine oC 62 ?_;refine a2A (f:=62) rfl rfl rfl  (.pred (hqA w.heap.size tC 4 (nk p) (bbA Q))) (by intro u1 w e hu1;(try obtain rfl:u1=_:=hu1);exact (rrA _ _ _ _ (hP.own.ext e).slC hq1 oZ).mono (lgA e.size)) ?_))|(refine yN hK ?_;clear hK K))|refine wG ?_|(refine yR ?_;intro K hK)|fail)
 refine a4A (hK _ _ (bkA 8 rfl (λ v8 w8 e8 h8=>bkA 5 rfl (λ v5 w5 e5 h5=>?_))));clear hK K;replace h8:Own w.heap.size tC 4 w5 v8 (nk p) (bbA Q):=Own.ext h8 e5;replace h5:OwnI w.heap.size tK .u16 w5 v5 (b9A p):=h5;obtain ⟨a8,c8,rfl⟩:=h8.slC.isSlice;obtain ⟨a5,c5,rfl⟩:=h5.slI.isSlice;refine aiA kZ (λ K hK=>cqA (c:=.agg #[.slice a5 (b9A p).length c5,.slice a8 (nk p) c8]) rfl rfl rfl (λ _=>by kernel_rfl) ?_)
 repeat' (first|(refine yL ?_;first|refine a0A rfl ?_|refine j3A rfl rfl ?_|refine yO ?_|(refine yC ?_ ?_<;>intro hc)|(refine yN hK ?_;clear hK K))|refine wG ?_|(refine yR ?_;intro K hK)|fail)
 have x5:=e8.trans e5;refine ajA rfl rfl x5 (λ v w' e hv=>?_);obtain ⟨b,hb,rfl,hh⟩:=hv;have ge5:=λ k hk=>(Own.lt h5 k hk).1
 have ge8:=λ k hk=>(Own.lt h8 k hk).1
 refine ⟨b,_,_,rfl,⟨hh,Own.base (h5.ext e) (Nat.zero_le _),htop,Q,hP.len,Own.base (h8.ext e) (Nat.zero_le _),λ i hi=>?_⟩,λ k hk=>hB k ?_⟩
 ·exact ((hP.cn i hi).mono λ k hk ha=>⟨hA k hk ha,λ h=>by have:=ge5 k h;omega⟩).ext (x5.trans e)
 ·have:=x5.size
  rcases hk with rfl|hk|hk
  ·omega
  ·exact ge5 k hk
  ·exact ge8 k hk
end Go.Proofs.YtlnaebejmjmepaaGreatDoor
end
section
namespace Go.Proofs.YtlnaebejmjmepaaGreatDoor
open Go.LA Go.ArrP Go.RowKit
variable {A B:Nat→Prop}
theorem vfA (x:Nat) (hx:x<18446744073709551616):bits .and .u64 (x:Int) 65535=((x % 65536:Nat):Int):=by
 rw [lyA x 65535 hx dZ (x:=(x:Int)) (y:=65535) rfl rfl,show (65535:Nat)=2 ^ 16-1 from rfl,Nat.and_two_pow_sub_one_eq_mod]
theorem wcA {w:World} {v:Value} {p:Nat→Bool} (h:NSet B A w v p) {x:Nat} (hx:x<18446744073709551616):Fc Tryz.prog 37 #[v,.int .u64 x] w (Ret w (.val (.int .i64 (cnt p (min x TOP))))):=by
 obtain ⟨lv,Q,hP,hL⟩:=ihA h;have hlen:∀ w',Ext w w'→_:=λ w' e=>yjA (h.ext e)
 have hnk:=fcA p;have hct:=cnt_le p TOP;have htop:=crA
 by_cases hxt:4294967296≤x
 ·rw [show min x TOP=TOP by omega]
  refine Fc.of (args:=[_,_]) Tryz.func37 rfl rfl Tryz.ntmps37 nZ ?_
  repeat' (first|(refine yL ?_;first|refine a0A rfl ?_|refine yO ?_|(refine yC ?_ ?_<;>intro hc)|(refine yV ?_;first|(refine oC 36 ?_;refine a2A (f:=36) rfl rfl rfl  (.val (.int .i64 (cnt p TOP))) (by intro u1 w e hu1;(try obtain rfl:u1=_:=hu1);exact hlen _ e) ?_))|(refine yN hK ?_;clear hK K))|refine wG ?_|(refine yR ?_;intro K hK)|fail)
  exact a9A rfl rfl (Ext.refl _) rfl
 ·rw [show min x TOP=x by omega]
  have hm:=vfA x hx;have hdm:x=x / 65536*65536+x % 65536:=oZ;have hdm2:x / 65536*65536≤x∧x<(x / 65536+1)*65536:=oZ;have hr:=Nat.mod_lt x (show 0<65536 by omega);have e1:(x:Int) / 65536=((x / 65536:Nat):Int):=oZ;have hq:x / 65536<65536:=oZ;obtain ⟨X,hX⟩:∃ X,X=x / 65536:=⟨_,rfl⟩;obtain ⟨R,hR⟩:∃ R,R=x % 65536:=⟨_,rfl⟩;rw [← hX,← hR] at hdm;rw [← hX] at hdm2;rw [← hX] at e1 hq;rw [← hR] at hm hr;clear hX hR;refine Fc.of (args:=[_,_]) Tryz.func37 rfl rfl Tryz.ntmps37 nZ ?_
  repeat' (first|(refine yL ?_;first|refine a0A rfl ?_|(refine c7A ?_;refine asA rfl _ rfl rfl (HasC.ownV hP.own) ?_)|refine yO ?_|(refine yC ?_ ?_<;>intro hc)|(refine yV ?_;first|(refine oC 60 ?_;refine a2A (f:=60) rfl rfl rfl  (.val lv) (by intro u1 w e hu1;(try obtain rfl:u1=_:=hu1);exact hL _ e) ?_))|(refine yN hK ?_;clear hK K))|refine wG ?_|(refine yR ?_;intro K hK)|fail)
  refine b5A (ι:=Nat) (λ i=>[(0,.val v),(1,.val (.int .u64 x)),(5,.val (.int .i64 (cnt p (min x (kp p i*65536))))),(14,.val lv),(15,.val (.int .i64 (nk p))),(16,.val (.int .i64 i))]) (λ i=>i≤nk p) (λ i=>nk p-i) 0 (Nat.zero_le _) (by rw [axB];(repeat' (first|exact Sub.nil|(refine Sub.val rfl ?_ ?_;first|with_reducible rfl|(congr 1;omega))|refine Sub.same rfl ?_));done) ?_
  intro i hi
  by_cases hil:i<nk p
  ·obtain ⟨hat,hcn,h1⟩:=hP.at hil
   obtain ⟨b,kv,rfl,hb,hkv⟩:=hP.set oZ;obtain ⟨k1,k2,k3,k4⟩:=gnA hil;have hkl:=brA p;have hown:=hP.own;have f1:=xwA (x:=x) (X:=X) hil hdm2.1;have f2:=xyA (x:=x) (R:=R) hil;have f3:=xxA (x:=x) (X:=X) hil hdm2.2;have b1:=cnt_le p (min x (kp p i*65536));have b2:=cnt_le (blk p (kp p i)) 65536;have b3:=cnt_le (blk p (kp p i)) R;have b4:min x (kp p i*65536)≤x:=Nat.min_le_left _ _;have hcl:∀ w',Ext w w'→_:=λ w' e=>hkA (hcn.ext e)
   have hcr:∀ w',Ext w w'→_:=λ w' e=>awB (x:=R) (hcn.ext e) oZ
   obtain ⟨K0,hK0⟩:∃ K0,K0=kp p i:=⟨_,rfl⟩;obtain ⟨n0,hn0⟩:∃ n0,n0=cnt p (min x (kp p i*65536)):=⟨_,rfl⟩;obtain ⟨n1,hn1⟩:∃ n1,n1=cnt p (min x (kp p (i+1)*65536)):=⟨_,rfl⟩;obtain ⟨c1,hc1⟩:∃ c1,c1=cnt (blk p (kp p i)) 65536:=⟨_,rfl⟩;obtain ⟨c2,hc2⟩:∃ c2,c2=cnt (blk p (kp p i)) R:=⟨_,rfl⟩;rw [← hc1,← hn0,← hn1] at f1;rw [← hc2,← hn0,← hn1] at f2;rw [← hn0,← hn1] at f3;rw [← hn0] at b1 ⊢;rw [← hc1] at b2 hcl;rw [← hc2] at b3 hcr;rw [← hK0] at k1 k4 f1 f2 f3;clear hP k2 k3 hL hct hn0 hc1 hc2 hcn hlen h
   repeat' (first|(refine yL ?_;first|refine a0A rfl ?_|(refine oNc ?_;refine afA rfl rfl ?_)|(refine oF 0 ?_;refine a1A (a':=⟨b,0,none⟩) rfl rfl (λ _=>rfl) ?_)|(refine oF 1 ?_;refine a1A (a':=⟨b,1,none⟩) rfl rfl (λ _=>rfl) ?_)|(refine oLt 22 ?_;refine a5A (c:=kv) rfl (λ _=>rfl) rfl hb rfl ?_)|(refine oLt 26 ?_;refine a5A (c:=lv) rfl (λ _=>rfl) rfl hb rfl ?_)|(refine oI ?_;refine c3A (s:=4) rfl _ rfl (λ _=>rfl) rfl (HasC.ownV hown) rfl i rfl oZ ?_;rw [hat])|(refine oLt 32 ?_;refine akA (cs:=qcs _) rfl (λ _=>rfl) (λ _=>rfl) rfl ?_)|(refine oD 7 ?_;refine a4A (hK _ _ (kuA rfl rfl rfl dZ dZ (λ _=>rfl) (λ _=>rfl) rfl (λ _=>rfl) (λ _=>rfl) rfl h1 (λ bx wx ex hbx hbc=>?_)));clear hK K;replace hb:=ex.block hb;replace hkv:=hkv.ext ex;refine aiA kZ (λ K hK=>?_))|(refine oD 26 ?_;refine ahA rfl _ rfl (λ _=>rfl) rfl (HasI.ownV hkv) rfl oZ ?_;rw [k4])|(refine oD 46 ?_;refine clA (.inl rfl) rfl rfl rfl ?_;rw [hm])|(refine oB .shr ?_;refine f0A rfl rfl rfl dZ dZ ?_;rw [show (2:Int) ^ Int.toNat 16=65536 by decide,e1])|(refine oLt 32 ?_;refine bzA (n:=4) rfl hbc rfl rfl (λ _=>rfl) (λ _=>rfl) ?_)|refine yO ?_|(refine yC ?_ ?_<;>intro hc)|(refine yV ?_;first|(refine oC 47 ?_;refine a2A (f:=47) rfl rfl rfl  (.val (.int .i64 c1)) (by intro u1 w e hu1;(try obtain rfl:u1=_:=hu1);exact hcl _ (ex.trans e)) ?_)|(refine oC 77 ?_;refine a3A (f:=77) rfl rfl rfl rfl  (.val (.int .i64 c2)) (by intro u1 u2 w e hu1 hu2;(try obtain rfl:u1=_:=hu1);(try obtain rfl:u2=_:=hu2);exact hcr _ (ex.trans e)) ?_))|(refine yN hK ?_;clear hK K))|refine wG ?_|(refine yR ?_;intro K hK)|fail)
   ·exact j1A ex (i+1) hil oZ (by rw [← hn1,f1 oZ];(repeat' (first|exact Sub.nil|(refine Sub.val rfl ?_ ?_;first|with_reducible rfl|(congr 1;omega))|refine Sub.same rfl ?_));done)
   ·have e9:K0=X:=oZ
    have e8:=f2 (by rw [e9];exact hdm) hr;exact j1A ex (i+1) hil oZ (by rw [← hn1,e8];(repeat' (first|exact Sub.nil|(refine Sub.val rfl ?_ ?_;first|with_reducible rfl|(congr 1;omega))|refine Sub.same rfl ?_));done)
   ·exact j1A ex (i+1) hil oZ (by rw [← hn1,f3 oZ];(repeat' (first|exact Sub.nil|(refine Sub.val rfl ?_ ?_;first|with_reducible rfl|(congr 1;omega))|refine Sub.same rfl ?_));done)
  ·obtain rfl:i=nk p:=oZ
   rw [avB p oZ]
   repeat' (first|(refine yL ?_;first|refine a0A rfl ?_|refine yO ?_|(refine yC ?_ ?_<;>intro hc)|(refine yN hK ?_;clear hK K))|refine wG ?_|(refine yR ?_;intro K hK)|fail)
   exact a9A rfl rfl (Ext.refl _) rfl
end Go.Proofs.YtlnaebejmjmepaaGreatDoor
end
section
namespace Go.Proofs.YtlnaebejmjmepaaGreatDoor
open Go.LA Go.ArrP Go.RowKit
variable {A B:Nat→Prop}
theorem or32 (a b:Nat) (ha:a<65536) (hb:b<65536):bits .or .u32 ((a:Int)*65536) (b:Int)=(a:Int)*65536+b:=by
 have hx:2 ^ 16*a ||| b=2 ^ 16*a+b:=(Nat.two_pow_add_eq_or_of_lt oZ a).symm
 have h1:(BitVec.ofInt 32 ((a:Int)*65536)).toNat=2 ^ 16*a:=by
  rw [show ((a:Int)*65536)=((2 ^ 16*a:Nat):Int) by omega,BitVec.ofInt_natCast,BitVec.toNat_ofNat];exact Nat.mod_eq_of_lt oZ
 have h2:(BitVec.ofInt 32 (b:Int)).toNat=b:=by
  rw [BitVec.ofInt_natCast,BitVec.toNat_ofNat];exact Nat.mod_eq_of_lt oZ
 show IntKind.u32.wrap ((BitVec.ofInt 32 ((a:Int)*65536) ||| BitVec.ofInt 32 (b:Int)).toNat:Int)=_
 rw [BitVec.toNat_or,h1,h2,hx,IntKind.wrap_u32];omega
theorem xcA {q:Nat→Bool} {k:Int} (h0:0≤k) (h1:k<cnt q 65536):∃ r:Nat,r<65536∧q r=true∧k=cnt q r∧hjA q k=((r:Int),true):=by
 obtain ⟨r,r1,r2,r3,r4⟩:=h0A q (n:=65536) (k:=k.toNat) oZ;refine ⟨r,r1,r2,by omega,?_⟩;unfold hjA;rw [if_pos ⟨h0,h1⟩,r4]
theorem tbA {w:World} {v:Value} {p:Nat→Bool} (h:NSet B A w v p) (hT:Tab w) {k:Int} (hk:-9223372036854775808≤k∧k<9223372036854775808):Fc Tryz.prog 49 #[v,.int .i64 k] w (Ret w (.tup2 (.val (.int .u32 (paA p TOP k).1)) (.val (.bool (paA p TOP k).2)))):=by
 obtain ⟨lv,Q,hP,hL⟩:=ihA h;have hnk:=fcA p
 by_cases h0:k<0
 ·rw [jvA (.inl h0)]
  refine Fc.of (args:=[_,_]) Tryz.func49 rfl rfl Tryz.ntmps49 nZ ?_
  repeat' (first|(refine yL ?_;first|refine a0A rfl ?_|refine yO ?_|(refine yC ?_ ?_<;>intro hc)|(refine yN hK ?_;clear hK K))|refine wG ?_|(refine yR ?_;intro K hK)|fail)
  exact bgA rfl rfl rfl (Ext.refl _) rfl rfl
 ·have hk0:0≤k:=oZ
  refine Fc.of (args:=[_,_]) Tryz.func49 rfl rfl Tryz.ntmps49 nZ ?_
  repeat' (first|(refine yL ?_;first|refine a0A rfl ?_|(refine c7A ?_;refine asA rfl _ rfl rfl (HasC.ownV hP.own) ?_)|refine yO ?_|(refine yC ?_ ?_<;>intro hc)|(refine yV ?_;first|(refine oC 60 ?_;refine a2A (f:=60) rfl rfl rfl  (.val lv) (by intro u1 w e hu1;(try obtain rfl:u1=_:=hu1);exact hL _ e) ?_))|(refine yN hK ?_;clear hK K))|refine wG ?_|(refine yR ?_;intro K hK)|fail)
  refine b5A (ι:=Nat) (λ i=>[(0,.val v),(1,.val (.int .i64 (k-(cnt p (kp p i*65536):Int)))),(14,.val lv),(15,.val (.int .i64 (nk p))),(16,.val (.int .i64 i))]) (λ i=>i≤nk p∧(cnt p (kp p i*65536):Int)≤k) (λ i=>nk p-i) 0 ⟨Nat.zero_le _,by rw [htA];exact hk0⟩ (by rw [htA];(repeat' (first|exact Sub.nil|(refine Sub.val rfl ?_ ?_;first|with_reducible rfl|(congr 1;omega))|refine Sub.same rfl ?_));done) ?_
  rintro i ⟨hi,hik⟩
  by_cases hil:i<nk p
  ·obtain ⟨hat,hcn,h1⟩:=hP.at hil
   obtain ⟨b,kv,rfl,hb,hkv⟩:=hP.set oZ;obtain ⟨k1,k2,k3,k4⟩:=gnA hil;have hkl:=brA p;have hown:=hP.own;have f1:=r3A hil;have hcl:∀ w',Ext w w'→_:=λ w' e=>hkA (hcn.ext e)
   have hsl:∀ w',Ext w w'→_:=λ w' e=>sel_c (k:=k-(cnt p (kp p i*65536):Int)) (hcn.ext e) (hT.ext e) oZ
   have hsp:=xcA (q:=blk p (kp p i)) (k:=k-(cnt p (kp p i*65536):Int)) oZ;have hst:∀ r:Nat,_:=λ r=>tcA (r:=r) (k:=k) hil
   obtain ⟨sp,hsp0⟩:∃ sp,sp=hjA (blk p (kp p i)) (k-(cnt p (kp p i*65536):Int)):=⟨_,rfl⟩;rw [← hsp0] at hsl hsp;obtain ⟨st,hst0⟩:∃ st,st=paA p TOP k:=⟨_,rfl⟩;rw [← hst0] at hst ⊢;obtain ⟨K0,hK0⟩:∃ K0,K0=kp p i:=⟨_,rfl⟩;obtain ⟨n0,hn0⟩:∃ n0,n0=cnt p (kp p i*65536):=⟨_,rfl⟩;obtain ⟨n1,hn1⟩:∃ n1,n1=cnt p (kp p (i+1)*65536):=⟨_,rfl⟩;obtain ⟨q,hq⟩:∃ q,q=blk p (kp p i):=⟨_,rfl⟩;rw [← hq] at hcl hsp hst f1;obtain ⟨c1,hc1⟩:∃ c1,c1=cnt q 65536:=⟨_,rfl⟩;rw [← hc1,← hn0,← hn1] at f1;rw [← hc1] at hcl hsp;rw [← hn0] at hsp hst hik hsl ⊢;rw [← hK0] at k1 k4 hst;clear hP k2 k3 hL hcn h hsp0 hn0 hK0 hst0 hc1 hq
   by_cases hlt:k-(n0:Int)<c1
   ·obtain ⟨r,r1,r2,r3,rfl⟩:=hsp hlt
    obtain rfl:=hst r r1 r2 oZ;have hor:=or32 K0 r k1 r1;clear hst hsp
    repeat' (first|(refine yL ?_;first|refine a0A rfl ?_|(refine oNc ?_;refine afA rfl rfl ?_)|(refine oF 0 ?_;refine a1A (a':=⟨b,0,none⟩) rfl rfl (λ _=>rfl) ?_)|(refine oF 1 ?_;refine a1A (a':=⟨b,1,none⟩) rfl rfl (λ _=>rfl) ?_)|(refine oLt 22 ?_;refine a5A (c:=kv) rfl (λ _=>rfl) rfl hb rfl ?_)|(refine oLt 26 ?_;refine a5A (c:=lv) rfl (λ _=>rfl) rfl hb rfl ?_)|(refine oI ?_;refine c3A (s:=4) rfl _ rfl (λ _=>rfl) rfl (HasC.ownV hown) rfl i rfl oZ ?_;rw [hat])|(refine oLt 32 ?_;refine akA (cs:=qcs _) rfl (λ _=>rfl) (λ _=>rfl) rfl ?_)|(refine oD 7 ?_;refine a4A (hK _ _ (kuA rfl rfl rfl dZ dZ (λ _=>rfl) (λ _=>rfl) rfl (λ _=>rfl) (λ _=>rfl) rfl h1 (λ bx wx ex hbx hbc=>?_)));clear hK K;replace hb:=ex.block hb;replace hkv:=hkv.ext ex;refine aiA kZ (λ K hK=>?_))|(refine oD 40 ?_;refine ahA rfl _ rfl (λ _=>rfl) rfl (HasI.ownV hkv) rfl oZ ?_;rw [k4])|(refine oD 43 ?_;refine hhA rfl rfl rfl dZ dZ ?_;rw [show (2:Int) ^ Int.toNat 16=65536 by decide,daA .u32 _ fZ])|(refine oD 46 ?_;refine clA (.inr (.inl rfl)) rfl rfl rfl ?_;rw [hor])|(refine oLt 32 ?_;refine bzA (n:=4) rfl hbc rfl rfl (λ _=>rfl) (λ _=>rfl) ?_)|refine yO ?_|(refine yC ?_ ?_<;>intro hc)|(refine yV ?_;first|(refine oC 47 ?_;refine a2A (f:=47) rfl rfl rfl  (.val (.int .i64 c1)) (by intro u1 w e hu1;(try obtain rfl:u1=_:=hu1);exact hcl _ (ex.trans e)) ?_)|(refine oC 85 ?_;refine a3A (f:=85) rfl rfl rfl rfl  (.tup2 (.val (.int .u16 r)) (.val (.bool true))) (by intro u1 u2 w e hu1 hu2;(try obtain rfl:u1=_:=hu1);(try obtain rfl:u2=_:=hu2);exact hsl _ (ex.trans e)) ?_))|(refine yN hK ?_;clear hK K))|refine wG ?_|(refine yR ?_;intro K hK)|fail)
    exact bgA rfl rfl rfl ex rfl rfl
   ·clear hst hsp
    repeat' (first|(refine yL ?_;first|refine a0A rfl ?_|(refine oNc ?_;refine afA rfl rfl ?_)|(refine oF 0 ?_;refine a1A (a':=⟨b,0,none⟩) rfl rfl (λ _=>rfl) ?_)|(refine oF 1 ?_;refine a1A (a':=⟨b,1,none⟩) rfl rfl (λ _=>rfl) ?_)|(refine oLt 22 ?_;refine a5A (c:=kv) rfl (λ _=>rfl) rfl hb rfl ?_)|(refine oLt 26 ?_;refine a5A (c:=lv) rfl (λ _=>rfl) rfl hb rfl ?_)|(refine oI ?_;refine c3A (s:=4) rfl _ rfl (λ _=>rfl) rfl (HasC.ownV hown) rfl i rfl oZ ?_;rw [hat])|(refine oLt 32 ?_;refine akA (cs:=qcs _) rfl (λ _=>rfl) (λ _=>rfl) rfl ?_)|(refine oD 7 ?_;refine a4A (hK _ _ (kuA rfl rfl rfl dZ dZ (λ _=>rfl) (λ _=>rfl) rfl (λ _=>rfl) (λ _=>rfl) rfl h1 (λ bx wx ex hbx hbc=>?_)));clear hK K;replace hb:=ex.block hb;replace hkv:=hkv.ext ex;refine aiA kZ (λ K hK=>?_))|(refine oLt 32 ?_;refine bzA (n:=4) rfl hbc rfl rfl (λ _=>rfl) (λ _=>rfl) ?_)|refine yO ?_|(refine yC ?_ ?_<;>intro hc)|(refine yV ?_;first|(refine oC 47 ?_;refine a2A (f:=47) rfl rfl rfl  (.val (.int .i64 c1)) (by intro u1 w e hu1;(try obtain rfl:u1=_:=hu1);exact hcl _ (ex.trans e)) ?_))|(refine yN hK ?_;clear hK K))|refine wG ?_|(refine yR ?_;intro K hK)|fail)
    exact j1A ex (i+1) ⟨hil,by rw [← hn1];omega⟩ oZ (by rw [← hn1,f1,Int.natCast_add,← Int.sub_sub];clear hn1 f1;(repeat' (first|exact Sub.nil|(refine Sub.val rfl ?_ ?_;first|with_reducible rfl|(congr 1;omega))|refine Sub.same rfl ?_));done)
  ·obtain rfl:i=nk p:=oZ
   rw [kfA] at hik;rw [jvA (.inr hik)]
   repeat' (first|(refine yL ?_;first|refine a0A rfl ?_|refine yO ?_|(refine yC ?_ ?_<;>intro hc)|(refine yN hK ?_;clear hK K))|refine wG ?_|(refine yR ?_;intro K hK)|fail)
   exact bgA rfl rfl rfl (Ext.refl _) rfl rfl
end Go.Proofs.YtlnaebejmjmepaaGreatDoor
end
section
namespace Go.Proofs.YtlnaebejmjmepaaGreatDoor
open Go.LA Go.ArrP Go.RowKit
variable {A B:Nat→Prop}
def rng (p:Nat→Bool) (lo hi y:Nat):Bool:=p y || (decide (lo≤y) && decide (y<hi))
theorem k0A (p:Nat→Bool) {lo hi:Nat} (h:hi≤lo):rng p lo hi=p:=by
 funext y;unfold rng
 by_cases h1:lo≤y
 ·rw [decide_eq_false (show ¬ y<hi by omega),Bool.and_false,Bool.or_false]
 ·rw [decide_eq_false h1,Bool.false_and,Bool.or_false]
theorem x4A (p:Nat→Bool) {lo0 lo e k:Nat} (h0:lo0≤lo) (h1:lo<e) (hk1:k*65536≤lo) (hk2:e≤(k+1)*65536) {a c:Int} (ha:a=(lo:Int)-(k:Int)*65536) (hc:c=(e:Int)-(k:Int)*65536) :
 upd (rng p lo0 lo) k (two (λ x y=>x || y) (blk (rng p lo0 lo) k) (flp (λ _=>false) a c))=rng p lo0 e:=by
 funext y
 have hdm:=Nat.div_add_mod y 65536;have hml:=Nat.mod_lt y (show 0<65536 by decide);unfold upd
 by_cases hy:y / 65536=k
 ·rw [if_pos hy]
  have hyy:k*65536+y % 65536=y:=by rw [← hy,Nat.mul_comm];exact hdm
  have h2:blk (rng p lo0 lo) k (y % 65536)=rng p lo0 lo y:=by rw [coA hml,hyy]
  have h3:flp (λ _=>false) a c (y % 65536)=(decide (lo≤y) && decide (y<e)):=by
   unfold flp two gpA drA;rw [decide_eq_true hml,Bool.and_true];have e1:decide (a≤((y % 65536:Nat):Int))=decide (lo≤y):=decide_eq_decide.2 oZ;have e2:decide (((y % 65536:Nat):Int)<c)=decide (y<e):=decide_eq_decide.2 oZ;rw [e1,e2];cases decide (lo≤y) <;> cases decide (y<e) <;> rfl
  show (blk (rng p lo0 lo) k (y % 65536) || flp (λ _=>false) a c (y % 65536))=_
  rw [h2,h3];unfold rng;rw [Bool.or_assoc];congr 1;rw [Bool.eq_iff_iff];simp only [Bool.or_eq_true,Bool.and_eq_true,decide_eq_true_eq];omega
 ·rw [if_neg hy]
  unfold rng;congr 1;rw [Bool.eq_iff_iff];simp only [Bool.and_eq_true,decide_eq_true_eq];have hks:=e9A k;omega
theorem t5A (p:Nat→Bool) (x:Nat):upd p (x / 65536) (jdA (blk p (x / 65536)) (x % 65536))=m3A p x:=by
 funext y
 have hdm:=Nat.div_add_mod y 65536;have hdx:=Nat.div_add_mod x 65536;have hml:=Nat.mod_lt y (show 0<65536 by decide);unfold upd m3A jdA
 by_cases hy:y / 65536=x / 65536
 ·rw [if_pos hy,coA hml,← hy,Nat.mul_comm,hdm]
  congr 1;exact decide_eq_decide.2 (by rw [hy] at hdm;omega)
 ·rw [if_neg hy,decide_eq_false (show ¬ y=x by intro h;exact hy (by rw [h])),Bool.or_false]
theorem yzA {p:Nat→Bool} {lo hi:Int} {i:Nat} (h1:lo≤(i:Int)) (h2:(i:Int)<hi) (h3:i<65536):flp p lo hi i=!p i:=by
 unfold flp two gpA drA;rw [decide_eq_true h1,decide_eq_true h2,decide_eq_true h3];cases p i <;> rfl
theorem roA {q:Nat→Bool} {r n:Nat} (h:r<n) (hr:q r=true):0<cnt q n:=by
 have h1:cnt q (r+1)=cnt q r+1:=by simp only [cnt,hr,if_true]
 have h2:=cnt_mono q (m:=r+1) n h;omega
theorem RS.fsh {w:World} {b:Nat} {kv lv:Value} {p:Nat→Bool} (h:RS A w b kv lv p) (hA:Fsh A w):Fsh (λ k=>A k∧kv.ownBlock≠some k) w:=λ k hk=>⟨hA k hk,λ hb=>by have:=h.lt (.inr (.inl hb));omega⟩
theorem RS.nset {w:World} {b:Nat} {kv lv:Value} {p:Nat→Bool} (h:RS A w b kv lv p):NSet TT (λ k=>A k∧kv.ownBlock≠some k) w (.pointer (some ⟨b,0,none⟩)) p:=.inr ⟨b,kv,lv,rfl,h.self,λ _ _=>trivial⟩
theorem Mut.from {w w1 w':World} {b:Nat} {kv lv:Value} {p':Nat→Bool} (e:Ext w w1) (h:Mut A w1 b kv lv p' w'):Mut A w b kv lv p' w':=by
 obtain ⟨kv',lv',h1,h2,h3,h4⟩:=h;exact ⟨kv',lv',h1,(Fr.of e).trans h2,h3.le e.size,h4.le e.size⟩
theorem Mut.ext {w w1 w':World} {b:Nat} {kv lv:Value} {p':Nat→Bool} (h:Mut A w b kv lv p' w1) (e:Ext w1 w'):Mut A w b kv lv p' w':=by
 obtain ⟨kv',lv',h1,h2,h3,h4⟩:=h;exact ⟨kv',lv',h1.ext e,h2.trans (Fr.of e),h3,h4⟩
theorem gaA {w:World} {b:Nat} {kv lv kv' lv':Value} {base:Nat} (hb:∀ k,onw b kv lv k→base≤k) (hs:base≤w.heap.size) (h1:LocR w kv kv') (h2:LocR w lv lv') (k:Nat) (hk:onw b kv' lv' k):base≤k:=by
 rcases hk with rfl|hk|hk
 ·exact hb _ (.inl rfl)
 ·exact h1.ge (λ k hk=>hb k (.inr (.inl hk))) hs k hk
 ·exact h2.ge (λ k hk=>hb k (.inr (.inr hk))) hs k hk
theorem Mut.then {w w1 w':World} {b:Nat} {kv lv kv1 lv1:Value} {p':Nat→Bool} (hf:Fr (onw b kv lv) w w1) (h1:LocR w kv kv1) (h2:LocR w lv lv1) (h:Mut A w1 b kv1 lv1 p' w'):Mut A w b kv lv p' w':=by
 obtain ⟨kv',lv',g1,g2,g3,g4⟩:=h;refine ⟨kv',lv',g1,⟨g2.os.trans hf.os,g2.tape.trans hf.tape,g2.output.trans hf.output,Nat.le_trans hf.size g2.size,λ k hk hn=>?_⟩,h1.trans g3 hf.size,h2.trans g4 hf.size⟩;rw [g2.block k (Nat.lt_of_lt_of_le hk hf.size) (λ h=>hn ?_),hf.block k hk hn]
 rcases h with h|h|h
 ·exact .inl h
 ·rcases h1 with h1|h1
  ·exact .inr (.inl (h1▸h))
  ·have:=h1 k h;omega
 ·rcases h2 with h2|h2
  ·exact .inr (.inr (h2▸h))
  ·have:=h2 k h;omega
theorem bzB {w:World} {b:Nat} {kv lv:Value} {p:Nat→Bool} (hS:RS A w b kv lv p) (hT:Tab w) (hA:Fsh A w) {x:Nat} (hx:x<4294967296) :
 Fc Tryz.prog 22 #[.pointer (some ⟨b,0,none⟩),.int .u32 x] w (λ en w'=>en=.returned (.tuple #[])∧Mut A w b kv lv (m3A p x) w'):=by
 have hup:=t5A p x;have e2:IntKind.u16.wrap (x:Int)=((x % 65536:Nat):Int):=by rw [IntKind.wrap_u16];omega
 have e1:(x:Int) / 65536=((x / 65536:Nat):Int):=oZ;have hx1:x / 65536<65536:=oZ;have hx2:x % 65536<65536:=Nat.mod_lt _ oZ;obtain ⟨k,hk⟩:∃ k,k=x / 65536:=⟨_,rfl⟩;obtain ⟨r,hr⟩:∃ r,r=x % 65536:=⟨_,rfl⟩;rw [← hk,← hr] at hup;rw [← hk] at e1 hx1;rw [← hr] at e2 hx2;clear hk hr;have hF:=hS.fsh hA;obtain ⟨q,hq⟩:∃ q,q=jdA (blk p k) r:=⟨_,rfl⟩;have hq1:∀ i,65536≤i→q i=false:=λ i hi=>by rw [hq];unfold jdA;rw [dnA oZ,decide_eq_false oZ];rfl
 have hq2:0<cnt q 65536:=roA hx2 (by rw [hq];unfold jdA;rw [decide_eq_true rfl,Bool.or_true]);have hw:∀ w',Ext w w'→∀ u,Cn (λ k=>A k∧kv.ownBlock≠some k) w' u (blk p k) (aoA (blk p k))→_:=λ w' e u hu=>z6A hu (hT.ext e) (hF.ext e) hx2
 rw [← hq] at hup hw;refine Fc.of (args:=[_,_]) Tryz.func22 rfl rfl Tryz.ntmps22 nZ ?_
 repeat' (first|(refine yL ?_;first|refine a0A rfl ?_|(refine oEq ?_;refine blA (c:=.bool true) rfl rfl rfl (λ _=>rfl) ?_)|(refine oB .shr ?_;refine f0A rfl rfl rfl dZ dZ ?_;rw [show (2:Int) ^ Int.toNat 16=65536 by decide,e1])|(refine oD 16 ?_;refine dwA rfl rfl rfl rfl ?_;rw [e2])|(refine oC 63 ?_;refine a4A (hK _ _ (bkA 17 rfl (λ v17 w17 e17 h17=>cbA rfl dZ rfl rfl rfl rfl (λ v w'=>v=.tuple #[]∧Mut A w b kv lv (m3A p x) w') (λ w1 e1=>?_) (λ v w2 hm=>?_))));clear hK K)|refine yO ?_|(refine yC ?_ ?_<;>intro hc)|(refine yV ?_;first|(refine oC 64 ?_;refine a3A (f:=64) rfl rfl rfl rfl  (.pred (cnP (λ k=>A k∧kv.ownBlock≠some k) (blk p k) (aoA (blk p k)))) (by intro u1 u2 w e hu1 hu2;(try obtain rfl:u1=_:=hu1);(try obtain rfl:u2=_:=hu2);exact reA (hS.ext e).nset hx1) ?_)|(refine oC 65 ?_;refine a3A (f:=65) rfl rfl rfl rfl  (.pred (cnP (λ k=>A k∧kv.ownBlock≠some k) q (aoA q))) (by intro u1 u2 w e hu1 hu2;(try obtain rfl:u1=_:=hu1);(try obtain rfl:u2=_:=hu2);exact hw _ e _ hu1) ?_))|(refine yN hK ?_;clear hK K))|refine wG ?_|(refine yR ?_;intro K hK)|fail)
 ·exact (azB (hS.ext (e17.trans e1)) hx1 (Cn.ext h17 e1) hq1 hq2).mono (λ en w' h=>⟨_,h.1,rfl,hup▸h.2.from (e17.trans e1)⟩)
 ·obtain ⟨rfl,hm⟩:=hm
  exact bdA rfl (λ w5 e5=>⟨rfl,hm.ext e5⟩) (.inl rfl)
theorem g2A {w0 w:World} {b:Nat} {kv lv:Value} {p:Nat→Bool} (h0:Ext w0 w) (hT:Tab w0) (hB:∀ k,onw b kv lv k→w0.heap.size≤k) (hS:RS A w b kv lv p) (hA:Fsh A w) {lo hi:Nat} (hlo:lo<18446744073709551616) (hhi:hi<18446744073709551616) :
 Fc Tryz.prog 25 #[.pointer (some ⟨b,0,none⟩),.int .u64 lo,.int .u64 hi] w (λ en w'=>en=.returned (.tuple #[])∧Mut A w b kv lv (rng p lo (min hi TOP)) w'):=by
 have htop:=crA;obtain ⟨H,hH⟩:∃ H,H=min hi TOP:=⟨_,rfl⟩;have hH2:min (hi:Int) 4294967296=(H:Int):=oZ;have hH3:H≤4294967296:=oZ;rw [← hH];clear hH htop;refine Fc.of (args:=[_,_,_]) Tryz.func25 rfl rfl Tryz.ntmps25 nZ ?_
 repeat' (first|(refine yL ?_;first|refine a0A rfl ?_|(refine cwA rfl rfl rfl ?_;rw [hH2])|refine yO ?_|(refine yC ?_ ?_<;>intro hc)|(refine yN hK ?_;clear hK K))|refine wG ?_|(refine yR ?_;intro K hK)|fail)
 refine agA (ι:=Nat) (λ i=>[(0,.val (.pointer (some ⟨b,0,none⟩))),(1,.val (.int .u64 i)),(2,.val (.int .u64 H))]) (λ i w'=>lo≤i∧(i=lo∨i≤H)∧Mut A w b kv lv (rng p lo i) w') (λ i=>H-i)
  (λ w2 e2=>⟨lo,⟨Nat.le_refl _,.inl rfl,by rw [k0A p (Nat.le_refl _)];exact ⟨kv,lv,hS.ext e2,Fr.of e2,LocR.refl,LocR.refl⟩⟩,sZ⟩) ?_
 rintro i w1 ⟨hi0,hi1,kv1,lv1,hS1,hF1,hl1,hl2⟩;have hB1:=gaA hB h0.size hl1 hl2;have h01:Ext w0 w1:=Fr.ext h0 hF1 hB;have hA1:Fsh A w1:=λ k hk=>hA k (Nat.le_trans hF1.size hk)
 have hF:=hS1.fsh hA1;have hT1:=hT.ext h01
 by_cases hlt:i<H
 ·obtain ⟨k,hk⟩:∃ k,k=i / 65536:=⟨_,rfl⟩
  obtain ⟨e0,he0⟩:∃ e0,e0=min H ((k+1)*65536):=⟨_,rfl⟩;have hks:=e9A k;have k1:k*65536≤i:=oZ;have k2:i<k*65536+65536:=oZ;have k3:k<65536:=oZ;have e1:(i:Int) / 65536=(k:Int):=oZ;have e3:IntKind.u64.wrap ((((i:Int) / 65536)+1)*65536)=((k*65536+65536:Nat):Int):=by rw [e1,daA .u64 _ fZ];omega
  have e4:IntKind.u64.wrap ((k:Int)*65536)=((k*65536:Nat):Int):=by rw [daA .u64 _ fZ];omega
  have e5:min (H:Int) ((k*65536+65536:Nat):Int)=(e0:Int):=oZ;have hup:=x4A p (lo0:=lo) (lo:=i) (e:=e0) (k:=k) hi0 oZ k1 oZ (a:=(i:Int)-((k*65536:Nat):Int)) (c:=(e0:Int)-((k*65536:Nat):Int)) oZ oZ;obtain ⟨g,hg⟩:∃ g,g=flp (λ _=>false) ((i:Int)-((k*65536:Nat):Int)) ((e0:Int)-((k*65536:Nat):Int)):=⟨_,rfl⟩;obtain ⟨q,hq⟩:∃ q,q=two (λ x y=>x || y) (blk (rng p lo i) k) g:=⟨_,rfl⟩;rw [← hg,← hq] at hup;have f1:∀ w',Ext w1 w'→∀ u,Cn (λ k=>A k∧kv1.ownBlock≠some k) w' u (λ _=>false) 1→Fc Tryz.prog 69 #[u,.int .i64 ((i:Int)-((k*65536:Nat):Int)),.int .i64 ((e0:Int)-((k*65536:Nat):Int))] w' (Ret w' (.pred (cnP (λ k=>A k∧kv1.ownBlock≠some k) g (aoA g)))) :=
   λ w' e u hu=>by rw [hg];exact wmA hu (hT1.ext e) (hF.ext e) _ _ oZ oZ
  have f2:∀ w',Ext w1 w'→∀ u v,Cn (λ k=>A k∧kv1.ownBlock≠some k) w' u (blk (rng p lo i) k) (aoA (blk (rng p lo i) k))→Cn (λ k=>A k∧kv1.ownBlock≠some k) w' v g (aoA g)→Fc Tryz.prog 68 #[u,v] w' (Ret w' (.pred (cnP (λ k=>A k∧kv1.ownBlock≠some k) q (aoA q)))) :=
   λ w' e u v hu hv=>by rw [hq];exact brB hu hv (hT1.ext e) (hF.ext e)
  have hq1:∀ i,65536≤i→q i=false:=λ j hj=>by
   rw [hq,hg];unfold two flp two gpA drA;rw [dnA oZ,decide_eq_false (show ¬ j<65536 by omega),Bool.and_false];rfl
  have hq2:0<cnt q 65536:=by
   refine roA (r:=i-k*65536) oZ ?_
   rw [hq,hg];unfold two;rw [yzA oZ oZ oZ];simp
  have f3:∀ w',Ext w1 w'→∀ u,Cn (λ k=>A k∧kv1.ownBlock≠some k) w' u q (aoA q)→_:=λ w' (e:Ext w1 w') u hu=>azB (hS1.ext e) (vc:=u) k3 hu hq1 hq2
  rw [hup] at f3;clear hg hup hq hq1 hq2
  repeat' (first|(refine yL ?_;first|refine a0A rfl ?_|(refine oEq ?_;refine blA (c:=.bool true) rfl rfl rfl (λ _=>rfl) ?_)|(refine oB .shr ?_;refine f0A rfl rfl rfl dZ dZ ?_;rw [show (2:Int) ^ Int.toNat 16=65536 by decide])|(refine oD 23 ?_;refine hhA rfl rfl rfl dZ dZ ?_;rw [show (2:Int) ^ Int.toNat 16=65536 by decide,e3])|(refine oD 30 ?_;refine hhA rfl rfl rfl dZ dZ ?_;rw [show (2:Int) ^ Int.toNat 16=65536 by decide,e1,e4])|(refine oD 27 ?_;rw [e1];refine olA (n:=(k:Int)) rfl rfl rfl rfl fZ ?_)|(refine cwA rfl rfl rfl ?_;rw [e5])|(refine oAl ?_;refine a4A (hK _ _ (sbA rfl dZ (λ _=>rfl) (λ b9 w9 x9 hb9 h9=>?_)));clear hK K;have c9:Cn (λ k=>A k∧kv1.ownBlock≠some k) w9 (.agg #[.int .u8 0,nilS,nilS,nilS]) (λ _=>false) 1:=Cn.zero;refine aiA kZ (λ K hK=>?_))|(refine oLd ?_;refine bzA (n:=4) rfl h9 rfl rfl (λ _=>rfl) (λ _=>rfl) ?_)|(refine oC 63 ?_;refine a4A (hK _ _ rfl (bkA 46 rfl (λ v17 w17 e17 h17=>cbA rfl dZ rfl rfl rfl rfl (λ v w'=>v=.tuple #[]∧Mut A w b kv lv (rng p lo e0) w') (λ w8 e8=>(f3 _ (x9.trans (e17.trans e8)) _ (Cn.ext h17 e8)).mono λ en w' h=>⟨_,h.1,rfl,(h.2.from (x9.trans (e17.trans e8))).then hF1 hl1 hl2⟩) (λ v w2 hm=>?_))));clear hK K;obtain ⟨rfl,hm⟩:=hm)|refine yO ?_|(refine yC ?_ ?_<;>intro hc)|(refine yV ?_;first|(refine oC 64 ?_;refine a3A (f:=64) rfl rfl rfl rfl  (.pred (cnP (λ k=>A k∧kv1.ownBlock≠some k) (blk (rng p lo i) k) (aoA (blk (rng p lo i) k)))) (by intro u1 u2 w e hu1 hu2;(try obtain rfl:u1=_:=hu1);(try obtain rfl:u2=_:=hu2);exact reA (hS1.ext (x9.trans e)).nset k3) ?_)|(refine oC 69 ?_;refine alA (f:=69) rfl rfl rfl rfl rfl  (.pred (cnP (λ k=>A k∧kv1.ownBlock≠some k) g (aoA g))) (by intro u1 u2 u3 w e hu1 hu2 hu3;(try obtain rfl:u1=_:=hu1);(try obtain rfl:u2=_:=hu2);(try obtain rfl:u3=_:=hu3);exact f1 _ (x9.trans e) _ (c9.ext e)) ?_)|(refine oC 68 ?_;refine a3A (f:=68) rfl rfl rfl rfl  (.pred (cnP (λ k=>A k∧kv1.ownBlock≠some k) q (aoA q))) (by intro u1 u2 w e hu1 hu2;(try obtain rfl:u1=_:=hu1);(try obtain rfl:u2=_:=hu2);exact f2 _ (x9.trans e) _ _ hu1 hu2) ?_))|(refine yN hK ?_;clear hK K))|(refine oCX ?_;first|refine ccA 16 kZ kZ kZ (λ K hK=>?_))|refine wG ?_|(refine yR ?_;intro K hK)|fail)
  exact a6A e0 (λ w5 e5=>⟨by omega,by omega,hm.ext e5⟩) oZ sZ
 ·have hmut:Mut A w b kv lv (rng p lo H) w1:=by
   by_cases e:i=H
   ·exact e▸⟨kv1,lv1,hS1,hF1,hl1,hl2⟩
   ·have:i=lo:=oZ
    rw [show rng p lo H=rng p lo i by rw [k0A p (show H≤lo by omega),k0A p (show i≤lo by omega)]];exact ⟨kv1,lv1,hS1,hF1,hl1,hl2⟩
  repeat' (first|(refine yL ?_;first|refine a0A rfl ?_|(refine oEq ?_;refine blA (c:=.bool true) rfl rfl rfl (λ _=>rfl) ?_)|refine yO ?_|(refine yC ?_ ?_<;>intro hc)|(refine yN hK ?_;clear hK K))|refine wG ?_|(refine yR ?_;intro K hK)|fail)
  exact bdA rfl (λ w5 e5=>⟨rfl,hmut.ext e5⟩) (.inl rfl)
end Go.Proofs.YtlnaebejmjmepaaGreatDoor
end
section
namespace Go.Proofs.YtlnaebejmjmepaaGreatDoor
open Go.LA Go.ArrP Go.RowKit
variable {A B:Nat→Prop}
noncomputable def spU (xs:List Sp) (y:Nat):Bool:=xs.any (λ x=>decide (x.1.toNat≤y) && decide (y<min x.2.toNat TOP))
theorem x8A:spU []=λ _=>false:=rfl
theorem x9A (xs ys:List Sp) (y:Nat):spU (xs++ys) y=(spU xs y || spU ys y):=List.any_append
theorem iqA {xs:List Sp} {i:Nat} (h:i<xs.length):xs.getD i (0,0) ∈ xs:=by
 rw [List.getD_eq_getElem?_getD,List.getElem?_eq_getElem h];exact List.getElem_mem h
theorem opA {xs:List Sp} {i:Nat} (h:i<xs.length):xs.take (i+1)=xs.take i++[xs.getD i (0,0)]:=by
 rw [List.getD_eq_getElem?_getD,List.getElem?_eq_getElem h,List.take_add_one,List.getElem?_eq_getElem h];rfl
theorem n6A {xs:List Sp} {i:Nat} (h:i<xs.length):rng (spU (xs.take i)) (xs.getD i (0,0)).1.toNat (min (xs.getD i (0,0)).2.toNat TOP)=spU (xs.take (i+1)):=by
 funext y
 rw [opA h,x9A];unfold rng;congr 1;unfold spU;rw [List.any_cons,List.any_nil,Bool.or_false]
def U64 (xs:List Sp):Prop:=∀ x ∈ xs,0≤x.1∧x.1<18446744073709551616∧0≤x.2∧x.2<18446744073709551616
theorem ppA {w:World} {v:Value} {xs:List Sp} (h:SlP .u64 w v xs) (hx:U64 xs) (hT:Tab w) (hB:Fsh B w) (hA:Fsh A w):Fc Tryz.prog 19 #[v] w (Ret w (.pred (rsP B A (spU xs)))):=by
 have hlen:=h.len;refine Fc.of (args:=[_]) Tryz.func19 rfl rfl Tryz.ntmps19 nZ ?_
 repeat' (first|(refine yL ?_;first|refine a0A rfl ?_|(refine c7A ?_;refine b3A rfl _ rfl rfl (HasP.val h) ?_)|refine yO ?_|(refine yC ?_ ?_<;>intro hc)|(refine yV ?_;first|(refine oC 17 ?_;refine cjA (f:=17) rfl rfl  (.pred (rsP (λ k=>w.heap.size≤k) A (λ _=>false))) (by intro w e;exact new_c _ (λ k hk=>Nat.le_trans e.size hk)) ?_))|(refine yN hK ?_;clear hK K))|refine wG ?_|(refine yR ?_;intro K hK)|fail)
 refine e4A 3 rfl (λ v3 w3 e3 h3=>?_);obtain ⟨b,kv3,lv3,rfl,hS3,hB3⟩:=h3
 refine agA (ι:=Nat) (λ i=>[(3,.val (.pointer (some ⟨b,0,none⟩))),(7,.val v),(8,.val (.int .i64 xs.length)),(9,.val (.int .i64 i))]) (λ i w'=>i≤xs.length∧Ext w w'∧∃ kv lv,RS A w' b kv lv (spU (xs.take i))∧∀ k,onw b kv lv k→w.heap.size≤k) (λ i=>xs.length-i)
  (λ w2 e2=>⟨0,⟨Nat.zero_le _,e3.trans e2,kv3,lv3,hS3.ext e2,hB3⟩,sZ⟩) ?_
 rintro i w1 ⟨hi,he,kv,lv,hS,hB1⟩;have h1:=h.ext he
 by_cases hil:i<xs.length
 ·obtain ⟨u1,u2,u3,u4⟩:=hx _ (iqA hil)
  have hsu:=n6A hil;obtain ⟨lo,hlo⟩:∃ lo:Nat,(xs.getD i (0,0)).1=(lo:Int):=⟨(xs.getD i (0,0)).1.toNat,by omega⟩;obtain ⟨hi',hhi⟩:∃ hi:Nat,(xs.getD i (0,0)).2=(hi:Int):=⟨(xs.getD i (0,0)).2.toNat,by omega⟩;rw [hlo,hhi,Int.toNat_natCast,Int.toNat_natCast] at hsu;rw [hlo] at u1 u2;rw [hhi] at u3 u4
  repeat' (first|(refine yL ?_;first|refine a0A rfl ?_|(refine oI ?_;refine atA rfl _ rfl (λ _=>rfl) rfl (HasP.val h1) rfl hil ?_;rw [hlo,hhi])|(refine oLt 42 ?_;refine akA (cs:=[.int .u64 lo,.int .u64 hi']) rfl (λ _=>rfl) (λ _=>rfl) rfl ?_)|(refine oD 5 ?_;refine a4A (hK _ _ (c5A rfl rfl dZ (λ _=>rfl) (λ _=>rfl) (λ _=>rfl) rfl (by intro u hu;simp [Value.cells] at hu;rcases hu with rfl|rfl <;> rfl) (λ bx wx ex hbx hbc=>?_)));clear hK K;refine aiA kZ (λ K hK=>?_))|(refine oF 0 ?_;refine a1A (a':=⟨bx,0,none⟩) rfl rfl (λ _=>rfl) ?_)|(refine oF 1 ?_;refine a1A (a':=⟨bx,1,none⟩) rfl rfl (λ _=>rfl) ?_)|(refine oLt 39 ?_;refine a5A rfl (λ _=>rfl) rfl hbc rfl ?_)|(refine oC 25 ?_;refine a4A (hK _ _ (cbA rfl dZ rfl rfl rfl rfl (λ v w'=>v=.tuple #[]∧∃ wz,Ext w1 wz∧Mut A wz b kv lv (spU (xs.take (i+1))) w') (λ w8 e8=>(g2A (he.trans (ex.trans e8)) hT hB1 (hS.ext (ex.trans e8)) (hA.ext (he.trans (ex.trans e8))) oZ oZ).mono λ en w' h=>⟨_,h.1,rfl,_,ex.trans e8,hsu▸h.2⟩) (λ v w2 hm=>?_)));clear hK K;obtain ⟨rfl,wz,ez,hm⟩:=hm)|refine yO ?_|(refine yC ?_ ?_<;>intro hc)|(refine yN hK ?_;clear hK K))|refine wG ?_|(refine yR ?_;intro K hK)|fail)
  obtain ⟨kv',lv',hS',hF',l1,l2⟩:=hm;have x2:=he.trans ez;exact a6A (i+1) (λ w5 e5=>⟨hil,(Fr.ext x2 hF' hB1).trans e5,kv',lv',hS'.ext e5,gaA hB1 x2.size l1 l2⟩) oZ sZ
 ·obtain rfl:i=xs.length:=oZ
  rw [List.take_length] at hS
  repeat' (first|(refine yL ?_;first|refine a0A rfl ?_|refine yO ?_|(refine yC ?_ ?_<;>intro hc)|(refine yN hK ?_;clear hK K))|refine wG ?_|(refine yR ?_;intro K hK)|fail)
  exact ajA rfl rfl he (λ u w5 e5 hu=>by obtain rfl:u=_:=hu;exact ⟨b,kv,lv,rfl,hS.ext e5,λ k hk=>hB k (hB1 k hk)⟩)
end Go.Proofs.YtlnaebejmjmepaaGreatDoor
end
section
namespace Go.Proofs.YtlnaebejmjmepaaGreatDoor
open Go.LA Go.ArrP Go.RowKit
theorem w7A {a b:List Sp} (hl:a.length=b.length) (h:∀ k,k<a.length→(a.getD k (0,0)).1=(b.getD k (0,0)).1∧(a.getD k (0,0)).2=(b.getD k (0,0)).2):a=b :=
 List.ext_getElem hl λ i h1 h2=>by
  obtain ⟨e1,e2⟩:=h i h1;have g1:a.getD i (0,0)=a[i]:=by simp [List.getD,h1]
  have g2:b.getD i (0,0)=b[i]:=by simp [List.getD,h2]
  rw [g1,g2] at e1 e2;exact Prod.ext e1 e2
theorem z2A (f m f' m':Int) (w:World):(Op.equalIn 10000 42 (spV .u64 (f,m)) (spV .u64 (f',m'))).run Tryz.prog w=.ok (decide (f=f') && decide (m=m')) w:=by
 unfold spV;rw [run_equalIn_agg w 9999 42 _ _ kZ kZ];have hp:∀ (f m:Int) (w:World),(part 39 #[.int .u64 f,.int .u64 m] 0).run Tryz.prog w=.ok (.int .u64 f) w:=λ f m w=>by kernel_rfl
 have hq:∀ (f m:Int) (w:World),(part 39 #[.int .u64 f,.int .u64 m] 1).run Tryz.prog w=.ok (.int .u64 m) w:=λ f m w=>by kernel_rfl
 have he:∀ (a b:Int) (w:World),(Op.equalIn 9999 39 (.int .u64 a) (.int .u64 b)).run Tryz.prog w=.ok (a == b) w:=λ a b w=>run_equalIn_int w 9998 _ _ _ a b (by kernel_rfl:Tryz.prog.underlying 39=some (.int .u64))
 simp only [Program.fieldsOf,Tryz.underlying42];simp only [Op.eqFields,Sem.run_bind,Sem.run_ite,hp,hq,he,Result.andThen_ok,Sem.run_pure]
 by_cases h1:f=f' <;> by_cases h2:m=m' <;> simp [h1,h2]
theorem nlA (f m f' m':Int) (x y:Operand) (w:World):(do eqGuard .neq 42 x y (spV .u64 (f,m)) (spV .u64 (f',m'));binOp .neq 42 (spV .u64 (f,m)) (spV .u64 (f',m')):Sem Value).run Tryz.prog w=.ok (.bool (!(decide (f=f') && decide (m=m')))) w:=by
 have h:=z2A f m f' m' w;unfold spV at h ⊢;rw [Sem.run_bind,run_eqGuard_agg w _ _ _ _ _ _ kZ];simp only [Result.andThen_ok,run_neq_struct,h]
theorem z1A (w:World) (v u:Value) (a b:List Sp) (h:SlP .u64 w v a) (h':SlP .u64 w u b):Fc Tryz.prog 61 #[v,u] w (Ret w (.val (.bool (decide (a=b))))):=by
 have hl:=h.len;have hl':=h'.len;refine Fc.of (args:=[_,_]) Tryz.func61 rfl rfl Tryz.ntmps61 nZ ?_
 by_cases hlen:a.length=b.length
 ·skip
  repeat' (first|(refine yL ?_;first|refine a0A rfl ?_|(refine oI ?_;refine atA rfl _ rfl (λ _=>rfl) rfl (by first|exact HasP.val (by assumption)|exact HasP.own|exact HasP.ownV (by assumption)) rfl oZ ?_)|(refine oLt 42 ?_;refine akA rfl (λ _=>rfl) (λ _=>rfl) rfl ?_)|(refine c7A ?_;refine b3A rfl _ rfl rfl (by first|exact HasP.val (by assumption)|exact HasP.own|exact HasP.ownV (by assumption)) ?_)|refine yO ?_|(refine yC ?_ ?_<;>intro hc)|(refine yN hK ?_;clear hK K))|refine wG ?_|(refine yR ?_;intro K hK)|fail)
  refine b5A (ι:=Nat) (λ k=>[(0,.val v),(1,.val u),(12,.val (.int .i64 a.length)),(13,.val (.int .i64 k))]) (λ k=>k≤a.length∧∀ i,i<k→(a.getD i (0,0)).1=(b.getD i (0,0)).1∧(a.getD i (0,0)).2=(b.getD i (0,0)).2) (λ k=>a.length-k) 0 ⟨Nat.zero_le _,λ i h1=>by omega⟩ sZ ?_
  rintro k ⟨hk,hin⟩
  by_cases hkl:k<a.length
  ·by_cases he:(a.getD k (0,0)).1=(b.getD k (0,0)).1∧(a.getD k (0,0)).2=(b.getD k (0,0)).2
   ·have hb:(!(decide ((a.getD k (0,0)).1=(b.getD k (0,0)).1) && decide ((a.getD k (0,0)).2=(b.getD k (0,0)).2)))=false:=by rw [decide_eq_true he.1,decide_eq_true he.2];rfl
    repeat' (first|(refine yL ?_;first|refine a0A rfl ?_|(refine blA (c:=.bool false) rfl rfl rfl (λ w=>(nlA (a.getD k (0,0)).1 (a.getD k (0,0)).2 (b.getD k (0,0)).1 (b.getD k (0,0)).2 _ _ w).trans (by rw [hb])) ?_)|(refine oI ?_;refine atA rfl _ rfl (λ _=>rfl) rfl (by first|exact HasP.val (by assumption)|exact HasP.own|exact HasP.ownV (by assumption)) rfl oZ ?_)|(refine oLt 42 ?_;refine akA rfl (λ _=>rfl) (λ _=>rfl) rfl ?_)|(refine c7A ?_;refine b3A rfl _ rfl rfl (by first|exact HasP.val (by assumption)|exact HasP.own|exact HasP.ownV (by assumption)) ?_)|refine yO ?_|(refine yC ?_ ?_<;>intro hc)|(refine yN hK ?_;clear hK K))|refine wG ?_|(refine yR ?_;intro K hK)|fail)
    refine bpA (k+1) ⟨hkl,λ i h1=>?_⟩ oZ sZ
    by_cases e:i=k
    ·subst e;exact he
    ·exact hin i oZ
   ·have hb:(!(decide ((a.getD k (0,0)).1=(b.getD k (0,0)).1) && decide ((a.getD k (0,0)).2=(b.getD k (0,0)).2)))=true:=by
     by_cases h1:(a.getD k (0,0)).1=(b.getD k (0,0)).1
     ·rw [decide_eq_true h1,decide_eq_false (λ h2=>he ⟨h1,h2⟩)];rfl
     ·rw [decide_eq_false h1];rfl
    have hne:a≠b:=λ e=>he (by rw [e];exact ⟨rfl,rfl⟩)
    repeat' (first|(refine yL ?_;first|refine a0A rfl ?_|(refine blA (c:=.bool true) rfl rfl rfl (λ w=>(nlA (a.getD k (0,0)).1 (a.getD k (0,0)).2 (b.getD k (0,0)).1 (b.getD k (0,0)).2 _ _ w).trans (by rw [hb])) ?_)|(refine oI ?_;refine atA rfl _ rfl (λ _=>rfl) rfl (by first|exact HasP.val (by assumption)|exact HasP.own|exact HasP.ownV (by assumption)) rfl oZ ?_)|(refine oLt 42 ?_;refine akA rfl (λ _=>rfl) (λ _=>rfl) rfl ?_)|(refine c7A ?_;refine b3A rfl _ rfl rfl (by first|exact HasP.val (by assumption)|exact HasP.own|exact HasP.ownV (by assumption)) ?_)|refine yO ?_|(refine yC ?_ ?_<;>intro hc)|(refine yN hK ?_;clear hK K))|refine wG ?_|(refine yR ?_;intro K hK)|fail)
    exact a9A rfl rfl (Ext.refl _) (by rw [decide_eq_false hne])
  ·obtain rfl:k=a.length:=oZ
   have:a=b:=w7A hlen hin
   repeat' (first|(refine yL ?_;first|refine a0A rfl ?_|(refine oI ?_;refine atA rfl _ rfl (λ _=>rfl) rfl (by first|exact HasP.val (by assumption)|exact HasP.own|exact HasP.ownV (by assumption)) rfl oZ ?_)|(refine oLt 42 ?_;refine akA rfl (λ _=>rfl) (λ _=>rfl) rfl ?_)|(refine c7A ?_;refine b3A rfl _ rfl rfl (by first|exact HasP.val (by assumption)|exact HasP.own|exact HasP.ownV (by assumption)) ?_)|refine yO ?_|(refine yC ?_ ?_<;>intro hc)|(refine yN hK ?_;clear hK K))|refine wG ?_|(refine yR ?_;intro K hK)|fail)
   exact a9A rfl rfl (Ext.refl _) (by rw [decide_eq_true this])
 ·have hne:a≠b:=λ e=>hlen (by rw [e])
  repeat' (first|(refine yL ?_;first|refine a0A rfl ?_|(refine oI ?_;refine atA rfl _ rfl (λ _=>rfl) rfl (by first|exact HasP.val (by assumption)|exact HasP.own|exact HasP.ownV (by assumption)) rfl oZ ?_)|(refine oLt 42 ?_;refine akA rfl (λ _=>rfl) (λ _=>rfl) rfl ?_)|(refine c7A ?_;refine b3A rfl _ rfl rfl (by first|exact HasP.val (by assumption)|exact HasP.own|exact HasP.ownV (by assumption)) ?_)|refine yO ?_|(refine yC ?_ ?_<;>intro hc)|(refine yN hK ?_;clear hK K))|refine wG ?_|(refine yR ?_;intro K hK)|fail)
  exact a9A rfl rfl (Ext.refl _) (by rw [decide_eq_false hne])
theorem jyA (w:World) (v u:Value) (a b:List Sp) (h:SlP .u64 w v a) (h':SlP .u64 w u b):Fc Tryz.prog 33 #[v,u] w (Ret w (.val (.bool (decide (a=b))))):=by
 have hl:=h.len;have hl':=h'.len;refine Fc.of (args:=[_,_]) Tryz.func33 rfl rfl Tryz.ntmps33 nZ ?_
 by_cases hlen:a.length=b.length
 ·skip
  repeat' (first|(refine yL ?_;first|refine a0A rfl ?_|(refine oI ?_;refine atA rfl _ rfl (λ _=>rfl) rfl (by first|exact HasP.val (by assumption)|exact HasP.own|exact HasP.ownV (by assumption)) rfl oZ ?_)|(refine oLt 42 ?_;refine akA rfl (λ _=>rfl) (λ _=>rfl) rfl ?_)|(refine c7A ?_;refine b3A rfl _ rfl rfl (by first|exact HasP.val (by assumption)|exact HasP.own|exact HasP.ownV (by assumption)) ?_)|refine yO ?_|(refine yC ?_ ?_<;>intro hc)|(refine yN hK ?_;clear hK K))|refine wG ?_|(refine yR ?_;intro K hK)|fail)
  refine b5A (ι:=Nat) (λ k=>[(0,.val v),(1,.val u),(5,.val (.int .i64 k))]) (λ k=>k≤a.length∧∀ i,i<k→(a.getD i (0,0)).1=(b.getD i (0,0)).1∧(a.getD i (0,0)).2=(b.getD i (0,0)).2) (λ k=>a.length-k) 0 ⟨Nat.zero_le _,λ i h1=>by omega⟩ sZ ?_
  rintro k ⟨hk,hin⟩
  by_cases hkl:k<a.length
  ·by_cases he:(a.getD k (0,0)).1=(b.getD k (0,0)).1∧(a.getD k (0,0)).2=(b.getD k (0,0)).2
   ·have hb:(!(decide ((a.getD k (0,0)).1=(b.getD k (0,0)).1) && decide ((a.getD k (0,0)).2=(b.getD k (0,0)).2)))=false:=by rw [decide_eq_true he.1,decide_eq_true he.2];rfl
    repeat' (first|(refine yL ?_;first|refine a0A rfl ?_|(refine blA (c:=.bool false) rfl rfl rfl (λ w=>(nlA (a.getD k (0,0)).1 (a.getD k (0,0)).2 (b.getD k (0,0)).1 (b.getD k (0,0)).2 _ _ w).trans (by rw [hb])) ?_)|(refine oI ?_;refine atA rfl _ rfl (λ _=>rfl) rfl (by first|exact HasP.val (by assumption)|exact HasP.own|exact HasP.ownV (by assumption)) rfl oZ ?_)|(refine oLt 42 ?_;refine akA rfl (λ _=>rfl) (λ _=>rfl) rfl ?_)|(refine c7A ?_;refine b3A rfl _ rfl rfl (by first|exact HasP.val (by assumption)|exact HasP.own|exact HasP.ownV (by assumption)) ?_)|refine yO ?_|(refine yC ?_ ?_<;>intro hc)|(refine yN hK ?_;clear hK K))|refine wG ?_|(refine yR ?_;intro K hK)|fail)
    refine bpA (k+1) ⟨hkl,λ i h1=>?_⟩ oZ sZ
    by_cases e:i=k
    ·subst e;exact he
    ·exact hin i oZ
   ·have hb:(!(decide ((a.getD k (0,0)).1=(b.getD k (0,0)).1) && decide ((a.getD k (0,0)).2=(b.getD k (0,0)).2)))=true:=by
     by_cases h1:(a.getD k (0,0)).1=(b.getD k (0,0)).1
     ·rw [decide_eq_true h1,decide_eq_false (λ h2=>he ⟨h1,h2⟩)];rfl
     ·rw [decide_eq_false h1];rfl
    have hne:a≠b:=λ e=>he (by rw [e];exact ⟨rfl,rfl⟩)
    repeat' (first|(refine yL ?_;first|refine a0A rfl ?_|(refine blA (c:=.bool true) rfl rfl rfl (λ w=>(nlA (a.getD k (0,0)).1 (a.getD k (0,0)).2 (b.getD k (0,0)).1 (b.getD k (0,0)).2 _ _ w).trans (by rw [hb])) ?_)|(refine oI ?_;refine atA rfl _ rfl (λ _=>rfl) rfl (by first|exact HasP.val (by assumption)|exact HasP.own|exact HasP.ownV (by assumption)) rfl oZ ?_)|(refine oLt 42 ?_;refine akA rfl (λ _=>rfl) (λ _=>rfl) rfl ?_)|(refine c7A ?_;refine b3A rfl _ rfl rfl (by first|exact HasP.val (by assumption)|exact HasP.own|exact HasP.ownV (by assumption)) ?_)|refine yO ?_|(refine yC ?_ ?_<;>intro hc)|(refine yN hK ?_;clear hK K))|refine wG ?_|(refine yR ?_;intro K hK)|fail)
    exact a9A rfl rfl (Ext.refl _) (by rw [decide_eq_false hne])
  ·obtain rfl:k=a.length:=oZ
   have:a=b:=w7A hlen hin
   repeat' (first|(refine yL ?_;first|refine a0A rfl ?_|(refine oI ?_;refine atA rfl _ rfl (λ _=>rfl) rfl (by first|exact HasP.val (by assumption)|exact HasP.own|exact HasP.ownV (by assumption)) rfl oZ ?_)|(refine oLt 42 ?_;refine akA rfl (λ _=>rfl) (λ _=>rfl) rfl ?_)|(refine c7A ?_;refine b3A rfl _ rfl rfl (by first|exact HasP.val (by assumption)|exact HasP.own|exact HasP.ownV (by assumption)) ?_)|refine yO ?_|(refine yC ?_ ?_<;>intro hc)|(refine yN hK ?_;clear hK K))|refine wG ?_|(refine yR ?_;intro K hK)|fail)
   exact a9A rfl rfl (Ext.refl _) (by rw [decide_eq_true this])
 ·have hne:a≠b:=λ e=>hlen (by rw [e])
  repeat' (first|(refine yL ?_;first|refine a0A rfl ?_|(refine oI ?_;refine atA rfl _ rfl (λ _=>rfl) rfl (by first|exact HasP.val (by assumption)|exact HasP.own|exact HasP.ownV (by assumption)) rfl oZ ?_)|(refine oLt 42 ?_;refine akA rfl (λ _=>rfl) (λ _=>rfl) rfl ?_)|(refine c7A ?_;refine b3A rfl _ rfl rfl (by first|exact HasP.val (by assumption)|exact HasP.own|exact HasP.ownV (by assumption)) ?_)|refine yO ?_|(refine yC ?_ ?_<;>intro hc)|(refine yN hK ?_;clear hK K))|refine wG ?_|(refine yR ?_;intro K hK)|fail)
  exact a9A rfl rfl (Ext.refl _) (by rw [decide_eq_false hne])
end Go.Proofs.YtlnaebejmjmepaaGreatDoor
end
section
namespace Go.Proofs.YtlnaebejmjmepaaGreatDoor
open Go.LA Go.ArrP Go.RowKit
variable {A B:Nat→Prop}
theorem feA:El Tryz.prog 27 42 (.agg #[.int .u64 0,.int .u64 0]) 2 16:=⟨rfl,rfl,rfl,by decide⟩
abbrev tSp:Nat:=42
theorem lbA {w:World} {v:Value} {p:Nat→Bool} (h:NSet B A w v p) (hT:Tab w):Fc Tryz.prog 34 #[v] w (Ret w (.pred (etA w.heap.size tSp .u64 (spL p TOP)))):=by
 obtain ⟨lv,Q,hP,hL⟩:=ihA h;have hnk:=fcA p;have htop:=crA;refine Fc.of (args:=[_]) Tryz.func34 rfl rfl Tryz.ntmps34 nZ ?_
 repeat' (first|(refine yL ?_;first|refine a0A rfl ?_|(refine c7A ?_;refine asA rfl _ rfl rfl (HasC.ownV hP.own) ?_)|refine yO ?_|(refine yC ?_ ?_<;>intro hc)|(refine yV ?_;first|(refine oC 60 ?_;refine a2A (f:=60) rfl rfl rfl  (.val lv) (by intro u1 w e hu1;(try obtain rfl:u1=_:=hu1);exact hL _ e) ?_))|(refine yN hK ?_;clear hK K))|refine wG ?_|(refine yR ?_;intro K hK)|fail)
 refine agA (ι:=Nat × Value) (λ i=>[(0,.val v),(3,.val i.2),(13,.val lv),(14,.val (.int .i64 (nk p))),(15,.val (.int .i64 i.1))]) (λ i w'=>i.1≤nk p∧Ext w w'∧OwnP w.heap.size tSp .u64 w' i.2 (spL p (kp p i.1*65536))) (λ i=>nk p-i.1)
  (λ w2 e2=>⟨(0,.slice none 0 0),⟨Nat.zero_le _,e2,by dsimp only;rw [deA (p:=p) (Nat.zero_le _) (λ x _ hx=>nwA hx),e8A];exact OwnP.nil⟩,sZ⟩) ?_
 rintro ⟨i,so⟩ w1 ⟨hi,he,ho⟩;dsimp only at hi ho ⊢;have hP1:=hP.ext he
 by_cases hil:i<nk p
 ·obtain ⟨hat,hcn,h1⟩:=hP1.at hil
  obtain ⟨b,kv,rfl,hb,hkv⟩:=hP1.set oZ;obtain ⟨k1,k2,k3,k4⟩:=gnA hil;have hkl:=brA p;have hown:=hP1.own;have hru:∀ w',Ext w1 w'→_:=λ w' e=>kpA (hcn.ext e) ((hT.ext he).ext e)
  obtain ⟨gE,hE1,hE2,hE3⟩:=oqA hil;have hrun:=λ j hj=>ahB (p:=p) (i:=i) (j:=j) hj
  have hsl:=λ T=>Nat.le_trans (n5A p T) (cnt_le p T)
  have hsb:=λ T=>sp_bd p T
  obtain ⟨rs,hrs⟩:∃ rs,rs=avA (blk p (kp p i)):=⟨_,rfl⟩;have hrl:=dbA (blk p (kp p i));rw [← hrs] at hru hrun hE1 hrl;obtain ⟨K0,hK0⟩:∃ K0,K0=kp p i:=⟨_,rfl⟩;rw [← hK0] at k1 k4 hE3 hrun ho;have e4:IntKind.u64.wrap ((K0:Int)*65536)=((K0*65536:Nat):Int):=by rw [daA .u64 _ fZ];omega
  repeat' (first|(refine yL ?_;first|refine a0A rfl ?_|(refine oNc ?_;refine afA rfl rfl ?_)|(refine oF 0 ?_;refine a1A (a':=⟨b,0,none⟩) rfl rfl (λ _=>rfl) ?_)|(refine oF 1 ?_;refine a1A (a':=⟨b,1,none⟩) rfl rfl (λ _=>rfl) ?_)|(refine oLt 22 ?_;refine a5A (c:=kv) rfl (λ _=>rfl) rfl hb rfl ?_)|(refine oLt 26 ?_;refine a5A (c:=lv) rfl (λ _=>rfl) rfl hb rfl ?_)|(refine oI ?_;refine c3A (s:=4) rfl _ rfl (λ _=>rfl) rfl (HasC.ownV hown) rfl i rfl oZ ?_;rw [hat])|(refine oLt 32 ?_;refine akA (cs:=qcs _) rfl (λ _=>rfl) (λ _=>rfl) rfl ?_)|(refine oD 5 ?_;refine a4A (hK _ _ (kuA rfl rfl rfl dZ dZ (λ _=>rfl) (λ _=>rfl) rfl (λ _=>rfl) (λ _=>rfl) rfl h1 (λ bx wx ex hbx hbc=>?_)));clear hK K;replace hb:=ex.block hb;replace hkv:=hkv.ext ex;refine aiA kZ (λ K hK=>?_))|(refine oD 25 ?_;refine ahA rfl _ rfl (λ _=>rfl) rfl (HasI.ownV hkv) rfl oZ ?_;rw [k4])|(refine oD 28 ?_;refine hhA rfl rfl rfl dZ dZ ?_;rw [show (2:Int) ^ Int.toNat 16=65536 by decide,e4])|(refine oLt 32 ?_;refine bzA (n:=4) rfl hbc rfl rfl (λ _=>rfl) (λ _=>rfl) ?_)|(refine c7A ?_;refine btA rfl _ rfl rfl HasR.own ?_)|refine yO ?_|(refine yC ?_ ?_<;>intro hc)|(refine yV ?_;first|(refine oC 10 ?_;refine a2A (f:=10) rfl rfl rfl  (.pred (erA w.heap.size 79 rs)) (by intro u1 w e hu1;(try obtain rfl:u1=_:=hu1);exact (hru _ (ex.trans e)).mono (b1A (Nat.le_trans he.size (Nat.le_trans ex.size e.size)) rfl)) ?_))|(refine yN hK ?_;clear hK K))|refine wG ?_|(refine yR ?_;intro K hK)|fail)
  refine e4A 30 rfl (λ vr w2 e2 hvr=>?_);have hvr:OwnR w.heap.size 79 w2 vr rs:=hvr;obtain ⟨KB,hKB⟩:∃ KB,KB=K0*65536:=⟨_,rfl⟩;rw [← hKB] at hE3 hrun ho;rw [show ((K0*65536:Nat):Int)=(KB:Int) by rw [hKB]];have hKB2:KB+65536≤4294967296:=oZ;clear hrs hK0 e4 hKB hat hcn h1 hb hkv hru hP1 hP hL h hown;have x12:=ex.trans e2
  refine agA (ι:=Nat × Value) (λ j=>[(0,.val (.pointer (some ⟨b,0,none⟩))),(3,.val j.2),(6,.val (.int .u64 KB)),(13,.val lv),(14,.val (.int .i64 (nk p))),(15,.val (.int .i64 i)),(30,.val vr),(31,.val (.int .i64 rs.length)),(32,.val (.int .i64 j.1))]) (λ j w'=>j.1≤rs.length∧Ext w w'∧OwnR w.heap.size 79 w' vr rs∧OwnP w.heap.size tSp .u64 w' j.2 (spL p (KB+(kmA rs j.1).toNat))) (λ j=>rs.length-j.1)
   (λ w3 e3=>⟨(0,so),⟨Nat.zero_le _,he.trans (x12.trans e3),hvr.ext e3,ho.ext (x12.trans e3)⟩,sZ⟩) ?_
  rintro ⟨j,so⟩ w3 ⟨hj,x03,hr3,ho⟩;dsimp only at hj ho ⊢
  by_cases hjl:j<rs.length
  ·obtain ⟨f,m,g,q1,q2,q3,q4,q5,q6,q7,q8⟩:=hrun j hjl
   rw [q3,Int.toNat_natCast,← q7] at ho;have hst:=m6A (p:=p) (a:=KB+f) (b:=KB+(f+m+1)) oZ (λ x h1 h2=>q8 x h1 h2);have hend:spL p (KB+(kmA rs (j+1)).toNat)=spL p (KB+(f+m+1)):=by rw [q4,Int.toNat_natCast]
   have hSl:=hsl (KB+f);obtain ⟨S,hS⟩:∃ S,S=spL p (KB+f):=⟨_,rfl⟩;rw [← hS] at ho hst hSl;clear hrun hsl hsb hS q3 q4 q7 q8 hE3
   rcases hst with ⟨s1,s2,s3⟩|⟨s1,s3⟩
   ·obtain ⟨gb,cap,cur,rfl,r1,r2,r3,r4,r5,r6⟩:=ho.row s1
    have hgl:S.getD (S.length-1) (0,0)=((S.getD (S.length-1) (0,0)).1,((KB+f:Nat):Int)):=by rw [← s2]
    repeat' (first|(refine yL ?_;first|refine a0A rfl ?_|(refine oD 34 ?_;refine azA rfl _ rfl (λ _=>rfl) rfl (HasR.ownV hr3) rfl hjl ?_;rw [q1,q2])|(refine oLt 79 ?_;refine akA (cs:=[.int .u16 f,.int .u16 m]) rfl (λ _=>rfl) (λ _=>rfl) rfl ?_)|(refine oD 8 ?_;refine a4A (hK _ _ (c5A rfl rfl dZ (λ _=>rfl) (λ _=>rfl) (λ _=>rfl) rfl (by intro u hu;simp [Value.cells] at hu;rcases hu with rfl|rfl <;> rfl) (λ bx wx ex hbx hbc=>?_)));clear hK K;replace r2:=ex.block r2;replace ho:=ho.ext ex;refine aiA kZ (λ K hK=>?_))|(refine oD 37 ?_;refine a1A (a':=⟨bx,0,none⟩) rfl rfl (λ _=>rfl) ?_)|(refine oD 42 ?_;refine a1A (a':=⟨bx,0,none⟩) rfl rfl (λ _=>rfl) ?_)|(refine oD 46 ?_;refine a1A (a':=⟨bx,1,none⟩) rfl rfl (λ _=>rfl) ?_)|(refine oLt 40 ?_;refine a5A rfl (λ _=>rfl) rfl hbc rfl ?_)|(refine c7A ?_;refine b3A rfl _ rfl rfl (HasP.ownV ho) ?_)|(refine oD 58 ?_;refine abA rfl rfl rfl fZ ?_;rw [show ((S.length:Int)-1)=((S.length-1:Nat):Int) by omega])|(refine oD 60 ?_;refine acA (o:=1) rfl rfl (λ _ _=>rfl) ?_)|(refine oD 61 ?_;refine ayA rfl (λ _=>rfl) rfl rfl ?_)|(refine oD 67 ?_;refine abA rfl rfl rfl fZ ?_;rw [show ((S.length:Int)-1)=((S.length-1:Nat):Int) by omega])|(refine oD 59 ?_;refine atA rfl _ rfl (λ _=>rfl) rfl (HasP.ownV ho) rfl oZ ?_;rw [s2])|(refine oD 69 ?_;refine d2A (s:=2) rfl rfl (λ _=>rfl) rfl rfl oZ oZ ?_;rw [Int.toNat_natCast,Nat.zero_add])|(refine oD 70 ?_;refine a1A (a':=⟨gb,(S.length-1)*2+1,none⟩) rfl rfl (λ _=>rfl) ?_)|(refine oSt ?_;refine a4A (hK _ _ (d1A rfl rfl rfl r2 (λ _=>rfl) oZ rfl rfl (λ w7 e7=>?_)));clear hK K)|refine yO ?_|(refine yC ?_ ?_<;>intro hc)|(refine yN hK ?_;clear hK K))|refine wG ?_|(refine yR ?_;intro K hK)|fail)
    have hr7:=Own.setRow (hr3.ext (ex.trans e7)) (cur.setIfInBounds ((S.length-1)*2+1) (.int .u64 ((KB:Int)+f+m+1))) (Own.apart (hr3.ext (ex.trans e7)) (e7.block r2) dZ);have ho7:=OwnP.set2 r1 (e7.block r2) r3 r4 r5 r6 (S.length-1) ((KB:Int)+f+m+1);have x7:=(x03.trans (ex.trans e7)).setRow r1 (cur.setIfInBounds ((S.length-1)*2+1) (.int .u64 ((KB:Int)+f+m+1)));rw [show ((KB+(f+m+1):Nat):Int)=(KB:Int)+f+m+1 by omega] at s3;exact a6A (j+1,_) (λ w5 e5=>⟨hjl,x7.trans e5,Own.ext hr7 e5,by dsimp only;rw [hend,s3];exact ho7.ext e5⟩) eZ sZ
   ·have hpair:(((KB+f:Nat):Int),((KB+(f+m+1):Nat):Int))=((KB:Int)+f,(KB:Int)+f+m+1):=Prod.ext oZ eZ
    by_cases h0:S.length=0
    ·skip
     repeat' (first|(refine yL ?_;first|refine a0A rfl ?_|(refine oD 34 ?_;refine azA rfl _ rfl (λ _=>rfl) rfl (HasR.ownV hr3) rfl hjl ?_;rw [q1,q2])|(refine oLt 79 ?_;refine akA (cs:=[.int .u16 f,.int .u16 m]) rfl (λ _=>rfl) (λ _=>rfl) rfl ?_)|(refine oD 8 ?_;refine a4A (hK _ _ (c5A rfl rfl dZ (λ _=>rfl) (λ _=>rfl) (λ _=>rfl) rfl (by intro u hu;simp [Value.cells] at hu;rcases hu with rfl|rfl <;> rfl) (λ bx wx ex hbx hbc=>?_)));clear hK K;replace ho:=ho.ext ex;refine aiA kZ (λ K hK=>?_))|(refine oD 37 ?_;refine a1A (a':=⟨bx,0,none⟩) rfl rfl (λ _=>rfl) ?_)|(refine oD 42 ?_;refine a1A (a':=⟨bx,0,none⟩) rfl rfl (λ _=>rfl) ?_)|(refine oD 46 ?_;refine a1A (a':=⟨bx,1,none⟩) rfl rfl (λ _=>rfl) ?_)|(refine oLt 40 ?_;refine a5A rfl (λ _=>rfl) rfl hbc rfl ?_)|(refine c7A ?_;refine b3A rfl _ rfl rfl (HasP.ownV ho) ?_)|(refine oD 58 ?_;refine abA rfl rfl rfl fZ ?_;rw [show ((S.length:Int)-1)=((S.length-1:Nat):Int) by omega])|(refine oD 60 ?_;refine acA (o:=1) rfl rfl (λ _ _=>rfl) ?_)|(refine oD 61 ?_;refine ayA rfl (λ _=>rfl) rfl rfl ?_)|(refine oD 74 ?_;refine cqA (c:=spV .u64 ((KB:Int)+f,(KB:Int)+f+m+1)) rfl rfl rfl (λ w=>run_build w _ _ _ kZ) ?_)|(refine oD 75 ?_;refine e3A rfl feA rfl rfl dZ ?_)|(refine oD 76 ?_;refine a4A (hK _ _ (d7A (n:=S.length) (cs:=ckA .u64 S) rfl dZ feA rfl ho rfl HasC.own (by intro u hu;simp [spV,Value.cells] at hu;rcases hu with rfl|rfl <;> rfl) (by unfold maxLen;omega) oZ (λ v' wa wb' e' ho' hf hl=>?_)));clear hK K;refine aiA kZ (λ K hK=>?_))|refine yO ?_|(refine yC ?_ ?_<;>intro hc)|(refine yN hK ?_;clear hK K))|refine wG ?_|(refine yR ?_;intro K hK)|fail)
     have x4:=x03.trans (ex.trans e');have ho'':OwnP w.heap.size tSp .u64 wb' v' (S++[((KB:Int)+f,(KB:Int)+f+m+1)]):=by
      unfold OwnP;rw [ezA,List.length_append,List.length_singleton];exact Own.rebase ho' (hl.ge (λ k hk=>(Own.lt ho k hk).1) x4.size)
     have hr':=hf.own (hr3.ext (ex.trans e')) (λ k h1 h2=>by
      obtain ⟨cur,hcur⟩:=bxA (hr3.ext (ex.trans e')) h1;exact Own.apart (ho.ext e') hcur dZ h2)
     exact a6A (j+1,v') (λ w5 e5=>⟨hjl,(Fr.ext x4 hf (λ k hk=>(Own.lt ho k hk).1)).trans e5,Own.ext hr' e5,by dsimp only;rw [hend,s3,hpair];exact ho''.ext e5⟩) eZ sZ
    ·have s1':(S.getD (S.length-1) (0,0)).2≠((KB+f:Nat):Int):=s1.resolve_left h0
     repeat' (first|(refine yL ?_;first|refine a0A rfl ?_|(refine oD 59 ?_;refine atA rfl _ rfl (λ _=>rfl) rfl (HasP.ownV ho) rfl oZ ?_)|(refine oD 34 ?_;refine azA rfl _ rfl (λ _=>rfl) rfl (HasR.ownV hr3) rfl hjl ?_;rw [q1,q2])|(refine oLt 79 ?_;refine akA (cs:=[.int .u16 f,.int .u16 m]) rfl (λ _=>rfl) (λ _=>rfl) rfl ?_)|(refine oD 8 ?_;refine a4A (hK _ _ (c5A rfl rfl dZ (λ _=>rfl) (λ _=>rfl) (λ _=>rfl) rfl (by intro u hu;simp [Value.cells] at hu;rcases hu with rfl|rfl <;> rfl) (λ bx wx ex hbx hbc=>?_)));clear hK K;replace ho:=ho.ext ex;refine aiA kZ (λ K hK=>?_))|(refine oD 37 ?_;refine a1A (a':=⟨bx,0,none⟩) rfl rfl (λ _=>rfl) ?_)|(refine oD 42 ?_;refine a1A (a':=⟨bx,0,none⟩) rfl rfl (λ _=>rfl) ?_)|(refine oD 46 ?_;refine a1A (a':=⟨bx,1,none⟩) rfl rfl (λ _=>rfl) ?_)|(refine oLt 40 ?_;refine a5A rfl (λ _=>rfl) rfl hbc rfl ?_)|(refine c7A ?_;refine b3A rfl _ rfl rfl (HasP.ownV ho) ?_)|(refine oD 58 ?_;refine abA rfl rfl rfl fZ ?_;rw [show ((S.length:Int)-1)=((S.length-1:Nat):Int) by omega])|(refine oD 60 ?_;refine acA (o:=1) rfl rfl (λ _ _=>rfl) ?_)|(refine oD 61 ?_;refine ayA rfl (λ _=>rfl) rfl rfl ?_)|(refine oD 74 ?_;refine cqA (c:=spV .u64 ((KB:Int)+f,(KB:Int)+f+m+1)) rfl rfl rfl (λ w=>run_build w _ _ _ kZ) ?_)|(refine oD 75 ?_;refine e3A rfl feA rfl rfl dZ ?_)|(refine oD 76 ?_;refine a4A (hK _ _ (d7A (n:=S.length) (cs:=ckA .u64 S) rfl dZ feA rfl ho rfl HasC.own (by intro u hu;simp [spV,Value.cells] at hu;rcases hu with rfl|rfl <;> rfl) (by unfold maxLen;omega) oZ (λ v' wa wb' e' ho' hf hl=>?_)));clear hK K;refine aiA kZ (λ K hK=>?_))|refine yO ?_|(refine yC ?_ ?_<;>intro hc)|(refine yN hK ?_;clear hK K))|refine wG ?_|(refine yR ?_;intro K hK)|fail)
     have x4:=x03.trans (ex.trans e');have ho'':OwnP w.heap.size tSp .u64 wb' v' (S++[((KB:Int)+f,(KB:Int)+f+m+1)]):=by
      unfold OwnP;rw [ezA,List.length_append,List.length_singleton];exact Own.rebase ho' (hl.ge (λ k hk=>(Own.lt ho k hk).1) x4.size)
     have hr':=hf.own (hr3.ext (ex.trans e')) (λ k h1 h2=>by
      obtain ⟨cur,hcur⟩:=bxA (hr3.ext (ex.trans e')) h1;exact Own.apart (ho.ext e') hcur dZ h2)
     exact a6A (j+1,v') (λ w5 e5=>⟨hjl,(Fr.ext x4 hf (λ k hk=>(Own.lt ho k hk).1)).trans e5,Own.ext hr' e5,by dsimp only;rw [hend,s3,hpair];exact ho''.ext e5⟩) eZ sZ
  ·obtain rfl:j=rs.length:=oZ
   rw [hE1,Int.toNat_natCast,← hE3] at ho
   repeat' (first|(refine yL ?_;first|refine a0A rfl ?_|refine yO ?_|(refine yC ?_ ?_<;>intro hc)|(refine yN hK ?_;clear hK K))|refine wG ?_|(refine yR ?_;intro K hK)|fail)
   exact a6A (i+1,so) (λ w5 e5=>⟨hil,x03.trans e5,ho.ext e5⟩) eZ sZ
 ·obtain rfl:i=nk p:=oZ
  rw [kfA] at ho
  repeat' (first|(refine yL ?_;first|refine a0A rfl ?_|refine yO ?_|(refine yC ?_ ?_<;>intro hc)|(refine yN hK ?_;clear hK K))|refine wG ?_|(refine yR ?_;intro K hK)|fail)
  exact ajA rfl rfl he (λ u w5 e5 hu=>by obtain rfl:u=_:=hu;exact ho.ext e5)
theorem w8A {w:World} {v u:Value} {p q:Nat→Bool} (h:NSet B A w v p) (h':NSet B A w u q) (hT:Tab w):Fc Tryz.prog 16 #[v,u] w (Ret w (.val (.bool (decide (spL p TOP=spL q TOP))))):=by
 have hr1:∀ w',Ext w w'→_:=λ w' e=>lbA (h.ext e) (hT.ext e)
 have hr2:∀ w',Ext w w'→_:=λ w' e=>lbA (h'.ext e) (hT.ext e)
 obtain ⟨xs,hxs⟩:∃ xs,xs=spL p TOP:=⟨_,rfl⟩;obtain ⟨ys,hys⟩:∃ ys,ys=spL q TOP:=⟨_,rfl⟩;rw [← hxs] at hr1;rw [← hys] at hr2;rw [← hxs,← hys];refine Fc.of (args:=[_,_]) Tryz.func16 rfl rfl Tryz.ntmps16 nZ ?_
 repeat' (first|(refine yL ?_;first|refine a0A rfl ?_|(refine oD 6 ?_;refine oC 34 ?_;refine a2A (f:=34) rfl rfl rfl  (.pred (etA w.heap.size tSp .u64 xs)) (by intro u1 w e hu1;(try obtain rfl:u1=_:=hu1);exact (hr1 _ e).mono (biA e.size rfl)) ?_)|(refine oD 8 ?_;refine oC 34 ?_;refine a2A (f:=34) rfl rfl rfl  (.pred (etA w.heap.size tSp .u64 ys)) (by intro u1 w e hu1;(try obtain rfl:u1=_:=hu1);exact (hr2 _ e).mono (biA e.size rfl)) ?_)|refine yO ?_|(refine yC ?_ ?_<;>intro hc)|(refine yV ?_;first|(refine oC 61 ?_;refine a3A (f:=61) rfl rfl rfl rfl  (.val (.bool (decide (xs=ys)))) (by intro u1 u2 w e hu1 hu2;(try obtain rfl:u1=_:=hu1);(try obtain rfl:u2=_:=hu2);exact z1A _ _ _ _ _ (OwnP.slP hu1) (OwnP.slP hu2)) ?_))|(refine yN hK ?_;clear hK K))|refine wG ?_|(refine yR ?_;intro K hK)|fail)
 exact a9A rfl rfl (Ext.refl _) rfl
end Go.Proofs.YtlnaebejmjmepaaGreatDoor
end
section
namespace Go.Proofs.YtlnaebejmjmepaaGreatDoor
open Go.LA Go.ArrP Go.RowKit
variable {A B:Nat→Prop}
theorem blB (w:World) (n:Nat) (hn:n≤1000000):Fc Tryz.prog 139 #[nilS,.int .i64 n] w (Ret w (.pred (bnA w.heap.size tK .u16 []))):=by
 by_cases h0:n=0
 ·subst h0
  refine Fc.of (args:=[_,_]) Tryz.func139 rfl rfl Tryz.ntmps139 nZ ?_
  repeat' (first|(refine yL ?_;first|refine a0A rfl ?_|(refine oD 10 ?_;refine j2A rfl rfl rfl ?_)|(refine c7A ?_;refine asA (n:=0) (s:=1) (cs:=[]) rfl _ rfl rfl (HasC.ownV (base:=0) (e:=0) Own.nil) ?_)|refine yO ?_|(refine yC ?_ ?_<;>intro hc)|(refine yN hK ?_;clear hK K))|refine wG ?_|(refine yR ?_;intro K hK)|fail)
  exact ajA rfl rfl (Ext.refl _) (λ v _ _ hv=>by obtain rfl:v=_:=hv;exact OwnI.nil)
 ·refine Fc.of (args:=[_,_]) Tryz.func139 rfl rfl Tryz.ntmps139 nZ ?_
  repeat' (first|(refine yL ?_;first|refine a0A rfl ?_|(refine oD 10 ?_;refine j2A rfl rfl rfl ?_)|(refine oD 19 ?_;refine j2A rfl rfl rfl ?_)|(refine c7A ?_;refine asA (n:=0) (s:=1) (cs:=[]) rfl _ rfl rfl (HasC.ownV (base:=0) (e:=0) Own.nil) ?_)|(refine oD 20 ?_;refine fuA (n:=0) (s:=1) (cs:=[]) rfl _ rfl rfl (HasC.ownV (base:=0) (e:=0) Own.nil) rfl dZ dZ (λ _=>rfl) ?_)|(refine oD 22 ?_;refine a4A (hK _ _ (f6A (n:=0) (kn:=n) (cs:=[]) (cap:=0) (a:=none) rfl dZ c8A rfl rfl rfl (Own.nil (base:=0) (e:=0)).slC oZ oZ oZ dZ oZ oZ (λ v' w1 w2 zs e1 hz1 hz2 ho e2=>?_)));clear hK K;refine aiA kZ (λ K hK=>?_))|refine yO ?_|(refine yC ?_ ?_<;>intro hc)|(refine yN hK ?_;clear hK K))|refine wG ?_|(refine yR ?_;intro K hK)|fail)
  refine ajA rfl rfl (e1.trans e2) (λ v w3 e3 hv=>?_);obtain rfl:v=_:=hv
  rcases ho.2 with ⟨_,h1⟩|⟨gb,cap,cur,rfl,hx⟩
  ·omega
  ·have h2:=k7A ho 0 (Nat.zero_le _)
   have hcap:0<cap:=by have:=hx.2.2.1;omega
   have h3:epA (.slice (some ⟨gb,0,none⟩) (0+n) cap) 0 0 Tryz.prog.types[40].size=.slice (some ⟨gb,0,none⟩) 0 cap:=f1A hcap;rw [h3];exact Own.base (h2.ext e3) e1.size
def rl2 (xs ys:List Int) (i:Nat):List Int:=if i=0 then [] else if i=1 then xs else xs++ys
theorem v3A {w:World} {v ka kb:Value} {xs ys:List Int} (hv:SlC w v 2 1 [ka,kb]) (ha:SlI .u16 w ka xs) (hb:SlI .u16 w kb ys) (hx:xs.length≤65536) (hy:ys.length≤65536) :
 Fc Tryz.prog 96 #[v] w (Ret w (.pred (bnA w.heap.size tK .u16 (xs++ys)))):=by
 have hgr:∀ w',Ext w w'→_:=λ w' e=>blB w' (xs.length+ys.length) oZ
 refine Fc.of (args:=[_]) Tryz.func96 rfl rfl Tryz.ntmps96 nZ ?_
 repeat' (first|(refine yL ?_;first|refine a0A rfl ?_|(refine c7A ?_;refine asA rfl _ rfl rfl (HasC.val hv) ?_)|refine yO ?_|(refine yC ?_ ?_<;>intro hc)|(refine yN hK ?_;clear hK K))|refine wG ?_|(refine yR ?_;intro K hK)|fail)
 refine b5A (ι:=Nat) (λ i=>[(0,.val v),(3,.val (.int .i64 ((rl2 xs ys i).length:Nat))),(9,.val v),(10,.val (.int .i64 2)),(11,.val (.int .i64 i))]) (λ i=>i≤2) (λ i=>2-i) 0 dZ sZ ?_
 intro i hi;obtain rfl|rfl|rfl:i=0∨i=1∨i=2:=oZ
 ·skip
  repeat' (first|(refine yL ?_;first|refine a0A rfl ?_|(refine oD 13 ?_;refine c3A (s:=1) rfl _ rfl (λ _=>rfl) rfl (HasC.val hv) rfl 0 rfl dZ ?_)|(refine oD 14 ?_;refine esA (c:=ka) rfl (λ _=>rfl) rfl ?_)|(refine c7A ?_;refine asA rfl _ rfl rfl (HasI.val ha).c ?_)|(refine oD 18 ?_;refine beA rfl rfl rfl (by show -9223372036854775808≤(0:Int)+xs.length∧(0:Int)+xs.length≤9223372036854775807;omega) ?_)|(refine oD 20 ?_;refine f8A rfl rfl rfl rfl (by show ¬ ((0:Int)+xs.length<0);omega) ?_)|refine yO ?_|(refine yC ?_ ?_<;>intro hc)|(refine yN hK ?_;clear hK K))|refine wG ?_|(refine yR ?_;intro K hK)|fail)
  exact bpA 1 dZ dZ (Sub.same rfl (Sub.val rfl (by show Value.int .i64 ((0:Int)+xs.length)=.int .i64 xs.length;rw [Int.zero_add]) (Sub.same rfl (Sub.same rfl (Sub.same rfl Sub.nil)))))
 ·skip
  repeat' (first|(refine yL ?_;first|refine a0A rfl ?_|(refine oD 13 ?_;refine c3A (s:=1) rfl _ rfl (λ _=>rfl) rfl (HasC.val hv) rfl 1 rfl dZ ?_)|(refine oD 14 ?_;refine esA (c:=kb) rfl (λ _=>rfl) rfl ?_)|(refine c7A ?_;refine asA rfl _ rfl rfl (HasI.val hb).c ?_)|(refine oD 18 ?_;refine beA (a:=(xs.length:Int)) rfl rfl rfl fZ ?_)|refine yO ?_|(refine yC ?_ ?_<;>intro hc)|(refine yN hK ?_;clear hK K))|refine wG ?_|(refine yR ?_;intro K hK)|fail)
  exact bpA 2 dZ dZ (Sub.same rfl (Sub.val rfl (by show Value.int .i64 ((xs.length:Int)+ys.length)=.int .i64 ((xs++ys).length:Nat);rw [List.length_append,Int.natCast_add]) (Sub.same rfl (Sub.same rfl (Sub.same rfl Sub.nil)))))
 ·skip
  repeat' (first|(refine yL ?_;first|refine a0A rfl ?_|(refine oD 23 ?_;refine ddA (c:=.int .i64 ((xs.length+ys.length:Nat):Int)) rfl (by show AD.val (Value.int .i64 ((xs++ys).length:Nat))=_;rw [List.length_append]) ?_)|(refine c7A ?_;refine asA rfl _ rfl rfl (HasC.val hv) ?_)|refine yO ?_|(refine yC ?_ ?_<;>intro hc)|(refine yV ?_;first|(refine oC 139 ?_;refine a3A (f:=139) rfl rfl rfl rfl  (.pred (bnA w.heap.size tK .u16 [])) (by intro u1 u2 w e hu1 hu2;(try obtain rfl:u1=_:=hu1);(try obtain rfl:u2=_:=hu2);exact (hgr _ e).mono (aaA e.size)) ?_))|(refine yN hK ?_;clear hK K))|refine wG ?_|(refine yR ?_;intro K hK)|fail)
  refine e4A 6 rfl (λ v6 w6 e6 h6=>?_)
  refine agA (ι:=Nat × Value) (λ i=>[(6,.val i.2),(25,.val v),(26,.val (.int .i64 2)),(27,.val (.int .i64 i.1))]) (λ i w'=>i.1≤2∧Ext w w'∧OwnI w.heap.size tK .u16 w' i.2 (rl2 xs ys i.1)) (λ i=>2-i.1)
   (λ w2 e2=>⟨(0,v6),⟨Nat.zero_le 2,e6.trans e2,OwnI.ext h6 e2⟩,sZ⟩) ?_
  rintro ⟨i,so⟩ w1 ⟨hi,he,ho⟩;dsimp only at hi ho ⊢;have ha1:=ha.ext he;have hb1:=hb.ext he;have hv1:=hv.ext he;obtain rfl|rfl|rfl:i=0∨i=1∨i=2:=oZ
  ·skip
   repeat' (first|(refine yL ?_;first|refine a0A rfl ?_|(refine oD 29 ?_;refine c3A (s:=1) rfl _ rfl (λ _=>rfl) rfl (HasC.val hv1) rfl 0 rfl dZ ?_)|(refine oD 30 ?_;refine esA (c:=ka) rfl (λ _=>rfl) rfl ?_)|(refine oD 33 ?_;refine a4A (hK _ _ (cpA (n:=0) (cs:=[]) rfl dZ c8A rfl ho rfl (HasI.val ha1).c (by intro u hu;obtain ⟨z,_,rfl⟩:=List.mem_map.1 hu;rfl) (by unfold maxLen;omega) oZ he.size (λ v' wa wb' e' ho' hg'=>?_)));clear hK K;refine aiA kZ (λ K hK=>?_))|refine yO ?_|(refine yC ?_ ?_<;>intro hc)|(refine yN hK ?_;clear hK K))|refine wG ?_|(refine yR ?_;intro K hK)|fail)
   have ho2:OwnI w.heap.size tK .u16 wb' v' (rl2 xs ys 1):=by
    show Own _ _ _ _ _ xs.length (xs.map _)
    simpa using ho'
   exact a6A (1,v') (λ w5 e5=>⟨(by decide:1≤2),((he.trans e').grown hg' (λ q hq=>(Own.lt ho q hq).1)).trans e5,ho2.ext e5⟩) eZ sZ
  ·skip
   repeat' (first|(refine yL ?_;first|refine a0A rfl ?_|(refine oD 29 ?_;refine c3A (s:=1) rfl _ rfl (λ _=>rfl) rfl (HasC.val hv1) rfl 1 rfl dZ ?_)|(refine oD 30 ?_;refine esA (c:=kb) rfl (λ _=>rfl) rfl ?_)|(refine oD 33 ?_;refine a4A (hK _ _ (cpA (n:=xs.length) (cs:=xs.map (Value.int .u16)) rfl dZ c8A rfl ho rfl (HasI.val hb1).c (by intro u hu;obtain ⟨z,_,rfl⟩:=List.mem_map.1 hu;rfl) (by unfold maxLen;omega) oZ he.size (λ v' wa wb' e' ho' hg'=>?_)));clear hK K;refine aiA kZ (λ K hK=>?_))|refine yO ?_|(refine yC ?_ ?_<;>intro hc)|(refine yN hK ?_;clear hK K))|refine wG ?_|(refine yR ?_;intro K hK)|fail)
   have ho2:OwnI w.heap.size tK .u16 wb' v' (rl2 xs ys 2):=by
    show Own _ _ _ _ _ (xs++ys).length ((xs++ys).map _)
    rw [List.length_append,List.map_append];exact ho'
   exact a6A (2,v') (λ w5 e5=>⟨(by decide:2≤2),((he.trans e').grown hg' (λ q hq=>(Own.lt ho q hq).1)).trans e5,ho2.ext e5⟩) eZ sZ
  ·skip
   repeat' (first|(refine yL ?_;first|refine a0A rfl ?_|refine yO ?_|(refine yC ?_ ?_<;>intro hc)|(refine yN hK ?_;clear hK K))|refine wG ?_|(refine yR ?_;intro K hK)|fail)
   exact ajA rfl rfl he (λ u w5 e5 hu=>by obtain rfl:u=_:=hu;exact OwnI.ext (xs:=xs++ys) ho e5)
end Go.Proofs.YtlnaebejmjmepaaGreatDoor
end
