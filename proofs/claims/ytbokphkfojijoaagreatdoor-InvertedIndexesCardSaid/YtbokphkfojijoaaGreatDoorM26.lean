import Derived.Test.YtbokphkfojijoaaGreatDoorM12
import Derived.Test.YtbokphkfojijoaaGreatDoorM22
import Derived.Test.YtbokphkfojijoaaGreatDoorM25
set_option linter.unusedSimpArgs false
set_option linter.unusedVariables false
set_option maxRecDepth 3000
set_option maxHeartbeats 16000000
section
namespace Go.Proofs.YtbokphkfojijoaaGreatDoor.Pt
open Go.LA Go.ArrP Go.RowKit
def orN (ps:Nat→Nat→Bool):Nat→Nat→Bool
 | 0=>λ _=>false
 | k+1=>two (λ x y=>x || y) (orN ps k) (ps k)
noncomputable def raA (ps:Nat→Nat→Bool):Nat→Nat
 | 0=>0
 | k+1=>raA ps k+cnt (ps k) TOP
theorem r8A (ps:Nat→Nat→Bool):∀ k,raA ps k≤k*TOP
 | 0=>Nat.zero_le _
 | k+1=>by
   have:=r8A ps k;have h2:=cnt_le (ps k) TOP;simp only [raA];rw [Nat.succ_mul];omega
theorem a1B {w:World} {v:Value} {ps:Nat→Nat→Bool} {m k rows:Nat} (h:SlI .u8 w v (byA (λ i=>eqA (ps i)) m)) (hT:Tab w) (hk:k≤m) (hm:m≤100) (h8:∀ i,nk (ps i)≤8) (htop:∀ i x,TOP≤x→ps i x=false) (hr:rows≤1000000)
 {d:Bool} (hd:d=true↔((byA (λ i=>eqA (ps i)) k).length=(byA (λ i=>eqA (ps i)) m).length∧raA ps k=rows∧cnt (orN ps k) TOP=rows∧cnt (orN ps k) rows=rows)) :
 Fc Tryz.prog 23 #[v,.int .i64 rows,.int .i64 k] w (Ret w (rdX tIv d k ps)):=by
 have hlh:=h.len;have hml:=jjA h8 m;have hmb:=taA h8 m;have htp:=epA;refine Fc.of (args:=[_,_,_]) Tryz.func23 rfl rfl Tryz.ntmps23 nZ ?_
 repeat' (first|(refine yL ?_;first|refine a0A rfl ?_|refine fnA (c:=.agg #[nilS]) rfl (λ _=>by kernel_rfl) ?_|(refine oD 30 ?_;refine ghA rfl rfl ?_)|refine yO ?_|(refine yC ?_ ?_<;>intro hc)|(refine yV ?_;first|(refine oC 40 ?_;refine dqA (f:=40) rfl rfl  (.pred (rsP TT TT (λ _=>false))) (by intro w e;exact Go.Proofs.YtbokphkfojijoaaGreatDoor.new_c _ tt) ?_))|(refine yN hK ?_;clear hK K))|refine wG ?_|(refine yR ?_;intro K hK)|fail)
 refine c2A 8 rfl (λ v8 wx ex hx8=>?_);refine c2A 9 rfl (λ v9 w9 e9 h9=>?_);obtain ⟨b,hbb,rfl,hb9⟩:=hx8;have hbw:w.heap.size≤b:=hbb
 refine abA (ι:=Nat × Value × Value × List Value) (λ j=>[(0,.val v),(1,.val (.int .i64 rows)),(8,.val (.pointer (some ⟨b,0,none⟩))),(9,.val j.2.1),(10,.val (.int .i64 (raA ps j.1))),(11,.val (.int .i64 (byA (λ i=>eqA (ps i)) j.1).length)),(32,.val (.int .i64 k)),(33,.val (.int .i64 j.1))])
  (λ j w'=>Ext w w'∧j.1≤k∧w'.heap[b]?=some (.cells #[j.2.2.1] tIv (0,0))∧Sets w' w.heap.size j.2.2.1 j.2.2.2 j.1 ps∧RSet TT TT w' j.2.1 (orN ps j.1))
  (λ j=>k-j.1) (λ w2 e2=>⟨(0,v9,nilS,[]),⟨(ex.trans e9).trans e2,Nat.zero_le _,(e9.trans e2).block hb9,⟨Own.nil,λ i hi=>absurd hi (Nat.not_lt_zero _)⟩,RSet.ext h9 e2⟩,sZ⟩) ?_
 rintro ⟨i,wv,sv,ptrs⟩ w1 ⟨he,hi,hb1,hs,hwv⟩;dsimp only at hi hb1 hs hwv ⊢;have hsc:=r8A ps i;have hcl:=jjA h8 i;have hi100:i*TOP≤100*TOP:=Nat.mul_le_mul_right _ oZ
 by_cases hil:i<k
 ·have hsn:raA ps (i+1)=raA ps i+cnt (ps i) TOP:=rfl
  have hon:orN ps (i+1)=two (λ x y=>x || y) (orN ps i) (ps i):=rfl;have hct:cnt (ps i) TOP≤TOP:=cnt_le _ _;have hcn:(byA (λ i=>eqA (ps i)) i).length+(eqA (ps i)).length=(byA (λ i=>eqA (ps i)) (i+1)).length:=by
   show _=(_++eqA (ps i)).length;rw [List.length_append]
  have hrd:∀ w',Ext w1 w'→Fc Tryz.prog 15 #[v,.int .i64 ((byA (λ i=>eqA (ps i)) i).length:Nat)] w' (Ret w' (.tup3 (.pred (rsP TT TT (ps i))) (.val (.int .i64 ((byA (λ i=>eqA (ps i)) (i+1)).length:Nat))) (.val (.int .i64 0)))):=λ w' e=>by
   have:=bzB (f:=cpA (ps i)) (h.ext (he.trans e)) (hT.ext (he.trans e)) oZ hmb (h8 i) (htop i) (apB (ps:=ps) oZ);rw [show (mrA (ps i) (cpA (ps i))).length=(eqA (ps i)).length from rfl,hcn] at this;exact this
  obtain ⟨a0,ha0⟩:∃ a,a=(byA (λ i=>eqA (ps i)) i).length:=⟨_,rfl⟩;obtain ⟨a1,ha1⟩:∃ a,a=(byA (λ i=>eqA (ps i)) (i+1)).length:=⟨_,rfl⟩;obtain ⟨s0,hs0⟩:∃ a,a=raA ps i:=⟨_,rfl⟩;obtain ⟨c0,hc0⟩:∃ a,a=cnt (ps i) TOP:=⟨_,rfl⟩;rw [← ha0,← ha1] at hrd;rw [← ha0];rw [← hs0] at hsn hsc ⊢;rw [← hc0] at hsn hct
  repeat' (first|(refine yL ?_;first|refine a0A rfl ?_|(refine oD 45 ?_;refine a2A (hK _ _ (awA 12 rfl (λ v12 w2 e2 h2=>?_)));clear hK K;have hb2:=e2.block hb1;have hs2:=hs.ext e2;have hp2:RSet TT TT w2 v12 (ps i):=h2;obtain ⟨cv1,cv2⟩:=xsA _ _ h2;refine aeA kZ (λ K hK=>cvA rfl rfl ?_))|refine a9A rfl rfl ?_|refine a1A (a':=⟨b,0,none⟩) rfl rfl (λ _=>rfl) ?_|(refine oD 49 ?_;refine a6A (c:=sv) rfl (λ _=>rfl) rfl hb2 rfl ?_)|(refine oD 51 ?_;refine e6A rfl w5A rfl cv1 ?_)|(refine oD 52 ?_;refine a2A (hK _ _ (arA rfl dZ w5A rfl hs2.own rfl HasC.own (λ c hc=>by rw [List.mem_singleton] at hc;subst hc;exact cv2) (by unfold maxLen;omega) oZ (λ sv' w4 w5 e4 hos hf hl=>?_)));clear hK K;have hb5:=hf.at (e4.block hb2) (λ hq=>Own.apart hs2.own hb2 dZ hq);obtain ⟨ck1,ck2⟩:=ddA hos;refine aeA kZ (λ K hK=>?_))|(refine a2A (hK _ _ (bfA rfl rfl rfl hb5 (λ _=>rfl) (Nat.lt_succ_self 0) ck1 ck2 (λ w6 e6=>?_)));clear hK K;dsimp only [vals];obtain ⟨w7,hw7'⟩:∃ w7,w7=w6.setRow b (#[sv].setIfInBounds 0 sv'):=⟨_,rfl⟩;rw [← hw7'])|refine yO ?_|(refine yC ?_ ?_<;>intro hc)|(refine yV ?_;first|(refine oC 15 ?_;refine a4A (f:=15) rfl rfl rfl rfl  (.tup3 (.pred (rsP TT TT (ps i))) (.val (.int .i64 (a1:Nat))) (.val (.int .i64 0))) (by intro u1 u2 w e hu1 hu2;(try obtain rfl:u1=_:=hu1);(try obtain rfl:u2=_:=hu2);exact hrd _ e) ?_))|(refine yN hK ?_;clear hK K))|refine wG ?_|(refine yR ?_;intro K hK)|fail)
  rw [show #[sv].setIfInBounds 0 sv'=#[sv'] from rfl] at hw7';have x4:=e2.trans e4;have hR:∀ q,sv.ownBlock=some q→∃ cur,w4.heap[q]?=some (.cells cur tPs (0,0)):=λ q hq=>azA (hs.own.ext x4) hq
  have hRs:∀ {p:Nat→Bool} {vv:Value},RSet TT TT w4 vv p→RSet TT TT w5 vv p:=λ hh=>hh.off hf (λ q hq=>by obtain ⟨cur,hc⟩:=hR q hq;exact ⟨cur,_,hc,by decide,by decide,by decide,by decide,by decide⟩)
  have hs9:=hRs (RSet.ext hp2 e4);have hw9:=hRs (RSet.ext hwv x4);have hs5:∀ j,j<i+1→RSet TT TT w5 ((ptrs++[v12]).getD j undef) (ps j):=λ j hj=>by
   rw [gdA hs.own.lenV]
   by_cases e:j<i
   ·rw [if_pos e];exact hRs ((hs.at_ j e).ext x4)
   ·obtain rfl:j=i:=oZ
    rw [if_neg e,if_pos rfl];exact hs9
  have hsv5:LA.Own w.heap.size tPs 1 w5 sv' (i+1) (ptrs++[v12]):=Own.rebase hos (hl.ge (λ q hq=>(Own.lt hs.own q hq).1) (Nat.le_trans he.size x4.size));have x5:Ext w w5:=Fr.ext (he.trans x4) hf (λ q hq=>(Own.lt hs.own q hq).1);have hb6:=e6.block hb5;have hfr:Fr (λ q=>q=b) w6 (w6.setRow b #[sv']):=Fr.setRow (R:=λ q=>q=b) (Fr.of (Ext.refl _)) rfl _;have hRb:∀ q,q=b→∃ cur e,w6.heap[q]?=some (.cells cur e (0,0))∧e=tIv:=λ q hq=>by subst hq;exact ⟨_,_,hb6,rfl⟩
  have hoff:∀ {p:Nat→Bool} {vv:Value},RSet TT TT w5 vv p→RSet TT TT (w6.setRow b #[sv']) vv p:=λ hh=>(RSet.ext hh e6).off hfr (λ q hq=>by obtain ⟨cur,e,h1,rfl⟩:=hRb q hq;exact ⟨cur,_,h1,by decide,by decide,by decide,by decide,by decide⟩)
  have hb7:(w6.setRow b #[sv']).heap[b]?=some (.cells #[sv'] tIv (0,0)):=setRow_heap w6 b _ _ _ _ hb6;have hs7:Sets (w6.setRow b #[sv']) w.heap.size sv' (ptrs++[v12]) (i+1) ps :=
   ⟨Own.setRow (hsv5.ext e6) _ (Own.apart (hsv5.ext e6) hb6 dZ),λ j hj=>hoff (hs5 j hj)⟩
  have hp7:=hoff hs9;have hw7:=hoff hw9;have x7:=(x5.trans e6).setRow hbw #[sv'];rw [← hw7'] at hb7 hs7 hp7 hw7 x7;clear hw7' hoff hRb hfr hb6 hsv5 hs5 hs9 hw9 hRs hR;have hor:∀ w',Ext w7 w'→Fc Tryz.prog 71 #[wv,v12] w' (Ret w' (.pred (rsP TT TT (orN ps (i+1))))):=λ w' e=>by
   rw [hon];exact or_s (A:=TT) (B:=TT) (B1:=TT) (B2:=TT) (.inr (hw7.ext e)) (.inr (hp7.ext e)) (hT.ext (x7.trans e)) tt tt
  have hln:∀ w',Ext w7 w'→Fc Tryz.prog 43 #[v12] w' (Ret w' (.val (.int .i64 (c0:Nat)))):=λ w' e=>by
   rw [hc0];exact qbA (B:=TT) (A:=TT) (.inr (hp7.ext e))
  repeat' (first|(refine yL ?_;first|refine a0A rfl ?_|refine yO ?_|(refine yC ?_ ?_<;>intro hc)|(refine yV ?_;first|(refine oC 71 ?_;refine a4A (f:=71) rfl rfl rfl rfl  (.pred (rsP TT TT (orN ps (i+1)))) (by intro u1 u2 w e hu1 hu2;(try obtain rfl:u1=_:=hu1);(try obtain rfl:u2=_:=hu2);exact hor _ e) ?_)|(refine oC 43 ?_;refine a3A (f:=43) rfl rfl rfl  (.val (.int .i64 (c0:Nat))) (by intro u1 w e hu1;(try obtain rfl:u1=_:=hu1);exact hln _ e) ?_))|(refine yN hK ?_;clear hK K))|refine wG ?_|(refine yR ?_;intro K hK)|fail)
  refine fbA 9 rfl (λ v10 w10 e10 h10=>?_);exact a5A (i+1,v10,sv',ptrs++[v12]) (λ w8 e8=>⟨x7.trans (e10.trans e8),hil,(e10.trans e8).block hb7,hs7.ext (e10.trans e8),RSet.ext h10 e8⟩) eZ (by dsimp only;rw [← ha1,hsn];(repeat' (first|exact Sub.nil|(refine Sub.val rfl ?_ ?_;first|with_reducible rfl|(congr 1;omega))|refine Sub.same rfl ?_));done)
 ·obtain rfl:i=k:=oZ
  have hln:∀ w',Ext w1 w'→_:=λ w' e=>qbA (B:=TT) (A:=TT) (.inr (RSet.ext hwv e))
  have hrk:∀ w',Ext w1 w'→_:=λ w' e=>c0B (B:=TT) (A:=TT) (x:=rows) (.inr (RSet.ext hwv e)) oZ
  rw [Nat.min_eq_left oZ] at hrk;have hc1:cnt (orN ps i) TOP≤TOP:=cnt_le _ _;have hc2:cnt (orN ps i) rows≤rows:=cnt_le _ _;obtain ⟨a0,ha0⟩:∃ a,a=(byA (λ i=>eqA (ps i)) i).length:=⟨_,rfl⟩;obtain ⟨a1,ha1⟩:∃ a,a=(byA (λ i=>eqA (ps i)) m).length:=⟨_,rfl⟩;obtain ⟨s0,hs0⟩:∃ a,a=raA ps i:=⟨_,rfl⟩;obtain ⟨c1,hcc1⟩:∃ a,a=cnt (orN ps i) TOP:=⟨_,rfl⟩;obtain ⟨c2,hcc2⟩:∃ a,a=cnt (orN ps i) rows:=⟨_,rfl⟩;rw [← ha0,← ha1,← hs0,← hcc1,← hcc2] at hd;rw [← hcc1] at hln hc1;rw [← hcc2] at hrk hc2;rw [← ha0,← hs0];rw [← hs0] at hsc;rw [← ha0] at hcl;have hlen:∀ w',SlI .u8 w' v (byA (λ i=>eqA (ps i)) m)→SlC w' v a1 1 ((byA (λ i=>eqA (ps i)) m).map (Value.int .u8)):=λ w' hh=>by rw [ha1];exact hh
  have hcase:(a0=a1∧s0=rows∧c1=rows∧c2=rows∧d=true)∨((a0≠a1∨(a0=a1∧s0≠rows)∨(a0=a1∧s0=rows∧c1≠rows)∨(a0=a1∧s0=rows∧c1=rows∧c2≠rows))∧d=false):=by
   cases d with
   | true=>obtain ⟨h1,h2,h3,h4⟩:=hd.1 rfl;exact .inl ⟨h1,h2,h3,h4,rfl⟩
   | false =>
     refine .inr ⟨?_,rfl⟩;have:¬ (a0=a1∧s0=rows∧c1=rows∧c2=rows):=λ hh=>by have:=hd.2 hh;cases this
     omega
  clear hcc1 hcc2 hs0 ha0 hd
  rcases hcase with ⟨h1,h2,h3,h4,rfl⟩|⟨h1,rfl⟩
  ·skip
   repeat' (first|(refine yL ?_;first|refine a0A rfl ?_|(refine cnA ?_;refine akA rfl _ rfl rfl (HasC.val (hlen _ (h.ext he))) ?_)|refine yO ?_|(refine yC ?_ ?_<;>intro hc)|(refine yV ?_;first|(refine oC 43 ?_;refine a3A (f:=43) rfl rfl rfl  (.val (.int .i64 c1)) (by intro u1 w e hu1;(try obtain rfl:u1=_:=hu1);exact hln _ e) ?_)|(refine oC 72 ?_;refine a4A (f:=72) rfl rfl rfl rfl  (.val (.int .i64 c2)) (by intro u1 u2 w e hu1 hu2;(try obtain rfl:u1=_:=hu1);(try obtain rfl:u2=_:=hu2);exact hrk _ e) ?_))|(refine yN hK ?_;clear hK K))|refine wG ?_|(refine yR ?_;intro K hK)|fail)
   refine dsA rfl (λ x y w5 e5 hx hy=>⟨_,rfl,he.trans e5,x,y,rfl,?_,hy⟩);obtain rfl:x=_:=hx;exact ⟨b,sv,ptrs,rfl,e5.block hb1,⟨Own.base (hs.ext e5).own (Nat.zero_le _),(hs.ext e5).at_⟩⟩
  ·rcases h1 with h1|⟨h1,h2⟩|⟨h1,h2,h3⟩|⟨h1,h2,h3,h4⟩
   all_goals
    repeat' (first|(refine yL ?_;first|refine a0A rfl ?_|(refine cnA ?_;refine akA rfl _ rfl rfl (HasC.val (hlen _ (h.ext he))) ?_)|refine yO ?_|(refine yC ?_ ?_<;>intro hc)|(refine yV ?_;first|(refine oC 43 ?_;refine a3A (f:=43) rfl rfl rfl  (.val (.int .i64 c1)) (by intro u1 w e hu1;(try obtain rfl:u1=_:=hu1);exact hln _ e) ?_)|(refine oC 72 ?_;refine a4A (f:=72) rfl rfl rfl rfl  (.val (.int .i64 c2)) (by intro u1 u2 w e hu1 hu2;(try obtain rfl:u1=_:=hu1);(try obtain rfl:u2=_:=hu2);exact hrk _ e) ?_))|(refine yN hK ?_;clear hK K))|refine wG ?_|(refine yR ?_;intro K hK)|fail)
    all_goals exact diA rfl rfl rfl he rfl rfl
theorem rtA (ids:List Int):∀ k,orN (λ i=>idP ids i) k=sumP ids k
 | 0=>rfl
 | k+1=>by
   show two _ (orN (λ i=>idP ids i) k) (idP ids k)=two _ (sumP ids k) (idP ids k)
   rw [rtA ids k]
theorem r9A (ids:List Int):∀ k,raA (λ i=>idP ids i) k=cnt (sumP ids k) TOP
 | 0=>(d6B λ x h=>by have:=((h9A _).1 h).2;omega).symm
 | k+1=>by
   show raA (λ i=>idP ids i) k+cnt (idP ids k) TOP=_
   rw [r9A ids k,bpB]
theorem pqA {w w1 wu wv:World} {v v':Value} {a b:List Int} (h:OwnI w.heap.size tB .u8 w1 v a) (x:Ext w w1) (eu:Ext w1 wu) (ho:LA.Own 0 tB 1 wv v' (a.length+b.length) (a.map (Value.int .u8)++b.map (Value.int .u8))) (hfr:Fr (λ k=>v.ownBlock=some k) wu wv) (hlc:LocR wu v v') :
 Ext w wv∧OwnI w.heap.size tB .u8 wv v' (a++b):=by
 have hx:=x.trans eu;refine ⟨Fr.ext hx hfr (λ k hk=>(Own.lt h k hk).1),?_⟩;unfold OwnI;rw [List.map_append,List.length_append];exact Own.rebase ho (hlc.ge (λ k hk=>(Own.lt h k hk).1) hx.size)
theorem k1A (w:World) {n:Int} (h0:0≤n) (hn:n<4611686018427387904):Fc Tryz.prog 45 #[.int .i64 n] w (Ret w (.pred (b4A w.heap.size tB .u8 (leS n 2)))):=by
 have h1:0≤n % 256∧n % 256<256:=oZ;have h2:0≤n / 256 % 256∧n / 256 % 256<256:=oZ;have hl:leS n 2=[n % 256,n / 256 % 256]:=rfl;rw [hl];refine Fc.of (args:=[_]) Tryz.func45 rfl rfl Tryz.ntmps45 nZ ?_
 repeat' (first|(refine yL ?_;first|refine a0A rfl ?_|(refine oD 10 ?_;refine ptA rfl erA rfl rfl rfl rfl ?_)|refine yO ?_|(refine yC ?_ ?_<;>intro hc)|(refine yN hK ?_;clear hK K))|refine wG ?_|(refine yR ?_;intro K hK)|fail)
 exact aiA rfl rfl (Ext.refl _) (λ u w5 e5 hu=>hu)
theorem sqA (w:World) {n:Int} (h0:0≤n) (hn:n<4611686018427387904):Fc Tryz.prog 46 #[.int .i64 n] w (Ret w (.pred (b4A w.heap.size tB .u8 (leS n 4)))):=by
 have hj:=p5A (n % 65536) (n / 65536) oZ oZ oZ;rw [show n % 65536+65536*(n / 65536)=n by omega] at hj;rw [← hj];refine Fc.of (args:=[_]) Tryz.func46 rfl rfl Tryz.ntmps46 nZ ?_
 repeat' (first|(refine yL ?_;first|refine a0A rfl ?_|(refine oD 9 ?_;refine a2A (hK _ _ (awA 5 rfl (λ va wa ea ha=>awA 8 rfl (λ vb wb eb hb=>?_))));clear hK K;replace ha:OwnI w.heap.size tB .u8 wa va (leS (n % 65536) 2):=ha;replace hb:OwnI w.heap.size tB .u8 wb vb (leS (n / 65536) 2):=hb;refine arA rfl dZ erA rfl (OwnI.ext ha eb) rfl (HasI.ownV hb).c c4A (by unfold maxLen;simp only [alA];omega) (by simp only [alA];omega) (λ v' wu wv eu ho hfr hlc=>?_);refine aeA kZ (λ K hK=>?_))|refine yO ?_|(refine yC ?_ ?_<;>intro hc)|(refine yV ?_;first|(refine oD 5 ?_;refine oC 45 ?_;refine a3A (f:=45) rfl rfl rfl  (.pred (b4A w.heap.size tB .u8 (leS (n % 65536) 2))) (by intro u1 w e hu1;(try obtain rfl:u1=_:=hu1);exact (k1A _ oZ oZ).mono (a8A e.size)) ?_)|(refine oD 8 ?_;refine oC 45 ?_;refine a3A (f:=45) rfl rfl rfl  (.pred (b4A w.heap.size tB .u8 (leS (n / 65536) 2))) (by intro u1 w e hu1;(try obtain rfl:u1=_:=hu1);exact (k1A _ oZ oZ).mono (a8A e.size)) ?_))|(refine yN hK ?_;clear hK K))|refine wG ?_|(refine yR ?_;intro K hK)|fail)
 obtain ⟨x3,hn3⟩:=pqA (OwnI.ext ha eb) (ea.trans eb) eu ho hfr hlc;exact aiA rfl rfl x3 (λ u w5 e5 hu=>by obtain rfl:u=_:=hu;exact OwnI.ext hn3 e5)
theorem p4A (n:Int):∀ k,leS n (k+1)=leS n k++[n / 256 ^ k % 256]
 | 0=>by simp [leS]
 | k+1=>by
   have ih:=p4A (n / 256) k;show (n % 256)::leS (n / 256) (k+1)=_;rw [ih,Int.ediv_ediv_of_nonneg (by omega:(0:Int)≤256),Int.pow_succ,Int.mul_comm (256 ^ k) 256];rfl
theorem wrapK (x:Int) (k:Nat):IntKind.u8.wrap (x / 2 ^ ((8*k:Nat):Int).toNat)=x / 256 ^ k % 256:=by
 rw [Int.toNat_natCast,Int.pow_mul];rfl
def kdF (q:Nat→Bool) (f:Bool):Int:=if f then 3 else if cnt q 65536≤4096 then 1 else 2
theorem z9A {w:World} {v:Value} {q:Nat→Bool} {base:Nat} (h:MkI base tM w v q) (f:Bool):Fc Tryz.prog 48 #[v,.int .u8 (kdF q f)] w (Ret w (.pred (b4A w.heap.size tB .u8 (d3A q f)))):=by
 cases f with
 | true =>
   have hk:kdF q true=3:=rfl;have hr:∀ w',Ext w w'→_:=λ w' e=>rkA w' v base q (h.ext e)
   have hfew:=ifA q;have hu:=doA q;have hbf:d3A q true=leS (aqA q).length 2++flG mqA (aqA q):=by unfold d3A;rw [if_pos rfl]
   rw [hbf,hk];obtain ⟨rs,hrs⟩:∃ rs,rs=aqA q:=⟨_,rfl⟩;rw [← hrs] at hr hfew hu ⊢;clear hrs hbf hk;refine Fc.of (args:=[_,_]) Tryz.func48 rfl rfl Tryz.ntmps48 nZ ?_
   repeat' (first|(refine yL ?_;first|refine a0A rfl ?_|(refine oD 44 ?_;refine bvA rfl _ rfl rfl HasR.own ?_)|(refine oD 46 ?_;refine a2A (hK _ _ (awA 6 rfl (λ v6 w6 e6 h6=>awA 45 rfl (λ vb wb eb hb=>?_))));clear hK K;replace hb:OwnI w.heap.size tB .u8 wb vb (leS rs.length 2):=hb;refine arA (v:=nilS) (cs:=[]) (n:=0) rfl dZ erA rfl (base:=w.heap.size) Own.nil rfl (HasI.ownV hb).c c4A (by unfold maxLen;simp only [alA];omega) (by simp only [alA];omega) (λ v' wu wv eu ho hfr hlc=>?_);refine aeA kZ (λ K hK=>?_))|refine yO ?_|(refine yC ?_ ?_<;>intro hc)|(refine yV ?_;first|(refine oC 84 ?_;refine a3A (f:=84) rfl rfl rfl  (.pred (fdA w.heap.size tRn rs)) (by intro u1 w e hu1;(try obtain rfl:u1=_:=hu1);exact (hr _ e).mono (b9A e.size rfl)) ?_)|(refine oC 45 ?_;refine a3A (f:=45) rfl rfl rfl  (.pred (b4A w.heap.size tB .u8 (leS rs.length 2))) (by intro u1 w e hu1;(try obtain rfl:u1=_:=hu1);exact (k1A _ oZ oZ).mono (a8A e.size)) ?_))|(refine yN hK ?_;clear hK K))|refine wG ?_|(refine yR ?_;intro K hK)|fail)
   obtain ⟨x3,hn3⟩:=pqA (a:=[]) (b:=leS rs.length 2) OwnI.nil (e6.trans eb) eu ho hfr hlc;rw [List.nil_append] at hn3;replace h6:OwnR w.heap.size tRn w6 v6 rs:=h6;have h6v:OwnR w.heap.size tRn wv v6 rs:=coA (OwnR.ext h6 (eb.trans eu)) hfr (λ k hk=>by cases hk)
   refine abA (ι:=Nat × Value) (λ j=>[(5,.val j.2),(6,.val v6),(7,.val (.int .i64 j.1))])
    (λ j w'=>Ext w w'∧OwnR w.heap.size tRn w' v6 rs∧j.1≤rs.length∧OwnI w.heap.size tB .u8 w' j.2 (leS rs.length 2++flG mqA (rs.take j.1))) (λ j=>rs.length-j.1)
    (λ w4 e4=>⟨(0,v'),⟨x3.trans e4,OwnR.ext h6v e4,Nat.zero_le _,by rw [List.take_zero];show OwnI _ _ _ _ _ (_++[]);rw [List.append_nil];exact OwnI.ext hn3 e4⟩,sZ⟩) ?_
   rintro ⟨i,v4⟩ w4 ⟨he,hR,hi,h4⟩;dsimp only at hi h4 ⊢
   by_cases hil:i<rs.length
   ·have hl4:(leS rs.length 2++flG mqA (rs.take i)).length≤200000:=by rw [List.length_append,alA,d9A _ haA,List.length_take];omega
    obtain ⟨g1,g2,g3,g4⟩:=hu _ (show rs.getD i (0,0) ∈ rs by rw [List.getD_eq_getElem?_getD,List.getElem?_eq_getElem hil];exact List.getElem_mem hil);have htk:=fsA mqA (0,0) hil;obtain ⟨⟨fx,mx⟩,hfm⟩:∃ r,r=rs.getD i (0,0):=⟨_,rfl⟩;rw [← hfm] at g1 g2 g3 g4 htk;have hf1:fst rs i=fx:=by show (rs.getD i (0,0)).1=fx;rw [← hfm]
    have hm1:mor rs i=mx:=by show (rs.getD i (0,0)).2=mx;rw [← hfm]
    dsimp only at g1 g2 g3 g4;obtain ⟨ys,hys⟩:∃ ys,ys=leS rs.length 2++flG mqA (rs.take i):=⟨_,rfl⟩;rw [← hys] at h4 hl4
    repeat' (first|(refine yL ?_;first|refine a0A rfl ?_|(refine oD 49 ?_;refine bvA rfl _ rfl rfl (HasR.ownV hR) ?_)|(refine oD 56 ?_;refine baA rfl _ rfl (λ _=>rfl) rfl (HasR.ownV hR) rfl hil ?_;rw [hf1,hm1])|(refine oD 65 ?_;refine baA rfl _ rfl (λ _=>rfl) rfl (HasR.ownV hR1) rfl hil ?_;rw [hf1,hm1])|(refine oF 0 ?_;refine ajA (f:=0) (o:=0) rfl rfl (λ _ _=>rfl) ?_)|(refine oF 1 ?_;refine ajA (f:=1) (o:=1) rfl rfl (λ _ _=>rfl) ?_)|(refine oL ?_;refine boA rfl (λ _=>rfl) rfl rfl ?_)|(refine oD 61 ?_;refine a2A (hK _ _ (awA 60 rfl (λ vb1 wb1 eb1 hb1=>?_)));clear hK K;replace hb1:OwnI w.heap.size tB .u8 wb1 vb1 (leS fx 2):=hb1;refine arA rfl dZ erA rfl (OwnI.ext h4 eb1) rfl (HasI.ownV hb1).c c4A (by unfold maxLen;simp only [List.length_append,alA];omega) (by simp only [List.length_append,alA];omega) (λ v1 wu1 wv1 eu1 ho1 hfr1 hlc1=>?_);obtain ⟨x1,hn1⟩:=pqA (OwnI.ext h4 eb1) (he.trans eb1) eu1 ho1 hfr1 hlc1;have hR1:OwnR w.heap.size tRn wv1 v6 rs:=coA (OwnR.ext hR (eb1.trans eu1)) hfr1 (λ k hk=>by obtain ⟨cur,hc⟩:=azA (OwnI.ext h4 (eb1.trans eu1)) hk;exact ⟨cur,_,_,hc,by decide⟩);refine aeA kZ (λ K hK=>?_))|(refine oD 70 ?_;refine a2A (hK _ _ (awA 69 rfl (λ vb2 wb2 eb2 hb2=>?_)));clear hK K;replace hb2:OwnI w.heap.size tB .u8 wb2 vb2 (leS mx 2):=hb2;refine arA rfl dZ erA rfl (OwnI.ext hn1 eb2) rfl (HasI.ownV hb2).c c4A (by unfold maxLen;simp only [List.length_append,alA];omega) (by simp only [List.length_append,alA];omega) (λ v2 wu2 wv2 eu2 ho2 hfr2 hlc2=>?_);obtain ⟨x2,hn2⟩:=pqA (OwnI.ext hn1 eb2) (x1.trans eb2) eu2 ho2 hfr2 hlc2;have hR2:OwnR w.heap.size tRn wv2 v6 rs:=coA (OwnR.ext hR1 (eb2.trans eu2)) hfr2 (λ k hk=>by obtain ⟨cur,hc⟩:=azA (OwnI.ext hn1 (eb2.trans eu2)) hk;exact ⟨cur,_,_,hc,by decide⟩);refine aeA kZ (λ K hK=>?_))|refine yO ?_|(refine yC ?_ ?_<;>intro hc)|(refine yV ?_;first|(refine oD 60 ?_;refine oC 45 ?_;refine a3A (f:=45) rfl rfl rfl  (.pred (b4A w.heap.size tB .u8 (leS fx 2))) (by intro u1 w e hu1;(try obtain rfl:u1=_:=hu1);exact (k1A _ oZ oZ).mono (a8A (he.trans e).size)) ?_)|(refine oD 69 ?_;refine oC 45 ?_;refine a3A (f:=45) rfl rfl rfl  (.pred (b4A w.heap.size tB .u8 (leS mx 2))) (by intro u1 w e hu1;(try obtain rfl:u1=_:=hu1);exact (k1A _ oZ oZ).mono (a8A (x1.trans e).size)) ?_))|(refine yN hK ?_;clear hK K))|refine wG ?_|(refine yR ?_;intro K hK)|fail)
    exact a5A (i+1,v2) (λ w6 e6=>⟨x2.trans e6,OwnR.ext hR2 e6,hil,by rw [htk,← List.append_assoc,← hys];unfold mqA;rw [← List.append_assoc];exact OwnI.ext hn2 e6⟩) eZ sZ
   ·obtain rfl:i=rs.length:=oZ
    rw [List.take_length] at h4
    repeat' (first|(refine yL ?_;first|refine a0A rfl ?_|(refine oD 49 ?_;refine bvA rfl _ rfl rfl (HasR.ownV hR) ?_)|refine yO ?_|(refine yC ?_ ?_<;>intro hc)|(refine yN hK ?_;clear hK K))|refine wG ?_|(refine yR ?_;intro K hK)|fail)
    exact aiA rfl rfl he (λ u w5 e5 hu=>by obtain rfl:u=_:=hu;exact OwnI.ext h4 e5)
 | false =>
   by_cases h4096:cnt q 65536≤4096
   ·have hk:kdF q false=1:=by unfold kdF;rw [if_neg dZ,if_pos h4096]
    have hr:∀ w',Ext w w'→_:=λ w' e=>ncA w' v base q (h.ext e)
    have hbf:d3A q false=flG (λ x=>leS x 2) (ahA q 65536):=by unfold d3A;rw [if_neg dZ,if_pos h4096]
    have hln:(ahA q 65536).length≤4096:=by rw [b1A];exact h4096
    have hu:∀ x ∈ ahA q 65536,0≤x∧x<65536:=λ x hx=>by
     obtain ⟨i,g1,-,g3⟩:=(c7A _ _ _).1 hx;omega
    rw [hbf,hk];obtain ⟨rs,hrs⟩:∃ rs,rs=ahA q 65536:=⟨_,rfl⟩;rw [← hrs] at hr hln hu ⊢;clear hrs hbf hk h4096;refine Fc.of (args:=[_,_]) Tryz.func48 rfl rfl Tryz.ntmps48 nZ ?_
    repeat' (first|(refine yL ?_;first|refine a0A rfl ?_|refine yO ?_|(refine yC ?_ ?_<;>intro hc)|(refine yV ?_;first|(refine oC 47 ?_;refine a3A (f:=47) rfl rfl rfl  (.pred (b4A w.heap.size tK .u16 rs)) (by intro u1 w e hu1;(try obtain rfl:u1=_:=hu1);exact (hr _ e).mono (a8A e.size)) ?_))|(refine yN hK ?_;clear hK K))|refine wG ?_|(refine yR ?_;intro K hK)|fail)
    refine c2A 8 rfl (λ v6 w6 e6 h6=>?_);replace h6:OwnI w.heap.size tK .u16 w6 v6 rs:=h6
    refine abA (ι:=Nat × Value) (λ j=>[(5,.val j.2),(8,.val v6),(9,.val (.int .i64 j.1))])
     (λ j w'=>Ext w w'∧OwnI w.heap.size tK .u16 w' v6 rs∧j.1≤rs.length∧OwnI w.heap.size tB .u8 w' j.2 (flG (λ x=>leS x 2) (rs.take j.1))) (λ j=>rs.length-j.1)
     (λ w4 e4=>⟨(0,nilS),⟨e6.trans e4,OwnI.ext h6 e4,Nat.zero_le _,by rw [List.take_zero];exact OwnI.nil⟩,sZ⟩) ?_
    rintro ⟨i,v4⟩ w4 ⟨he,hR,hi,h4⟩;dsimp only at hi h4 ⊢
    by_cases hil:i<rs.length
    ·have hl4:(flG (λ x=>leS x 2) (rs.take i)).length≤200000:=by rw [d9A _ (λ x=>alA x 2),List.length_take];omega
     obtain ⟨g1,g2⟩:=hu _ (show rs.getD i 0 ∈ rs by rw [List.getD_eq_getElem?_getD,List.getElem?_eq_getElem hil];exact List.getElem_mem hil);have htk:=fsA (λ x=>leS x 2) (0:Int) hil;obtain ⟨fx,hfm⟩:∃ r,r=rs.getD i 0:=⟨_,rfl⟩;rw [← hfm] at g1 g2 htk;obtain ⟨ys,hys⟩:∃ ys,ys=flG (λ x=>leS x 2) (rs.take i):=⟨_,rfl⟩;rw [← hys] at h4 hl4 htk
     repeat' (first|(refine yL ?_;first|refine a0A rfl ?_|(refine cnA ?_;refine akA rfl _ rfl rfl (HasI.ownV hR).c ?_)|(refine oD 84 ?_;refine acA rfl _ rfl (λ _=>rfl) rfl (HasI.ownV hR) rfl hil ?_;rw [← hfm])|(refine oD 88 ?_;refine a2A (hK _ _ (awA 87 rfl (λ vb1 wb1 eb1 hb1=>?_)));clear hK K;replace hb1:OwnI w.heap.size tB .u8 wb1 vb1 (leS fx 2):=hb1;refine arA rfl dZ erA rfl (OwnI.ext h4 eb1) rfl (HasI.ownV hb1).c c4A (by unfold maxLen;simp only [List.length_append,alA];omega) (by simp only [List.length_append,alA];omega) (λ v1 wu1 wv1 eu1 ho1 hfr1 hlc1=>?_);obtain ⟨x1,hn1⟩:=pqA (OwnI.ext h4 eb1) (he.trans eb1) eu1 ho1 hfr1 hlc1;have hR1:OwnI w.heap.size tK .u16 wv1 v6 rs:=coA (OwnI.ext hR (eb1.trans eu1)) hfr1 (λ k hk=>by obtain ⟨cur,hc⟩:=azA (OwnI.ext h4 (eb1.trans eu1)) hk;exact ⟨cur,_,_,hc,by decide⟩);refine aeA kZ (λ K hK=>?_))|refine yO ?_|(refine yC ?_ ?_<;>intro hc)|(refine yV ?_;first|(refine oD 87 ?_;refine oC 45 ?_;refine a3A (f:=45) rfl rfl rfl  (.pred (b4A w.heap.size tB .u8 (leS fx 2))) (by intro u1 w e hu1;(try obtain rfl:u1=_:=hu1);exact (k1A _ oZ oZ).mono (a8A (he.trans e).size)) ?_))|(refine yN hK ?_;clear hK K))|refine wG ?_|(refine yR ?_;intro K hK)|fail)
     exact a5A (i+1,v1) (λ w6 e6=>⟨x1.trans e6,OwnI.ext hR1 e6,hil,by dsimp only;rw [htk];exact OwnI.ext hn1 e6⟩) eZ sZ
    ·obtain rfl:i=rs.length:=oZ
     rw [List.take_length] at h4
     repeat' (first|(refine yL ?_;first|refine a0A rfl ?_|(refine cnA ?_;refine akA rfl _ rfl rfl (HasI.ownV hR).c ?_)|refine yO ?_|(refine yC ?_ ?_<;>intro hc)|(refine yN hK ?_;clear hK K))|refine wG ?_|(refine yR ?_;intro K hK)|fail)
     exact aiA rfl rfl he (λ u w5 e5 hu=>by obtain rfl:u=_:=hu;exact OwnI.ext h4 e5)
   ·have hk:kdF q false=2:=by unfold kdF;rw [if_neg dZ,if_neg h4096]
    have hr:∀ w',Ext w w'→_:=λ w' e=>usA w' v base q (h.ext e)
    have hbf:d3A q false=flG (λ x=>leS x 8) (wordsOf q):=by unfold d3A;rw [if_neg dZ,if_neg h4096]
    have hln:(wordsOf q).length=1024:=axA q;have hu:∀ x ∈ wordsOf q,0≤x∧x<18446744073709551616:=λ x hx=>bxA q x hx
    rw [hbf,hk];obtain ⟨rs,hrs⟩:∃ rs,rs=wordsOf q:=⟨_,rfl⟩;rw [← hrs] at hr hln hu ⊢;clear hrs hbf hk h4096;refine Fc.of (args:=[_,_]) Tryz.func48 rfl rfl Tryz.ntmps48 nZ ?_
    repeat' (first|(refine yL ?_;first|refine a0A rfl ?_|refine yO ?_|(refine yC ?_ ?_<;>intro hc)|(refine yV ?_;first|(refine oC 85 ?_;refine a3A (f:=85) rfl rfl rfl  (.pred (b4A w.heap.size 61 .u64 rs)) (by intro u1 w e hu1;(try obtain rfl:u1=_:=hu1);exact (hr _ e).mono (a8A e.size)) ?_))|(refine yN hK ?_;clear hK K))|refine wG ?_|(refine yR ?_;intro K hK)|fail)
    refine c2A 10 rfl (λ v6 w6 e6 h6=>?_);replace h6:OwnI w.heap.size 61 .u64 w6 v6 rs:=h6
    refine abA (ι:=Nat × Value) (λ j=>[(5,.val j.2),(10,.val v6),(11,.val (.int .i64 j.1))])
     (λ j w'=>Ext w w'∧OwnI w.heap.size 61 .u64 w' v6 rs∧j.1≤rs.length∧OwnI w.heap.size tB .u8 w' j.2 (flG (λ x=>leS x 8) (rs.take j.1))) (λ j=>rs.length-j.1)
     (λ w4 e4=>⟨(0,nilS),⟨e6.trans e4,OwnI.ext h6 e4,Nat.zero_le _,by rw [List.take_zero];exact OwnI.nil⟩,sZ⟩) ?_
    rintro ⟨i,v4⟩ w4 ⟨he,hR,hi,h4⟩;dsimp only at hi h4 ⊢
    by_cases hil:i<rs.length
    ·have hl4:(flG (λ x=>leS x 8) (rs.take i)).length≤20000:=by rw [d9A _ (λ x=>alA x 8),List.length_take];omega
     obtain ⟨g1,g2⟩:=hu _ (show rs.getD i 0 ∈ rs by rw [List.getD_eq_getElem?_getD,List.getElem?_eq_getElem hil];exact List.getElem_mem hil);have htk:=fsA (λ x=>leS x 8) (0:Int) hil;obtain ⟨fx,hfm⟩:∃ r,r=rs.getD i 0:=⟨_,rfl⟩;rw [← hfm] at g1 g2 htk;obtain ⟨ys,hys⟩:∃ ys,ys=flG (λ x=>leS x 8) (rs.take i):=⟨_,rfl⟩;rw [← hys] at h4 hl4 htk
     repeat' (first|(refine yL ?_;first|refine a0A rfl ?_|(refine cnA ?_;refine akA rfl _ rfl rfl (HasI.ownV hR).c ?_)|refine yO ?_|(refine yC ?_ ?_<;>intro hc)|(refine yN hK ?_;clear hK K))|refine wG ?_|(refine yR ?_;intro K hK)|fail)
     refine abA (ι:=Nat × Value) (λ j=>[(5,.val j.2),(10,.val v6),(11,.val (.int .i64 i)),(12,.val (.int .i64 j.1))])
      (λ j w'=>Ext w w'∧OwnI w.heap.size 61 .u64 w' v6 rs∧j.1≤8∧OwnI w.heap.size tB .u8 w' j.2 (ys++leS fx j.1)) (λ j=>8-j.1)
      (λ w5 e5=>⟨(0,v4),⟨he.trans e5,OwnI.ext hR e5,Nat.zero_le _,by show OwnI _ _ _ _ _ (_++[]);rw [List.append_nil];exact OwnI.ext h4 e5⟩,sZ⟩) ?_
     clear he hR h4 w4;rintro ⟨k,v4⟩ w4 ⟨he,hR,hk8,h4⟩;dsimp only at hk8 h4 ⊢
     by_cases hk:k<8
     ·have hsn:=p4A fx k
      have hll:=alA fx k;have hwr:=wrapK fx k;obtain ⟨zs,hzs⟩:∃ zs,zs=ys++leS fx k:=⟨_,rfl⟩;have hzl:zs.length≤30000:=by rw [hzs,List.length_append];omega
      have hzn:ys++leS fx (k+1)=zs++[fx / 256 ^ k % 256]:=by rw [hsn,hzs,List.append_assoc]
      rw [← hzs] at h4;obtain ⟨y,hy⟩:∃ y,y=fx / 256 ^ k % 256:=⟨_,rfl⟩;rw [← hy] at hwr hzn
      repeat' (first|(refine yL ?_;first|refine a0A rfl ?_|(refine oD 29 ?_;refine acA rfl _ rfl (λ _=>rfl) rfl (HasI.ownV hR) rfl hil ?_;rw [← hfm])|(refine oD 32 ?_;refine f4A rfl rfl rfl fZ ?_;rw [show (8:Int)*(k:Int)=((8*k:Nat):Int) by omega])|(refine oD 34 ?_;refine myA rfl rfl rfl ?_)|(refine oD 35 ?_;refine eiA rfl rfl rfl rfl ?_;rw [hwr])|(refine oD 36 ?_;refine g3A rfl erA rfl rfl ?_)|(refine oD 37 ?_;refine a2A (hK _ _ (arA rfl dZ erA rfl h4 rfl HasC.pred (λ u hu=>by rw [List.mem_singleton] at hu;subst hu;rfl) (by unfold maxLen;omega) oZ (λ v1 wu1 wv1 eu1 ho1 hfr1 hlc1=>?_)));clear hK K;obtain ⟨x1,hn1⟩:=pqA (b:=[y]) h4 he eu1 ho1 hfr1 hlc1;have hR1:OwnI w.heap.size 61 .u64 wv1 v6 rs:=coA (OwnI.ext hR eu1) hfr1 (λ k hk=>by obtain ⟨cur,hc⟩:=azA (OwnI.ext h4 eu1) hk;exact ⟨cur,_,_,hc,by decide⟩);refine aeA kZ (λ K hK=>?_))|refine yO ?_|(refine yC ?_ ?_<;>intro hc)|(refine yN hK ?_;clear hK K))|refine wG ?_|(refine yR ?_;intro K hK)|fail)
      exact a5A (k+1,v1) (λ w6 e6=>⟨x1.trans e6,OwnI.ext hR1 e6,hk,by dsimp only;rw [hzn];exact OwnI.ext hn1 e6⟩) eZ sZ
     ·obtain rfl:k=8:=oZ
      rw [← htk] at h4
      repeat' (first|(refine yL ?_;first|refine a0A rfl ?_|refine yO ?_|(refine yC ?_ ?_<;>intro hc)|(refine yN hK ?_;clear hK K))|refine wG ?_|(refine yR ?_;intro K hK)|fail)
      exact a5A (i+1,v4) (λ w6 e6=>⟨he.trans e6,OwnI.ext hR e6,hil,OwnI.ext h4 e6⟩) eZ sZ
    ·obtain rfl:i=rs.length:=oZ
     rw [List.take_length] at h4
     repeat' (first|(refine yL ?_;first|refine a0A rfl ?_|(refine cnA ?_;refine akA rfl _ rfl rfl (HasI.ownV hR).c ?_)|refine yO ?_|(refine yC ?_ ?_<;>intro hc)|(refine yN hK ?_;clear hK K))|refine wG ?_|(refine yR ?_;intro K hK)|fail)
     exact aiA rfl rfl he (λ u w5 e5 hu=>by obtain rfl:u=_:=hu;exact OwnI.ext h4 e5)
abbrev tBs:Nat:=35
theorem d0B:El Tryz.prog 79 35 (.slice none 0 0) 1 24:=⟨rfl,rfl,rfl,by decide⟩
def jlA (f:Nat→Bool) (n:Nat):List Value:=(List.range n).map (λ i=>Value.bool (f i))
theorem tgA {f:Nat→Bool} {n i:Nat} (h:i<n):(jlA f n).getD i undef=.bool (f i):=by
 simp [jlA,List.getD_eq_getElem?_getD,List.getElem?_range h]
theorem tfA (f:Nat→Bool) (n:Nat):(jlA f n).length=n:=by simp [jlA]
structure BRow (base:Nat) (w:World) (vbs:Value) (bs:List Value) (n:Nat) (p f:Nat→Bool) (vo:Value):Prop where
 own:LA.Own base tBs 1 w vbs n bs
 at_:∀ j,j<n→OwnI base tB .u8 w (bs.getD j undef) (dpA p f j)
 ap:∀ j,j<n→∀ k,(bs.getD j undef).ownBlock=some k→vo.ownBlock≠some k
theorem BRow.ext {base n:Nat} {w w':World} {vbs vo:Value} {bs:List Value} {p f:Nat→Bool} (h:BRow base w vbs bs n p f vo) (e:Ext w w'):BRow base w' vbs bs n p f vo:=⟨h.own.ext e,λ j hj=>(h.at_ j hj).ext e,h.ap⟩
theorem BRow.nil {base:Nat} {w:World} {p f:Nat→Bool} {vo:Value}:BRow base w nilS [] 0 p f vo:=⟨Own.nil,λ j hj=>absurd hj (Nat.not_lt_zero _),λ j hj=>absurd hj (Nat.not_lt_zero _)⟩
theorem BRow.grow {base n:Nat} {w w':World} {vbs vo v':Value} {bs:List Value} {p f:Nat→Bool} {a:List Int} (h:BRow base w vbs bs n p f vo) (ha:OwnI base tB .u8 w vo a) (hfr:Fr (λ k=>vo.ownBlock=some k) w w') (hlc:LocR w vo v'):BRow base w' vbs bs n p f v':=by
 refine ⟨coA h.own hfr (λ k hk=>?_),λ j hj=>hfr.own (h.at_ j hj) (λ k hk=>h.ap j hj k hk),λ j hj k hk=>?_⟩
 ·obtain ⟨cur,hc⟩:=azA ha hk
  exact ⟨cur,_,_,hc,by decide⟩
 ·rcases hlc with e|e
  ·rw [e];exact h.ap j hj k hk
  ·intro hv
   have h1:=e k hv;have h2:=(Own.lt (h.at_ j hj) k hk).2;omega
theorem BRow.push {base n:Nat} {w w':World} {vbs vo v' u:Value} {bs:List Value} {p f:Nat→Bool} (h:BRow base w vbs bs n p f vo) (hu:OwnI base tB .u8 w u (dpA p f n)) (hap:∀ k,u.ownBlock=some k→vo.ownBlock≠some k) (ho:LA.Own 0 tBs 1 w' v' (n+1) (bs++[u])) (hfr:Fr (λ k=>vbs.ownBlock=some k) w w') (hlc:LocR w vbs v') (hb:base≤w.heap.size):BRow base w' v' (bs++[u]) (n+1) p f vo:=by
 have hoff:∀ {x:Value} {xs:List Int},OwnI base tB .u8 w x xs→OwnI base tB .u8 w' x xs:=λ hx=>coA hx hfr (λ k hk=>by
  obtain ⟨cur,hc⟩:=azA h.own hk;exact ⟨cur,_,_,hc,by decide⟩)
 refine ⟨Own.rebase ho (hlc.ge (λ k hk=>(Own.lt h.own k hk).1) hb),λ j hj=>?_,λ j hj k hk=>?_⟩
 ·rw [gdA h.own.lenV]
  by_cases e:j<n
  ·rw [if_pos e];exact hoff (h.at_ j e)
  ·obtain rfl:j=n:=oZ
   rw [if_neg e,if_pos rfl];exact hoff hu
 ·rw [gdA h.own.lenV] at hk
  by_cases e:j<n
  ·rw [if_pos e] at hk;exact h.ap j e k hk
  ·obtain rfl:j=n:=oZ
   rw [if_neg e,if_pos rfl] at hk;exact hap k hk
theorem BRow.keep {base n:Nat} {w w':World} {vbs vo:Value} {bs:List Value} {p f:Nat→Bool} {a:List Int} (h:BRow base w vbs bs n p f vo) (ha:OwnI base tB .u8 w vo a) (hfr:Fr (λ k=>vbs.ownBlock=some k) w w'):OwnI base tB .u8 w' vo a:=coA ha hfr (λ k hk=>by
 obtain ⟨cur,hc⟩:=azA h.own hk;exact ⟨cur,_,_,hc,by decide⟩)
theorem shl8 {i:Nat} (hi:i<8):IntKind.u8.wrap (1*2 ^ ((i:Nat):Int).toNat)=((2 ^ i:Nat):Int):=by
 have h1:2 ^ i≤2 ^ 7:=Nat.pow_le_pow_right dZ oZ;have h2:((1:Int)*2 ^ ((i:Nat):Int).toNat)=((2 ^ i:Nat):Int):=by rw [Int.toNat_natCast,Int.one_mul];norm_cast
 have h3:fits .u8 ((2 ^ i:Nat):Int):=by
  obtain ⟨P,hP⟩:∃ P,P=2 ^ i:=⟨_,rfl⟩;rw [← hP] at h1 ⊢;dsimp only [fits];omega
 rw [h2];exact dbA .u8 _ h3
theorem n0A {base e:Nat} {k:IntKind} {xs:List Int} (u:Value) (w:World) (h:(b4A base e k xs).p u w):u.cells=#[u]∧u.oneCell'=true:=⟨OwnI.cells (h:OwnI base e k w u xs),OwnI.one (h:OwnI base e k w u xs)⟩
theorem a4B {w:World} {v0 v1 v2:Value} {p f:Nat→Bool} {ms:List Value} (h0:SlI .u16 w v0 (b2A p)) (h1:SlC w v1 (nk p) 1 ms) (hms:∀ i,i<nk p→∃ base,MkI base tM w (ms.getD i undef) (blk p (kp p i))) (h2:SlC w v2 (nk p) 1 (jlA f (nk p))) (hn8:nk p≤8) :
 Fc Tryz.prog 14 #[v0,v1,v2] w (Ret w (.pred (b4A w.heap.size tB .u8 (mrA p f)))):=by
 have hml:ms.length=nk p:=by have:=h1.1;omega
 have hbl:=tfA f (nk p);have hkl:=bpA p;have hhl:=iiA (f:=f) hn8;have hck:=ilA (f:=f) hn8 h4A;have hpos:ekA f (nk p)=true→0<nk p:=h4A;have hD:∀ i,i<nk p→(kp p i<65536∧(b2A p).getD i 0=(kp p i:Int))∧0<cnt (blk p (kp p i)) 65536∧cnt (blk p (kp p i)) 65536≤65536:=λ i hi=>by
  obtain ⟨k1,k2,k3,k4⟩:=hrA hi;exact ⟨⟨k1,k4⟩,ne_cnt.1 k2,cnt_le _ _⟩
 have hbg:∀ i,i<nk p→(jlA f (nk p)).getD i undef=.bool (f i):=λ i hi=>tgA hi
 have hcook0:ekA f (nk p)=false→crA (nk p) f=leS 12346 4++leS (nk p) 4:=λ ha=>by unfold crA;rw [ha,if_neg dZ]
 have hcook1:ekA f (nk p)=true→crA (nk p) f=(leS 12347 2++leS (nk p-1:Nat) 2)++[(fB f (nk p):Int)]:=λ ha=>by unfold crA;rw [ha,if_pos rfl,List.append_assoc]
 rw [cuA _ (λ i _=>ftA p i)] at hhl;have himg:mrA p f=((crA (nk p) f++byA (euA p) (nk p))++drA p f)++byA (dpA p f) (nk p):=by unfold mrA;simp only [List.append_assoc]
 have hoff1:(ekA f (nk p)=true∧nk p<4)→drA p f=[]:=λ h=>by unfold drA;rw [if_pos h]
 have hoff2:¬ (ekA f (nk p)=true∧nk p<4)→drA p f=byA (ibA p f) (nk p)∧(drA p f).length=4*nk p:=λ h=>by
  have e:drA p f=byA (ibA p f) (nk p):=by unfold drA;rw [if_neg h]
  exact ⟨e,by rw [e,cuA _ (λ i _=>g8A p f i)];omega⟩
 rw [himg];clear himg;obtain ⟨ks,hks⟩:∃ ks,ks=b2A p:=⟨_,rfl⟩;rw [← hks] at h0 hkl hD;obtain ⟨bl,hbl'⟩:∃ bl,bl=jlA f (nk p):=⟨_,rfl⟩;rw [← hbl'] at h2 hbl hbg;clear hks hbl';obtain ⟨n,hnn⟩:∃ n,n=nk p:=⟨_,rfl⟩;obtain ⟨H,hH⟩:∃ m,m=eoA n (ekA f n):=⟨_,rfl⟩;rw [← hnn] at h1 hms h2 hn8 hml hbl hkl hhl hck hpos hD hbg hcook0 hcook1 hoff1 hoff2 ⊢;rw [← hH] at hhl;have hHle:H≤1000:=by
  rw [hH];unfold eoA;split
  ·split <;> omega
  ·omega
 have hl0:=h0.len;refine Fc.of (args:=[_,_,_]) Tryz.func14 rfl rfl Tryz.ntmps14 nZ ?_
 repeat' (first|(refine yL ?_;first|refine a0A rfl ?_|(refine cnA ?_;refine akA rfl _ rfl rfl (HasI.val h0).c ?_;rw [hkl])|refine yO ?_|(refine yC ?_ ?_<;>intro hc)|(refine yN hK ?_;clear hK K))|refine wG ?_|(refine yR ?_;intro K hK)|fail)
 refine abA (ι:=Nat) (λ i=>[(0,.val v0),(1,.val v1),(2,.val v2),(7,.val (.int .i64 n)),(8,.val (.bool (ekA f i))),(9,.val (.int .i64 i))]) (λ i w'=>i≤n∧Ext w w') (λ i=>n-i) (λ w5 e5=>⟨0,⟨Nat.zero_le _,e5⟩,sZ⟩) ?_
 rintro i w1 ⟨hi,he⟩
 by_cases hil:i<n
 ·have hbi:=hbg i hil
  have hnx:ekA f (i+1)=(ekA f i || f i):=rfl;obtain ⟨A,hA⟩:∃ A,A=ekA f i:=⟨_,rfl⟩;rw [← hA] at hnx ⊢;cases A with
  | true =>
    repeat' (first|(refine yL ?_;first|refine a0A rfl ?_|refine yO ?_|(refine yC ?_ ?_<;>intro hc)|(refine yN hK ?_;clear hK K))|refine wG ?_|(refine yR ?_;intro K hK)|fail)
    exact a5A (i+1) (λ w5 e5=>⟨hil,he.trans e5⟩) oZ (by rw [hnx,Bool.true_or];(repeat' (first|exact Sub.nil|(refine Sub.val rfl ?_ ?_;first|with_reducible rfl|(congr 1;omega))|refine Sub.same rfl ?_));done)
  | false =>
    repeat' (first|(refine yL ?_;first|refine a0A rfl ?_|(refine oD 32 ?_;refine czA rfl _ rfl (λ _=>rfl) rfl (HasC.val (h2.ext he)) rfl i rfl hil hbl ?_;rw [hbi])|refine yO ?_|(refine yC ?_ ?_<;>intro hc)|(refine yN hK ?_;clear hK K))|refine wG ?_|(refine yR ?_;intro K hK)|fail)
    exact a5A (i+1) (λ w5 e5=>⟨hil,he.trans e5⟩) oZ (by rw [hnx,Bool.false_or];(repeat' (first|exact Sub.nil|(refine Sub.val rfl ?_ ?_;first|with_reducible rfl|(congr 1;omega))|refine Sub.same rfl ?_));done)
 obtain rfl:i=n:=oZ;clear hil hi;obtain ⟨S,hS⟩:∃ S,S=ekA f i:=⟨_,rfl⟩;rw [← hS] at hck hpos hcook0 hcook1 hoff1 hoff2 ⊢
 repeat' (first|(refine yL ?_;first|refine a0A rfl ?_|refine yO ?_|(refine yC ?_ ?_<;>intro hc)|(refine yN hK ?_;clear hK K))|(refine oCX ?_;first|refine cbA (id:=8) (ι:=Value) (λ vb=>[(0,.val v0),(1,.val v1),(2,.val v2),(7,.val (.int .i64 i)),(8,.val (.bool S)),(10,.val vb)]) (λ vb w'=>Ext w w'∧OwnI w.heap.size tB .u8 w' vb (crA i f)) ?_ ?_)|refine wG ?_|(refine yR ?_;intro K hK)|fail)
 ·cases S with
  | false =>
    rw [hcook0 rfl]
    repeat' (first|(refine yL ?_;first|refine a0A rfl ?_|(refine oD 74 ?_;refine a2A (hK _ _ (awA 71 rfl (λ va wa ea ha=>awA 73 rfl (λ vb wb eb hb=>?_))));clear hK K;replace ha:OwnI w.heap.size tB .u8 wa va (leS 12346 4):=ha;replace hb:OwnI w.heap.size tB .u8 wb vb (leS i 4):=hb;refine arA rfl nZ erA rfl (OwnI.ext ha eb) rfl (HasI.ownV hb).c c4A (by unfold maxLen;simp only [alA];omega) (by simp only [alA];omega) (λ v' wu wv eu ho hfr hlc=>?_);refine aeA kZ (λ K hK=>?_))|refine yO ?_|(refine yC ?_ ?_<;>intro hc)|(refine yV ?_;first|(refine oD 71 ?_;refine oC 46 ?_;refine a3A (f:=46) rfl rfl rfl  (.pred (b4A w.heap.size tB .u8 (leS 12346 4))) (by intro u1 w e hu1;(try obtain rfl:u1=_:=hu1);exact (sqA _ oZ oZ).mono (a8A (he.trans e).size)) ?_)|(refine oD 73 ?_;refine oC 46 ?_;refine a3A (f:=46) rfl rfl rfl  (.pred (b4A w.heap.size tB .u8 (leS i 4))) (by intro u1 w e hu1;(try obtain rfl:u1=_:=hu1);exact (sqA _ oZ oZ).mono (a8A (he.trans e).size)) ?_))|(refine yN hK ?_;clear hK K))|refine wG ?_|(refine yR ?_;intro K hK)|fail)
    obtain ⟨x3,hn3⟩:=pqA (OwnI.ext ha eb) ((he.trans ea).trans eb) eu ho hfr hlc;exact a5A v' (λ w5 e5=>⟨x3.trans e5,OwnI.ext hn3 e5⟩) oZ sZ
  | true =>
    rw [hcook1 rfl];have hip:=hpos rfl
    repeat' (first|(refine yL ?_;first|refine a0A rfl ?_|(refine oD 38 ?_;refine adA rfl rfl rfl fZ ?_;rw [show (i:Int)-1=((i-1:Nat):Int) by omega])|(refine oD 40 ?_;refine a2A (hK _ _ (awA 36 rfl (λ va wa ea ha=>awA 39 rfl (λ vb wb eb hb=>?_))));clear hK K;replace ha:OwnI w.heap.size tB .u8 wa va (leS 12347 2):=ha;replace hb:OwnI w.heap.size tB .u8 wb vb (leS (i-1:Nat) 2):=hb;refine arA rfl nZ erA rfl (OwnI.ext ha eb) rfl (HasI.ownV hb).c c4A (by unfold maxLen;simp only [alA];omega) (by simp only [alA];omega) (λ v' wu wv eu ho hfr hlc=>?_);obtain ⟨x3,hn3⟩:=pqA (OwnI.ext ha eb) ((he.trans ea).trans eb) eu ho hfr hlc;refine aeA kZ (λ K hK=>?_))|(refine oD 43 ?_;refine dlA rfl rfl rfl oZ oZ fZ ?_;rw [show ((i:Int)+7) / 8=((1:Nat):Int) by omega])|(refine oD 44 ?_;refine e7A rfl erA rfl rfl dZ dZ ?_)|refine yO ?_|(refine yC ?_ ?_<;>intro hc)|(refine yV ?_;first|(refine oD 36 ?_;refine oC 45 ?_;refine a3A (f:=45) rfl rfl rfl  (.pred (b4A w.heap.size tB .u8 (leS 12347 2))) (by intro u1 w e hu1;(try obtain rfl:u1=_:=hu1);exact (k1A _ oZ oZ).mono (a8A (he.trans e).size)) ?_)|(refine oD 39 ?_;refine oC 45 ?_;refine a3A (f:=45) rfl rfl rfl  (.pred (b4A w.heap.size tB .u8 (leS (i-1:Nat) 2))) (by intro u1 w e hu1;(try obtain rfl:u1=_:=hu1);exact (k1A _ oZ oZ).mono (a8A (he.trans e).size)) ?_))|(refine yN hK ?_;clear hK K))|refine wG ?_|(refine yR ?_;intro K hK)|fail)
    obtain ⟨ys,hys⟩:∃ ys,ys=leS 12347 2++leS (i-1:Nat) 2:=⟨_,rfl⟩;have hyl:ys.length=4:=by rw [hys];simp [alA]
    rw [← hys] at hn3 ⊢;refine c2A 11 rfl (λ fv wf ef hf=>?_);replace hf:OwnI wv.heap.size tB .u8 wf fv [(fB f 0:Int)]:=hf;obtain ⟨gb,cap,cur0,rfl,s1,-,s3,s4,-,-⟩:=OwnI.row hf (by simp)
    refine abA (ι:=Nat) (λ j=>[(0,.val v0),(1,.val v1),(2,.val v2),(7,.val (.int .i64 i)),(8,.val (.bool true)),(10,.val v'),(11,.val (.slice (some ⟨gb,0,none⟩) 1 cap)),(12,.val (.int .i64 j))])
     (λ j w'=>Ext wv w'∧j≤i∧OwnI wv.heap.size tB .u8 w' (.slice (some ⟨gb,0,none⟩) 1 cap) [(fB f j:Int)]) (λ j=>i-j)
     (λ w4 e4=>⟨0,⟨ef.trans e4,Nat.zero_le _,hf.ext e4⟩,sZ⟩) ?_
    rintro j w2 ⟨he2,hj,hfv⟩
    by_cases hji:j<i
    ·have hbi:=hbg j hji
     have hfs:fB f (j+1)=fB f j+if f j then 2 ^ j else 0:=rfl
     have hfl:=noA f j;have hsh:=shl8 (i:=j) oZ;have h2i:(2:Nat) ^ j≤2 ^ 7:=Nat.pow_le_pow_right dZ oZ;obtain ⟨F,hF⟩:∃ F,F=fB f j:=⟨_,rfl⟩;rw [← hF] at hfs hfl hfv;obtain ⟨P,hP⟩:∃ P,P=2 ^ j:=⟨_,rfl⟩;rw [← hP] at hfs hfl hsh h2i;cases hfj:f j with
     | true =>
       rw [hfj] at hbi hfs;rw [if_pos rfl] at hfs;obtain ⟨gb',cap',cur,hgb,t1,t2,t3,t4,t5,t6⟩:=OwnI.row hfv (by simp);cases hgb;have h2e:=h2.ext (x3.trans he2)
       repeat' (first|(refine yL ?_;first|refine a0A rfl ?_|(refine oD 52 ?_;refine czA rfl _ rfl (λ _=>rfl) rfl (HasC.val h2e) rfl j rfl hji hbl ?_;rw [hbi])|(refine oD 56 ?_;refine dlA rfl rfl rfl oZ oZ fZ ?_;rw [show (j:Int) / 8=((0:Nat):Int) by omega])|(refine oD 59 ?_;refine dlA rfl rfl rfl oZ oZ fZ ?_;rw [show (j:Int) / 8=((0:Nat):Int) by omega])|(refine oD 60 ?_;refine acA rfl _ rfl (λ _=>rfl) rfl (HasI.ownV hfv) rfl (by simp) ?_;rw [List.getD_cons_zero])|(refine oD 63 ?_;refine hjA rfl rfl rfl oZ oZ fZ ?_;rw [show (j:Int) % 8=((j:Nat):Int) by omega])|(refine oD 65 ?_;refine gwA rfl rfl rfl oZ (by show ((j:Nat):Int)≤8;omega) ?_;rw [hsh])|(refine oD 66 ?_;refine b3A rfl rfl rfl fZ ?_;rw [show (F:Int)+(P:Int)=((F+P:Nat):Int) by omega])|(refine oD 67 ?_;refine bjA (s:=1) rfl rfl (λ _=>rfl) rfl rfl oZ oZ ?_)|(refine a2A (hK _ _ (bfA rfl rfl rfl t2 (λ _=>rfl) (by rw [t5];exact t3) rfl rfl (λ w4 e4=>?_)));clear hK K;dsimp only [LA.vals];refine aeA kZ (λ K hK=>?_))|refine yO ?_|(refine yC ?_ ?_<;>intro hc)|(refine yN hK ?_;clear hK K))|refine wG ?_|(refine yR ?_;intro K hK)|fail)
       have hset:=OwnI.set t1 (e4.block t2) t3 t4 t5 t6 0 (by simp) ((F+P:Nat):Int);exact a5A (j+1) (λ w5 e5=>⟨((he2.trans e4).setRow t1 _).trans e5,hji,by rw [hfs];exact OwnI.ext hset e5⟩) oZ sZ
     | false =>
       rw [hfj] at hbi hfs;rw [if_neg dZ,Nat.add_zero] at hfs;have h2e:=h2.ext (x3.trans he2)
       repeat' (first|(refine yL ?_;first|refine a0A rfl ?_|(refine oD 52 ?_;refine czA rfl _ rfl (λ _=>rfl) rfl (HasC.val h2e) rfl j rfl hji hbl ?_;rw [hbi])|refine yO ?_|(refine yC ?_ ?_<;>intro hc)|(refine yN hK ?_;clear hK K))|refine wG ?_|(refine yR ?_;intro K hK)|fail)
       exact a5A (j+1) (λ w5 e5=>⟨he2.trans e5,hji,by rw [hfs];exact OwnI.ext hfv e5⟩) oZ sZ
    ·obtain rfl:j=i:=oZ
     have hb2:=hn3.ext he2;have hx2:=x3.trans he2
     repeat' (first|(refine yL ?_;first|refine a0A rfl ?_|(refine oD 70 ?_;refine a2A (hK _ _ (arA rfl nZ erA rfl hb2 rfl (HasI.ownV hfv).c c4A (by unfold maxLen;simp only [List.length_cons,List.length_nil];omega) (by simp only [List.length_cons,List.length_nil];omega) (λ v9 wu9 wv9 eu9 ho9 hfr9 hlc9=>?_)));clear hK K;refine aeA kZ (λ K hK=>?_))|refine yO ?_|(refine yC ?_ ?_<;>intro hc)|(refine yN hK ?_;clear hK K))|refine wG ?_|(refine yR ?_;intro K hK)|fail)
     obtain ⟨x9,hn9⟩:=pqA (b:=[(fB f j:Int)]) hb2 hx2 eu9 ho9 hfr9 hlc9;exact a5A v9 (λ w5 e5=>⟨x9.trans e5,OwnI.ext hn9 e5⟩) oZ sZ
 clear he w1 hcook0 hcook1 hpos;rintro vb w1 ⟨he,hb⟩;have hckl:(crA i f).length≤20:=by rw [hck];split <;> omega
 repeat' (first|(refine yL ?_;first|refine a0A rfl ?_|refine yO ?_|(refine yC ?_ ?_<;>intro hc)|(refine yN hK ?_;clear hK K))|refine wG ?_|(refine yR ?_;intro K hK)|fail)
 refine abA (ι:=Nat × Value × Value × List Value) (λ j=>[(0,.val v0),(1,.val v1),(2,.val v2),(7,.val (.int .i64 i)),(8,.val (.bool S)),(10,.val j.2.1),(13,.val j.2.2.1),(14,.val (.int .i64 j.1))])
  (λ j w'=>j.1≤i∧Ext w w'∧OwnI w.heap.size tB .u8 w' j.2.1 (crA i f++byA (euA p) j.1)∧BRow w.heap.size w' j.2.2.1 j.2.2.2 j.1 p f j.2.1) (λ j=>i-j.1)
  (λ w5 e5=>⟨(0,vb,nilS,[]),⟨Nat.zero_le _,he.trans e5,by show OwnI _ _ _ _ _ (_++[]);rw [List.append_nil];exact OwnI.ext hb e5,BRow.nil⟩,sZ⟩) ?_
 clear he hb w1 vb;rintro ⟨t,vo,vbs,bs⟩ w2 ⟨hti,he,hb,hB⟩;dsimp only at hti hb hB ⊢
 by_cases htl:t<i
 ·obtain ⟨base,hmk⟩:=hms t htl
  have hmk2:=hmk.ext he;obtain ⟨⟨d1,d2⟩,d3,d4⟩:=hD t htl;have hbt:=hbg t htl;have hxl:(ahA (blk p (kp p t)) 65536).length=cnt (blk p (kp p t)) 65536:=b1A _ _;have hlist:∀ w',Ext w2 w'→Fc Tryz.prog 47 #[ms.getD t undef] w' (Ret w' (.pred (b4A w2.heap.size tK .u16 (ahA (blk p (kp p t)) 65536)))):=λ w' e=>(ncA w' _ base _ (hmk2.ext e)).mono (a8A e.size)
  have hbody:∀ w',Ext w2 w'→Fc Tryz.prog 48 #[ms.getD t undef,.int .u8 (kdF (blk p (kp p t)) (f t))] w' (Ret w' (.pred (b4A w2.heap.size tB .u8 (dpA p f t)))):=λ w' e=>(z9A (hmk2.ext e) (f t)).mono (a8A e.size)
  have hcat:byA (euA p) (t+1)=byA (euA p) t++(leS (kp p t) 2++leS (cnt (blk p (kp p t)) 65536-1:Nat) 2):=rfl;have hdl:(byA (euA p) t).length=t*4:=cuA _ (λ i _=>ftA p i);have hkd:kdF (blk p (kp p t)) (f t)=if f t then 3 else if cnt (blk p (kp p t)) 65536≤4096 then 1 else 2:=rfl
  obtain ⟨xs,hxs⟩:∃ xs,xs=ahA (blk p (kp p t)) 65536:=⟨_,rfl⟩;rw [← hxs] at hxl hlist;obtain ⟨kd,hkdd⟩:∃ kd,kd=kdF (blk p (kp p t)) (f t):=⟨_,rfl⟩;rw [← hkdd] at hkd hbody;obtain ⟨C0,hC0⟩:∃ c,c=cnt (blk p (kp p t)) 65536:=⟨_,rfl⟩;rw [← hC0] at d3 d4 hxl hcat hkd;obtain ⟨K0,hK0⟩:∃ c,c=kp p t:=⟨_,rfl⟩;rw [← hK0] at d1 d2 hcat;obtain ⟨mv,hmv⟩:∃ mv,mv=ms.getD t undef:=⟨_,rfl⟩;rw [← hmv] at hlist hbody;obtain ⟨D,hDD⟩:∃ D,D=dpA p f t:=⟨_,rfl⟩;rw [← hDD] at hbody;obtain ⟨B0,hB0⟩:∃ B,B=crA i f++byA (euA p) t:=⟨_,rfl⟩;have hBl:B0.length≤1000:=by rw [hB0,List.length_append];omega
  have hBn:crA i f++byA (euA p) (t+1)=(B0++leS K0 2)++leS (C0-1:Nat) 2:=by rw [hcat,hB0];simp only [List.append_assoc]
  rw [← hB0] at hb;have hcases:(f t=true∧kd=3∧C0≤4096)∨(f t=true∧kd=3∧¬ C0≤4096)∨(f t=false∧kd=1∧C0≤4096)∨(f t=false∧kd=2∧¬ C0≤4096):=by
   cases hft:f t <;> by_cases hc:C0≤4096 <;> rw [hft] at hkd <;> simp [hc] at hkd ⊢ <;> exact hkd
  have h0e:=h0.ext he;have h1e:=h1.ext he;have h2e:=h2.ext he;clear hxs hkdd hkd hC0 hK0 hcat hB0 hmk hmk2
  rcases hcases with ⟨hft,rfl,hc4⟩|⟨hft,rfl,hc4⟩|⟨hft,rfl,hc4⟩|⟨hft,rfl,hc4⟩
  all_goals
   rw [hft] at hbt
   repeat' (first|(refine yL ?_;first|refine a0A rfl ?_|(refine oD 82 ?_;refine czA rfl _ rfl (λ _=>rfl) rfl (HasC.val h1e) rfl t rfl htl hml ?_;rw [← hmv])|(refine oD 95 ?_;refine czA rfl _ rfl (λ _=>rfl) rfl (HasC.val h1e) rfl t rfl htl hml ?_;rw [← hmv])|(refine oD 85 ?_;refine akA rfl _ rfl rfl HasI.own.c ?_;rw [hxl])|(refine oD 90 ?_;refine czA rfl _ rfl (λ _=>rfl) rfl (HasC.val h2e) rfl t rfl htl hbl ?_;rw [hbt])|(refine oD 99 ?_;refine u0A (Nat.le_refl _) rfl d0B rfl n0A ?_)|(refine oD 100 ?_;refine a2A (hK _ _ (awA 99 rfl (λ v99 w3 e3 h99=>?_)));clear hK K;obtain ⟨u,hu,hu1,hu2,huo⟩:=h99;refine arA rfl nZ d0B rfl (hB.own.ext e3) rfl (HasC.ownV huo) (λ c hc=>by rw [List.mem_singleton] at hc;subst hc;exact hu2) (by unfold maxLen;omega) oZ (λ vn w4 w5 e4 ho hf hl=>?_);replace hu:OwnI w2.heap.size tB .u8 w3 u (dpA p f t):=hDD▸hu;have hu4:=OwnI.ext hu e4;have x4:=(he.trans e3).trans e4;have hB5:=(hB.ext (e3.trans e4)).push (Own.base hu4 he.size) (λ k h1 h2=>by have g1:=(Own.lt hu4 k h1).1;have g2:=(Own.lt hb k h2).2;omega) ho hf hl x4.size;have hb5:=(hB.ext (e3.trans e4)).keep (OwnI.ext hb (e3.trans e4)) hf;have x5:Ext w w5:=Fr.ext x4 hf (λ k hk=>(Own.lt hB.own k hk).1);have h05:=h0.ext x5;refine aeA kZ (λ K hK=>?_))|(refine oD 104 ?_;refine acA rfl _ rfl (λ _=>rfl) rfl (HasI.val h05) rfl oZ ?_;rw [d2])|(refine oD 108 ?_;refine a2A (hK _ _ (awA 107 rfl (λ vb6 wb6 eb6 hb6=>?_)));clear hK K;replace hb6:OwnI w.heap.size tB .u8 wb6 vb6 (leS K0 2):=hb6;refine arA rfl nZ erA rfl (OwnI.ext hb5 eb6) rfl (HasI.ownV hb6).c c4A (by unfold maxLen;simp only [List.length_append,alA];omega) (by simp only [List.length_append,alA];omega) (λ v6 wu6 wv6 eu6 ho6 hfr6 hlc6=>?_);obtain ⟨x6,hn6⟩:=pqA (OwnI.ext hb5 eb6) (x5.trans eb6) eu6 ho6 hfr6 hlc6;have hB6:=(hB5.ext (eb6.trans eu6)).grow (OwnI.ext hb5 (eb6.trans eu6)) hfr6 hlc6;refine aeA kZ (λ K hK=>?_))|(refine oD 111 ?_;refine adA rfl rfl rfl fZ ?_;rw [show (C0:Int)-1=((C0-1:Nat):Int) by omega])|(refine oD 113 ?_;refine a2A (hK _ _ (awA 112 rfl (λ vb7 wb7 eb7 hb7=>?_)));clear hK K;replace hb7:OwnI w.heap.size tB .u8 wb7 vb7 (leS (C0-1:Nat) 2):=hb7;refine arA rfl nZ erA rfl (OwnI.ext hn6 eb7) rfl (HasI.ownV hb7).c c4A (by unfold maxLen;simp only [List.length_append,alA];omega) (by simp only [List.length_append,alA];omega) (λ v7 wu7 wv7 eu7 ho7 hfr7 hlc7=>?_);obtain ⟨x7,hn7⟩:=pqA (OwnI.ext hn6 eb7) (x6.trans eb7) eu7 ho7 hfr7 hlc7;have hB7:=(hB6.ext (eb7.trans eu7)).grow (OwnI.ext hn6 (eb7.trans eu7)) hfr7 hlc7;refine aeA kZ (λ K hK=>?_))|refine yO ?_|(refine yC ?_ ?_<;>intro hc)|(refine yV ?_;first|(refine oC 47 ?_;refine a3A (f:=47) rfl rfl rfl  (.pred (b4A w2.heap.size tK .u16 xs)) (by intro u1 w e hu1;(try obtain rfl:u1=_:=hu1);exact hlist _ e) ?_)|(refine oC 48 ?_;refine a4A (f:=48) rfl rfl rfl rfl  (.pred (b4A w2.heap.size tB .u8 D)) (by intro u1 u2 w e hu1 hu2;(try obtain rfl:u1=_:=hu1);(try obtain rfl:u2=_:=hu2);exact hbody _ e) ?_)|(refine oD 107 ?_;refine oC 45 ?_;refine a3A (f:=45) rfl rfl rfl  (.pred (b4A w.heap.size tB .u8 (leS K0 2))) (by intro u1 w e hu1;(try obtain rfl:u1=_:=hu1);exact (k1A _ oZ oZ).mono (a8A (x5.trans e).size)) ?_)|(refine oD 112 ?_;refine oC 45 ?_;refine a3A (f:=45) rfl rfl rfl  (.pred (b4A w.heap.size tB .u8 (leS (C0-1:Nat) 2))) (by intro u1 w e hu1;(try obtain rfl:u1=_:=hu1);exact (k1A _ oZ oZ).mono (a8A (x6.trans e).size)) ?_))|(refine yN hK ?_;clear hK K))|refine wG ?_|(refine yR ?_;intro K hK)|fail)
   exact a5A (t+1,v7,vn,bs++[u]) (λ w8 e8=>⟨htl,x7.trans e8,by dsimp only;rw [hBn];exact OwnI.ext hn7 e8,hB7.ext e8⟩) eZ sZ
 obtain rfl:t=i:=oZ;have hdl:(byA (euA p) t).length=t*4:=cuA _ (λ i _=>ftA p i);obtain ⟨B1,hB1⟩:∃ B,B=crA t f++byA (euA p) t:=⟨_,rfl⟩;have hB1l:B1.length=(crA t f).length+t*4:=by rw [hB1,List.length_append,hdl]
 rw [← hB1] at hb ⊢;clear htl hti hD hbg hms hB1
 repeat' (first|(refine yL ?_;first|refine a0A rfl ?_|refine yO ?_|(refine yC ?_ ?_<;>intro hc)|(refine yN hK ?_;clear hK K))|(refine oCX ?_;first|refine cbA (id:=32) (ι:=Value) (λ vq=>[(7,.val (.int .i64 t)),(13,.val vbs),(17,.val vq)]) (λ vq w'=>Ext w w'∧OwnI w.heap.size tB .u8 w' vq (B1++drA p f)∧BRow w.heap.size w' vbs bs t p f vq) ?_ ?_)|refine wG ?_|(refine yR ?_;intro K hK)|fail)
 ·by_cases hoc:S=true∧t<4
  ·have ho:=hoff1 hoc
   obtain ⟨rfl,h4⟩:=hoc
   repeat' (first|(refine yL ?_;first|refine a0A rfl ?_|refine yO ?_|(refine yC ?_ ?_<;>intro hc)|(refine yN hK ?_;clear hK K))|refine wG ?_|(refine yR ?_;intro K hK)|fail)
   exact a5A vo (λ w5 e5=>⟨he.trans e5,by rw [ho,List.append_nil];exact OwnI.ext hb e5,hB.ext e5⟩) oZ sZ
  ·obtain ⟨ho1,ho2⟩:=hoff2 hoc
   rw [ho2] at hhl;have hof:∀ j,ibA p f j=leS ((H+(byA (dpA p f) j).length:Nat):Int) 4:=λ j=>by unfold ibA;rw [← hnn,← hH]
   have hsk:S=false∨(S=true∧4≤t):=by
    cases S with
    | false=>exact .inl rfl
    | true=>exact .inr ⟨rfl,Nat.le_of_not_lt (λ h=>hoc ⟨rfl,h⟩)⟩
   clear hoff1 hoff2 ho2 hoc
   rcases hsk with rfl|⟨rfl,h4⟩
   all_goals
    repeat' (first|(refine yL ?_;first|refine a0A rfl ?_|(refine cnA ?_;refine akA rfl _ rfl rfl (HasI.ownV hb).c ?_)|(refine oD 124 ?_;refine f4A rfl rfl rfl fZ ?_;rw [show (4:Int)*(t:Int)=((4*t:Nat):Int) by omega])|(refine oD 125 ?_;refine b3A rfl rfl rfl fZ ?_;rw [show (B1.length:Int)+((4*t:Nat):Int)=((H+(byA (dpA p f) 0).length:Nat):Int) by simp only [byA,List.length_nil];omega])|refine yO ?_|(refine yC ?_ ?_<;>intro hc)|(refine yN hK ?_;clear hK K))|refine wG ?_|(refine yR ?_;intro K hK)|fail)
    refine abA (ι:=Nat × Value) (λ j=>[(7,.val (.int .i64 t)),(13,.val vbs),(17,.val j.2),(18,.val (.int .i64 (H+(byA (dpA p f) j.1).length:Nat))),(19,.val (.int .i64 j.1))])
     (λ j w'=>j.1≤t∧Ext w w'∧OwnI w.heap.size tB .u8 w' j.2 (B1++byA (ibA p f) j.1)∧BRow w.heap.size w' vbs bs t p f j.2) (λ j=>t-j.1)
     (λ w5 e5=>⟨(0,vo),⟨Nat.zero_le _,he.trans e5,by show OwnI _ _ _ _ _ (_++[]);rw [List.append_nil];exact OwnI.ext hb e5,hB.ext e5⟩,sZ⟩) ?_
    clear he hb hB w2 vo;rintro ⟨j,vo⟩ w2 ⟨hjt,he,hb,hB⟩;dsimp only at hjt hb hB ⊢;have hbj:=h3A p f j
    by_cases hjl:j<t
    ·have hofj:=hof j
     have hble:(dpA p f j).length≤131074:=jmA _ _;have hol:(byA (ibA p f) j).length=j*4:=cuA j (λ i _=>g8A p f i);have hcat:byA (ibA p f) (j+1)=byA (ibA p f) j++ibA p f j:=rfl;have hcb:(byA (dpA p f) (j+1)).length=(byA (dpA p f) j).length+(dpA p f j).length:=by show (byA (dpA p f) j++dpA p f j).length=_;rw [List.length_append]
     rw [hofj] at hcat;obtain ⟨A0,hA0⟩:∃ a,a=H+(byA (dpA p f) j).length:=⟨_,rfl⟩;have hA1:A0+(dpA p f j).length=H+(byA (dpA p f) (j+1)).length:=oZ;rw [← hA0] at hcat ⊢;obtain ⟨B0,hB0⟩:∃ B,B=B1++byA (ibA p f) j:=⟨_,rfl⟩;have hBl:B0.length≤2000:=by rw [hB0,List.length_append];omega
     have hBn:B1++byA (ibA p f) (j+1)=B0++leS A0 4:=by rw [hcat,hB0];simp only [List.append_assoc]
     rw [← hB0] at hb;have hA0l:A0≤3000000:=oZ;clear hA0 hB0 hcat hofj hof hcb
     repeat' (first|(refine yL ?_;first|refine a0A rfl ?_|(refine oD 134 ?_;refine a2A (hK _ _ (awA 133 rfl (λ vb6 wb6 eb6 hb6=>?_)));clear hK K;replace hb6:OwnI w.heap.size tB .u8 wb6 vb6 (leS A0 4):=hb6;refine arA rfl nZ erA rfl (OwnI.ext hb eb6) rfl (HasI.ownV hb6).c c4A (by unfold maxLen;simp only [List.length_append,alA];omega) (by simp only [List.length_append,alA];omega) (λ v6 wu6 wv6 eu6 ho6 hfr6 hlc6=>?_);obtain ⟨x6,hn6⟩:=pqA (OwnI.ext hb eb6) (he.trans eb6) eu6 ho6 hfr6 hlc6;have hB6:=(hB.ext (eb6.trans eu6)).grow (OwnI.ext hb (eb6.trans eu6)) hfr6 hlc6;refine aeA kZ (λ K hK=>?_))|(refine oD 138 ?_;refine czA rfl _ rfl (λ _=>rfl) rfl (HasC.ownV hB6.own) rfl j rfl hjl hB6.own.lenV ?_)|(refine oD 140 ?_;refine akA rfl _ rfl rfl (HasI.val (OwnI.slI (hB6.at_ j hjl))).c ?_)|(refine oD 141 ?_;refine b3A rfl rfl rfl fZ ?_;rw [show (A0:Int)+((dpA p f j).length:Int)=((A0+(dpA p f j).length:Nat):Int) by omega])|refine yO ?_|(refine yC ?_ ?_<;>intro hc)|(refine yV ?_;first|(refine oD 133 ?_;refine oC 46 ?_;refine a3A (f:=46) rfl rfl rfl  (.pred (b4A w.heap.size tB .u8 (leS A0 4))) (by intro u1 w e hu1;(try obtain rfl:u1=_:=hu1);exact (sqA _ oZ oZ).mono (a8A (he.trans e).size)) ?_))|(refine yN hK ?_;clear hK K))|refine wG ?_|(refine yR ?_;intro K hK)|fail)
     exact a5A (j+1,v6) (λ w8 e8=>⟨hjl,x6.trans e8,by dsimp only;rw [hBn];exact OwnI.ext hn6 e8,hB6.ext e8⟩) eZ (by dsimp only;rw [← hA1];(repeat' (first|exact Sub.nil|(refine Sub.val rfl ?_ ?_;first|with_reducible rfl|(congr 1;omega))|refine Sub.same rfl ?_));done)
    ·obtain rfl:j=t:=oZ
     repeat' (first|(refine yL ?_;first|refine a0A rfl ?_|refine yO ?_|(refine yC ?_ ?_<;>intro hc)|(refine yN hK ?_;clear hK K))|refine wG ?_|(refine yR ?_;intro K hK)|fail)
     exact a5A vo (λ w5 e5=>⟨he.trans e5,by rw [ho1];exact OwnI.ext hb e5,hB.ext e5⟩) oZ sZ
 have hol:(drA p f).length≤100:=by
  by_cases hoc:S=true∧t<4
  ·rw [hoff1 hoc];simp
  ·have:=(hoff2 hoc).2;omega
 clear hb hB he w2 vo hoff1 hoff2;rintro vo w2 ⟨he,hb,hB⟩;obtain ⟨G,hG⟩:∃ G,G=B1++drA p f:=⟨_,rfl⟩;have hGl:G.length≤1000:=by rw [hG,List.length_append];omega
 rw [← hG] at hb ⊢;clear hG
 repeat' (first|(refine yL ?_;first|refine a0A rfl ?_|refine yO ?_|(refine yC ?_ ?_<;>intro hc)|(refine yN hK ?_;clear hK K))|refine wG ?_|(refine yR ?_;intro K hK)|fail)
 refine abA (ι:=Nat × Value) (λ j=>[(7,.val (.int .i64 t)),(13,.val vbs),(17,.val j.2),(20,.val (.int .i64 j.1))])
  (λ j w'=>j.1≤t∧Ext w w'∧OwnI w.heap.size tB .u8 w' j.2 (G++byA (dpA p f) j.1)∧BRow w.heap.size w' vbs bs t p f j.2) (λ j=>t-j.1)
  (λ w5 e5=>⟨(0,vo),⟨Nat.zero_le _,he.trans e5,by show OwnI _ _ _ _ _ (_++[]);rw [List.append_nil];exact OwnI.ext hb e5,hB.ext e5⟩,sZ⟩) ?_
 clear he hb hB w2 vo;rintro ⟨j,vo⟩ w2 ⟨hjt,he,hb,hB⟩;dsimp only at hjt hb hB ⊢;have hbj:=h3A p f j
 by_cases hjl:j<t
 ·have hble:(dpA p f j).length≤131074:=jmA _ _
  have hcat:byA (dpA p f) (j+1)=byA (dpA p f) j++dpA p f j:=rfl;obtain ⟨B0,hB0⟩:∃ B,B=G++byA (dpA p f) j:=⟨_,rfl⟩;have hBl:B0.length≤2000000:=by rw [hB0,List.length_append];omega
  have hBn:G++byA (dpA p f) (j+1)=B0++dpA p f j:=by rw [hcat,hB0];simp only [List.append_assoc]
  rw [← hB0] at hb;have hD:=hB.at_ j hjl;clear hB0 hcat
  repeat' (first|(refine yL ?_;first|refine a0A rfl ?_|(refine oD 150 ?_;refine czA rfl _ rfl (λ _=>rfl) rfl (HasC.ownV hB.own) rfl j rfl hjl hB.own.lenV ?_)|(refine oD 152 ?_;refine a2A (hK _ _ (arA rfl nZ erA rfl hb rfl (HasI.val (OwnI.slI hD)).c c4A (by unfold maxLen;omega) oZ (λ v6 wu6 wv6 eu6 ho6 hfr6 hlc6=>?_)));clear hK K;obtain ⟨x6,hn6⟩:=pqA hb he eu6 ho6 hfr6 hlc6;have hB6:=(hB.ext eu6).grow (OwnI.ext hb eu6) hfr6 hlc6;refine aeA kZ (λ K hK=>?_))|refine yO ?_|(refine yC ?_ ?_<;>intro hc)|(refine yN hK ?_;clear hK K))|refine wG ?_|(refine yR ?_;intro K hK)|fail)
  exact a5A (j+1,v6) (λ w8 e8=>⟨hjl,x6.trans e8,by dsimp only;rw [hBn];exact OwnI.ext hn6 e8,hB6.ext e8⟩) eZ sZ
 ·obtain rfl:j=t:=oZ
  repeat' (first|(refine yL ?_;first|refine a0A rfl ?_|refine yO ?_|(refine yC ?_ ?_<;>intro hc)|(refine yN hK ?_;clear hK K))|refine wG ?_|(refine yR ?_;intro K hK)|fail)
  exact aiA rfl rfl he (λ u w5 e5 hu=>by obtain rfl:u=_:=hu;exact OwnI.ext hb e5)
abbrev tPm:Nat:=32
abbrev tBo:Nat:=4
theorem cwB:El Tryz.prog 29 32 (.pointer none) 1 8:=⟨rfl,rfl,rfl,by decide⟩
theorem d1B:El Tryz.prog 30 4 (.bool false) 1 1:=⟨rfl,rfl,rfl,by decide⟩
theorem qiA (f:Nat→Bool) (n:Nat):jlA f (n+1)=jlA f n++[.bool (f n)]:=by simp [jlA,List.range_succ]
structure MRow (base:Nat) (w:World) (vk vm va:Value) (ms:List Value) (n:Nat) (p f:Nat→Bool):Prop where
 k:OwnI base tK .u16 w vk (b2A p)
 m:LA.Own base tPm 1 w vm n ms
 a:LA.Own base tBo 1 w va n (jlA f n)
 at_:∀ j,j<n→MkI base tM w (ms.getD j undef) (blk p (kp p j))
theorem MRow.ext {base n:Nat} {w w':World} {vk vm va:Value} {ms:List Value} {p f:Nat→Bool} (h:MRow base w vk vm va ms n p f) (e:Ext w w'):MRow base w' vk vm va ms n p f:=⟨h.k.ext e,h.m.ext e,h.a.ext e,λ j hj=>(h.at_ j hj).ext e⟩
theorem MkI.fr {base e:Nat} {w w':World} {v:Value} {p:Nat→Bool} {R:Nat→Prop} (h:MkI base e w v p) (hf:Fr R w w') (hR:∀ k,R k→∃ cur e' j,w.heap[k]?=some (.cells cur e' j)∧e≠e'):MkI base e w' v p:=by
 obtain ⟨b,h1,h2,h3⟩:=h;refine ⟨b,h1,h2,hf.at h3 (λ hk=>?_)⟩;obtain ⟨cur,e',j,h4,h5⟩:=hR b hk;rw [h3] at h4;cases h4;exact h5 rfl
theorem urA {w:World} {v:Value} {p:Nat→Bool} (h:SlP .u64 w v (spL p TOP)) (hn8:nk p≤8):Fc Tryz.prog 19 #[v] w (Ret w (.pred (b4A w.heap.size tB .u8 (eqA p)))):=by
 have hks:∀ w',Ext w w'→_:=λ w' e=>z5A (h.ext e)
 have hkl:=bpA p;have hD:∀ i,i<nk p→kp p i<65536∧(b2A p).getD i 0=(kp p i:Int):=λ i hi=>by
  obtain ⟨k1,k2,k3,k4⟩:=hrA hi;exact ⟨k1,k4⟩
 obtain ⟨n,hnn⟩:∃ n,n=nk p:=⟨_,rfl⟩;rw [← hnn] at hkl hD hn8;refine Fc.of (args:=[_]) Tryz.func19 rfl rfl Tryz.ntmps19 nZ ?_
 repeat' (first|(refine yL ?_;first|refine a0A rfl ?_|refine yO ?_|(refine yC ?_ ?_<;>intro hc)|(refine yV ?_;first|(refine oC 11 ?_;refine a3A (f:=11) rfl rfl rfl  (.pred (b4A w.heap.size tK .u16 (b2A p))) (by intro u1 w e hu1;(try obtain rfl:u1=_:=hu1);exact (hks _ e).mono (a8A e.size)) ?_))|(refine yN hK ?_;clear hK K))|refine wG ?_|(refine yR ?_;intro K hK)|fail)
 refine c2A 3 rfl (λ vk w3 e3 h3=>?_);replace h3:OwnI w.heap.size tK .u16 w3 vk (b2A p):=h3
 refine abA (ι:=Nat × Value × Value × List Value) (λ j=>[(0,.val v),(3,.val vk),(4,.val j.2.1),(5,.val j.2.2.1),(6,.val (.int .i64 j.1))])
  (λ j w'=>j.1≤n∧Ext w w'∧MRow w.heap.size w' vk j.2.1 j.2.2.1 j.2.2.2 j.1 p (cpA p)) (λ j=>n-j.1)
  (λ w5 e5=>⟨(0,nilS,nilS,[]),⟨Nat.zero_le _,e3.trans e5,⟨OwnI.ext h3 e5,Own.nil,Own.nil,λ j hj=>absurd hj (Nat.not_lt_zero _)⟩⟩,sZ⟩) ?_
 clear e3 h3 w3;rintro ⟨t,vm,va,ms⟩ w1 ⟨hti,he,hM⟩;dsimp only at hti hM ⊢
 by_cases htl:t<n
 ·obtain ⟨d1,d2⟩:=hD t htl
  have hblk:∀ w',Ext w1 w'→Fc Tryz.prog 12 #[v,.int .u16 (kp p t)] w' (Ret w' (.pred (mkI w.heap.size tM (blk p (kp p t))))):=λ w' e=>(v5A (h.ext (he.trans e)) d1).mono (λ en w'' ⟨u,g1,g2,g3⟩=>⟨u,g1,g2,MkI.base g3 (he.trans e).size⟩)
  have hkc:=frA (blk p (kp p t));have hbn:=qiA (cpA p) t;have hway:cpA p t=isR (blk p (kp p t)):=rfl;obtain ⟨q,hq⟩:∃ q,q=blk p (kp p t):=⟨_,rfl⟩;rw [← hq] at hblk hkc hway;have hkind:∀ w' u,MkI w.heap.size tM w' u q→_:=λ w' u hu=>z4A hu
  obtain ⟨kk,hkk⟩:∃ k,k=avA q:=⟨_,rfl⟩;rw [← hkk] at hkind hkc;obtain ⟨K0,hK0⟩:∃ c,c=kp p t:=⟨_,rfl⟩;rw [← hK0] at d1 d2 hblk;have hcs:(kk=3∧cpA p t=true)∨(kk≠3∧cpA p t=false):=by
   rcases hkc with ⟨k1,k2⟩|⟨k1,k2,-⟩|⟨k1,k2,-⟩
   ·exact .inl ⟨k1,by rw [hway,k2]⟩
   ·exact .inr ⟨by omega,by rw [hway,k2]⟩
   ·exact .inr ⟨by omega,by rw [hway,k2]⟩
  clear hkc hway hkk hK0
  rcases hcs with ⟨rfl,hw⟩|⟨hne,hw⟩
  all_goals
   rw [hw] at hbn
   repeat' (first|(refine yL ?_;first|refine a0A rfl ?_|(refine cnA ?_;refine akA rfl _ rfl rfl (HasI.ownV hM.k).c ?_;rw [hkl])|(refine oD 19 ?_;refine acA rfl _ rfl (λ _=>rfl) rfl (HasI.ownV hM.k) rfl oZ ?_;rw [d2])|(refine oD 22 ?_;refine a2A (hK _ _ (awA 7 rfl (λ v7 w7 e7 h7=>?_)));clear hK K;have hm7:MkI w.heap.size tM w7 v7 q:=h7;obtain ⟨b7,rfl,hb7,hc7⟩:=h7;have hM7:=hM.ext e7;refine aeA kZ (λ K hK=>cvA rfl rfl ?_))|(refine oD 24 ?_;refine e6A rfl cwB rfl rfl ?_)|(refine oD 25 ?_;refine a2A (hK _ _ (arA rfl nZ cwB rfl hM7.m rfl HasC.own (λ u hu=>by rw [List.mem_singleton] at hu;subst hu;rfl) (by unfold maxLen;omega) oZ (λ vm' w8 w9 e8 ho hf hl=>?_)));clear hK K;have x8:=(he.trans e7).trans e8;have hR:∀ k,vm.ownBlock=some k→∃ cur,w8.heap[k]?=some (.cells cur tPm (0,0)):=λ k hk=>azA (hM7.m.ext e8) hk;have hm9:=MkI.fr (hm7.ext e8) hf (λ k hk=>by obtain ⟨cur,hc⟩:=hR k hk;exact ⟨cur,_,_,hc,by decide⟩);have ha9:=coA (hM7.a.ext e8) hf (λ k hk=>by obtain ⟨cur,hc⟩:=hR k hk;exact ⟨cur,_,_,hc,by decide⟩);have hk9:OwnI w.heap.size tK .u16 w9 vk (b2A p):=coA (OwnI.ext hM7.k e8) hf (λ k hk=>by obtain ⟨cur,hc⟩:=hR k hk;exact ⟨cur,_,_,hc,by decide⟩);have hms9:∀ j,j<t→MkI w.heap.size tM w9 (ms.getD j undef) (blk p (kp p j)):=λ j hj=>MkI.fr ((hM7.at_ j hj).ext e8) hf (λ k hk=>by obtain ⟨cur,hc⟩:=hR k hk;exact ⟨cur,_,_,hc,by decide⟩);have ho9:LA.Own w.heap.size tPm 1 w9 vm' (t+1) (ms++[.pointer (some ⟨b7,0,none⟩)]):=Own.rebase ho (hl.ge (λ k hk=>(Own.lt hM7.m k hk).1) x8.size);have x9:Ext w w9:=Fr.ext x8 hf (λ k hk=>(Own.lt hM7.m k hk).1);refine aeA kZ (λ K hK=>?_))|(refine oD 30 ?_;refine e6A rfl d1B rfl rfl ?_)|(refine oD 31 ?_;refine a2A (hK _ _ (arA rfl nZ d1B rfl ha9 rfl HasC.own (λ u hu=>by rw [List.mem_singleton] at hu;subst hu;rfl) (by unfold maxLen;omega) oZ (λ va' wA wB eA hoA hfA hlA=>?_)));clear hK K;refine aeA kZ (λ K hK=>?_))|refine yO ?_|(refine yC ?_ ?_<;>intro hc)|(refine yV ?_;first|(refine oC 12 ?_;refine a4A (f:=12) rfl rfl rfl rfl  (.pred (mkI w.heap.size tM q)) (by intro u1 u2 w e hu1 hu2;(try obtain rfl:u1=_:=hu1);(try obtain rfl:u2=_:=hu2);exact hblk _ e) ?_)|(refine oC 69 ?_;refine a3A (f:=69) rfl rfl rfl  (.val (.int .u8 _)) (by intro u1 w e hu1;(try obtain rfl:u1=_:=hu1);exact hkind _ _ (hm9.ext e)) ?_))|(refine yN hK ?_;clear hK K))|refine wG ?_|(refine yR ?_;intro K hK)|fail)
   have hRA:∀ k,va.ownBlock=some k→∃ cur,wA.heap[k]?=some (.cells cur tBo (0,0)):=λ k hk=>azA (ha9.ext eA) hk
   have xA:=x9.trans eA;have xB:Ext w wB:=Fr.ext xA hfA (λ k hk=>(Own.lt ha9 k hk).1);have hMB:MRow w.heap.size wB vk vm' va' (ms++[.pointer (some ⟨b7,0,none⟩)]) (t+1) p (cpA p):=by
    refine ⟨coA (OwnI.ext hk9 eA) hfA (λ k hk=>?_),coA (ho9.ext eA) hfA (λ k hk=>?_),?_,λ j hj=>MkI.fr ?_ hfA (λ k hk=>?_)⟩
    ·obtain ⟨cur,hc⟩:=hRA k hk;exact ⟨cur,_,_,hc,by decide⟩
    ·obtain ⟨cur,hc⟩:=hRA k hk;exact ⟨cur,_,_,hc,by decide⟩
    ·rw [hbn];exact Own.rebase hoA (hlA.ge (λ k hk=>(Own.lt ha9 k hk).1) xA.size)
    ·rw [gdA hM.m.lenV]
     by_cases e:j<t
     ·rw [if_pos e];exact (hms9 j e).ext eA
     ·obtain rfl:j=t:=oZ
      rw [if_neg e,if_pos rfl,← hq];exact hm9.ext eA
    ·obtain ⟨cur,hc⟩:=hRA k hk;exact ⟨cur,_,_,hc,by decide⟩
   exact a5A (t+1,vm',va',ms++[.pointer (some ⟨b7,0,none⟩)]) (λ w8 e8=>⟨htl,xB.trans e8,hMB.ext e8⟩) eZ sZ
 ·obtain rfl:t=n:=oZ
  have him:∀ w',Ext w1 w'→Fc Tryz.prog 14 #[vk,vm,va] w' (Ret w' (.pred (b4A w.heap.size tB .u8 (eqA p)))):=λ w' e=>by
   have hM':=hM.ext e;rw [hnn] at hM';exact (a4B (p:=p) (f:=cpA p) (ms:=ms) hM'.k.slI hM'.m.slC (λ i hi=>⟨_,hM'.at_ i hi⟩) hM'.a.slC oZ).mono (a8A (he.trans e).size)
  repeat' (first|(refine yL ?_;first|refine a0A rfl ?_|(refine cnA ?_;refine akA rfl _ rfl rfl (HasI.ownV hM.k).c ?_;rw [hkl])|refine yO ?_|(refine yC ?_ ?_<;>intro hc)|(refine yV ?_;first|(refine oC 14 ?_;refine b8A (f:=14) rfl rfl rfl rfl rfl  (.pred (b4A w.heap.size tB .u8 (eqA p))) (by intro u1 u2 u3 w e hu1 hu2 hu3;(try obtain rfl:u1=_:=hu1);(try obtain rfl:u2=_:=hu2);(try obtain rfl:u3=_:=hu3);exact him _ e) ?_))|(refine yN hK ?_;clear hK K))|refine wG ?_|(refine yR ?_;intro K hK)|fail)
  exact aiA rfl rfl he (λ u w5 e5 hu=>hu)
end Go.Proofs.YtbokphkfojijoaaGreatDoor.Pt
end
