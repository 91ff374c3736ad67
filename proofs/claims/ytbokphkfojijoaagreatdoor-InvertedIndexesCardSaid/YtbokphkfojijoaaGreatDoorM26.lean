import Derived.Laws.BytesArg
import Derived.Test.YtbokphkfojijoaaGreatDoorM3
import Derived.Test.YtbokphkfojijoaaGreatDoorM12
import Derived.Test.YtbokphkfojijoaaGreatDoorM21
import Derived.Test.YtbokphkfojijoaaGreatDoorM22
import Derived.Test.YtbokphkfojijoaaGreatDoorM24
import Derived.Test.YtbokphkfojijoaaGreatDoorM25
set_option linter.unusedSimpArgs false
set_option linter.unusedVariables false
set_option maxRecDepth 3000
set_option maxHeartbeats 16000000
section
namespace Go.Proofs.YtbokphkfojijoaaGreatDoor.Pt
open Go.LA Go.ArrP Go.RowKit
theorem c8B {w:World} {v:Value} {ys:List Int} {at_:Nat} {p f:Nat→Bool} (h:SlI .u8 w v ys) (hT:Tab w) (hl:ys.length≤1000000000) (hy:∀ x ∈ ys,0≤x∧x<256) (hn8:nk p≤8) (htop:∀ x,TOP≤x→p x=false) (hA:AtB ys at_ (mwA p f)) :
 Fc Tryz.prog 15 #[v,.int .i64 at_] w (Ret w (.tup3 (.pred (rsP TT TT p)) (.val (.int .i64 (at_+(mwA p f).length:Nat))) (.val (.int .i64 0)))):=by
 have hlh:=h.len;have hale:=hA.le;obtain ⟨zs,hzs⟩:∃ zs,zs=ys.drop at_:=⟨_,rfl⟩;have hsub:SlI .u8 w (feA v at_ ys.length 1) zs:=by rw [hzs];exact SlI.drop h oZ
 have hzl:zs.length≤1000000000:=by rw [hzs,List.length_drop];omega
 have hzy:∀ x ∈ zs,0≤x∧x<256:=λ x hx=>hy x (List.mem_of_mem_drop (by rw [← hzs];exact hx))
 have hAz:AtB zs 0 (mwA p f):=by
  obtain ⟨a,t,h1,h2⟩:=hA;exact ⟨[],t,by rw [hzs,h1,← h2,List.drop_left];rfl,rfl⟩
 have hil:=suA (f:=f) hn8;have hhl:=imA (f:=f) hn8;have hck:=ipA (f:=f) hn8 h8A;obtain ⟨P1,P2,P3,P4⟩:=ssA hn8 hAz;have hbl:=h7A p f (nk p);rw [ctA _ (λ i _=>fyA p i)] at hhl;have hkl:=bqA p;have hcl:(arB p).length=nk p:=ktA _ _;have hzle:=hAz.le;have hD:∀ i,i<nk p→(kp p i<65536∧(b2A p).getD i 0=(kp p i:Int))∧0<cnt (blk p (kp p i)) 65536∧cnt (blk p (kp p i)) 65536≤65536∧(arB p).getD i 0=((cnt (blk p (kp p i)) 65536:Nat):Int):=λ i hi=>by
  obtain ⟨k1,k2,k3,k4⟩:=hvA hi;exact ⟨⟨k1,k4⟩,ne_cnt.1 k2,cnt_le _ _,ogA hi⟩
 have hasc:∀ i,i+1<nk p→kp p i<kp p (i+1):=λ i hi=>h4A oZ
 have hoffs:¬ (e9A f (nk p)=true∧nk p<4)→(dwA p f).length=4*nk p:=λ ho=>by
  unfold dwA;rw [if_neg ho,ctA _ (λ i _=>ftA p f i)];omega
 have hoffs0:(e9A f (nk p)=true∧nk p<4)→(dwA p f).length=0:=λ ho=>by unfold dwA;rw [if_pos ho];rfl
 have hflag:∀ i,i<nk p→_:=λ i hi=>akB (f:=f) hn8 hi
 obtain ⟨ks,hks⟩:∃ ks,ks=b2A p:=⟨_,rfl⟩;obtain ⟨cs,hcs⟩:∃ cs,cs=arB p:=⟨_,rfl⟩;rw [← hks] at hkl hD;rw [← hcs] at hcl hD;clear hks hcs;obtain ⟨n,hnn⟩:∃ n,n=nk p:=⟨_,rfl⟩;obtain ⟨hd,hhd⟩:∃ m,m=(csA n f).length:=⟨_,rfl⟩;obtain ⟨H,hH⟩:∃ m,m=dxA n (e9A f n):=⟨_,rfl⟩;obtain ⟨L,hL⟩:∃ m,m=(mwA p f).length:=⟨_,rfl⟩;obtain ⟨O,hO⟩:∃ O,O=decide (¬ (e9A f n=true∧n<4)):=⟨_,rfl⟩;rw [← hnn] at hn8 hil hhl hck P1 P2 P3 P4 hbl hkl hcl hD hasc hoffs hoffs0 hflag;rw [← hhd] at P2 P3 hhl hck;rw [← hH] at P4 hhl hil;rw [← hL] at hil hale hzle ⊢;have hO3:O=true→(dwA p f).length=4*n∧∀ i,i<n→AtB zs (hd+4*n+4*i) (h2A p f i):=λ h=>by
  have:=of_decide_eq_true (hO▸h);exact ⟨hoffs this,P3 this⟩
 have hO0:O=false→(dwA p f).length=0:=λ h=>hoffs0 (Decidable.not_not.1 (of_decide_eq_false (hO▸h)))
 clear hoffs hoffs0 P3;have hHle:H≤1000:=by
  rw [hH];unfold dxA;split
  ·split <;> omega
  ·omega
 refine Fc.of (args:=[_,_]) Tryz.func15 rfl rfl Tryz.ntmps15 nZ ?_
 repeat' (first|(refine yL ?_;first|refine a0A rfl ?_|(refine cpA ?_;refine alA rfl _ rfl rfl (HasI.val h).c ?_)|(refine oD 29 ?_;refine a3A (hK _ _ (ciA rfl nZ rfl rfl (λ v' w'=>∃ b sl,v'=.pointer (some ⟨b,0,none⟩)∧Ext w w'∧RdI w.heap.size w' b sl zs 0) (λ w8 e8=>(new_c w8 _ zs (hsub.ext e8) oZ).mono λ en w' ⟨b,sl,g1,g2,g3⟩=>⟨_,g1,b,sl,rfl,e8.trans g2,⟨Nat.le_trans e8.size g3.1,g3.2.1,Own.base g3.2.2.1 e8.size,g3.2.2.2⟩⟩) (λ vv wA hAA=>?_)));clear hK K;obtain ⟨bc,sl,rfl,hxA,hrd⟩:=hAA;dsimp only [LA.vals];refine adA kZ (λ K hK=>?_))|(refine oD 30 ?_;refine fpA rfl rfl (b0B bc) ?_)|(refine oD 31 ?_;refine gmA rfl rfl ?_)|(refine oD 33 ?_;refine a3A (hK _ _ (ayA 7 rfl (λ v7 w7 e7 h7=>?_)));clear hK K;obtain ⟨br,hbr,rfl,hbrc⟩:=h7;have hR:Rdr w.heap.size w7 br bc sl zs 0 0:=⟨Nat.le_trans hxA.size hbr,hbrc,hrd.ext e7,hzy⟩;refine adA kZ (λ K hK=>cxA rfl rfl ?_))|(refine oD 34 ?_;refine a3A (hK _ _ (ciA rfl nZ rfl rfl (λ v' w'=>∃ fv fl,v'=.tuple #[.int .i64 n,fv,.bool O]∧OwnI w.heap.size tB .u8 w' fv fl∧fl.length=(n+7) / 8∧(0<n→fl.getD 0 0=(fB f n:Int))∧Rdr w.heap.size w' br bc sl zs hd 0∧w7.grownBy w' (some bc)) (λ w8 e8=>(wjA (hR.ext e8) hn8 P1).mono λ en w' ⟨fv,fl,g1,g2,g3,g4,g5,g6⟩=>⟨_,g1,fv,fl,by rw [hO],Own.base g2 (Nat.le_trans hxA.size (Nat.le_trans e7.size e8.size)),g3,g4,by rw [hhd,← Nat.zero_add (csA n f).length];exact g5,axA e8 g6⟩) (λ vv wB hBB=>?_)));clear hK K;obtain ⟨fv,fl,rfl,hfv,hfl,hf0,hR2,hG⟩:=hBB;dsimp only [LA.vals];have hr2:=hR2.hr;refine adA kZ (λ K hK=>?_))|(refine oD 35 ?_;refine xjA rfl rfl ?_)|(refine oD 36 ?_;refine xiA rfl rfl ?_)|(refine oD 37 ?_;refine xhA rfl rfl ?_)|(refine oD 40 ?_;refine f6A rfl rfl rfl fZ ?_;rw [show (4:Int)*(n:Int)=((4*n:Nat):Int) by omega])|(refine oD 48 ?_;refine ebA (n:=n) rfl c5A rfl rfl oZ oZ ?_)|(refine oD 50 ?_;refine ebA (n:=n) rfl d6B rfl rfl oZ oZ ?_)|(refine oD 52 ?_;refine alA rfl _ rfl rfl HasI.own.c ?_;rw [List.length_replicate])|refine yO ?_|(refine yC ?_ ?_<;>intro hc)|(refine yV ?_;first|(refine oD 41 ?_;refine oC 51 ?_;refine a4A (f:=51) rfl rfl rfl rfl  (.val (.bool true)) (by intro u1 u2 w e hu1 hu2;(try obtain rfl:u1=_:=hu1);(try obtain rfl:u2=_:=hu2);exact hzA (n:=4*n) (hR2.ext e) oZ) ?_))|(refine yN hK ?_;clear hK K))|refine wG ?_|(refine yR ?_;intro K hK)|fail)
 have xB:Ext w wB:=Fr.ext (hxA.trans e7) (Fr.grown hG) (λ k hk=>by cases hk;exact hR2.rd.1);refine c2A 11 rfl (λ vk w11 e11 h11=>?_);replace h11:OwnI wB.heap.size tK .u16 w11 vk (List.replicate n 0):=h11;refine c2A 12 rfl (λ vc w12 e12 h12=>?_);replace h12:OwnI wB.heap.size xyA .i64 w12 vc (List.replicate n 0):=h12;have hx12:=xB.trans (e11.trans e12);have hS0:Rds w.heap.size w12 br bc sl zs hd fv vk vc fl (List.replicate n 0) (List.replicate n 0):=⟨(hR2.ext e11).ext e12,(hfv.ext e11).ext e12,(Own.base h11 xB.size).ext e12,Own.base h12 xB.size⟩;have hbcw:w.heap.size≤bc:=hR2.rd.1;clear hR2 hfv h11 h12 hG hr2 hR hrd
 refine acA (ι:=Nat) (λ i=>[(1,.val (.int .i64 at_)),(7,.val (.pointer (some ⟨br,0,none⟩))),(8,.val (.int .i64 n)),(9,.val fv),(10,.val (.bool O)),(11,.val vk),(12,.val vc),(52,.val (.int .i64 n)),(53,.val (.int .i64 i))])
  (λ i w'=>i≤n∧Ext w w'∧Rds w.heap.size w' br bc sl zs (hd+4*i) fv vk vc fl (ks.take i++List.replicate (ks.length-i) 0) (cs.take i++List.replicate (cs.length-i) 0)) (λ i=>n-i)
  (λ w5 e5=>⟨0,⟨Nat.zero_le _,hx12.trans e5,by rw [hkl,hcl];simpa using hS0.ext e5⟩,sZ⟩) ?_
 rintro i w2 ⟨hi,he,hS⟩
 by_cases hil':i<n
 ·obtain ⟨⟨d1,d2⟩,d3,d4,d5⟩:=hD i hil'
  have hkset:=peA (xs:=ks) (i:=i) oZ;have hcset:=peA (xs:=cs) (i:=i) oZ;have hkll:=pfA (xs:=ks) (i:=i) oZ;have hcll:=pfA (xs:=cs) (i:=i) oZ;have hPd:=P2 i hil';unfold exA at hPd;have hPk:=hPd.left;have hPc:=hPd.right;rw [anA] at hPc;rw [d2] at hkset;rw [d5] at hcset;obtain ⟨K0,hK0⟩:∃ K,K=kp p i:=⟨_,rfl⟩;obtain ⟨C0,hC0⟩:∃ c,c=cnt (blk p (kp p i)) 65536:=⟨_,rfl⟩;rw [← hC0] at hPc d3 d4 d5 hcset;rw [← hK0] at hPk d1 d2 hkset;clear hPd hK0 hC0;obtain ⟨gb,cap,cur,rfl,t1,t2,t3,t4,t5,t6⟩:=OwnI.row hS.k oZ;obtain ⟨gc,capc,curc,rfl,s1,s2,s3,s4,s5,s6⟩:=OwnI.row hS.c oZ;have hrr:=hS.rd.hr;have hbcR:=hS.rd.rd.2.1;have hnb:¬ (some bc=some gb):=λ q=>by cases q;rw [hbcR] at t2;cases t2
  have hnc:¬ (some bc=some gc):=λ q=>by cases q;rw [hbcR] at s2;cases s2
  have hnbc:gc≠gb:=λ q=>by rw [q,t2] at s2;cases s2
  repeat' (first|(refine yL ?_;first|refine a0A rfl ?_|(refine oNc ?_;refine a8A rfl rfl ?_)|(refine oF 0 ?_;refine a1A (a':=⟨br,0,none⟩) rfl rfl (λ _=>rfl) ?_)|(refine oD 61 ?_;refine a6A (c:=.pointer (some ⟨bc,0,none⟩)) rfl (λ _=>rfl) rfl hrr rfl ?_)|(refine oD 62 ?_;refine a3A (hK _ _ (ciA rfl nZ rfl rfl (λ v w'=>v=.int .u16 K0∧RdI w.heap.size w' bc sl zs (hd+4*i+2)∧w2.grownBy w' (some bc)) (λ w8 e8=>(keA w8 w.heap.size bc sl zs _ K0 (hS.rd.rd.ext e8) hzy hPk oZ oZ).mono λ en w' h=>⟨_,h.1,rfl,h.2.1,axA e8 h.2.2⟩) (λ vv wX hXX=>?_)));clear hK K;obtain ⟨rfl,hX1,hX2⟩:=hXX;dsimp only [LA.vals];have t2':=(Fr.grown hX2).at t2 hnb;have hSX:=hS.step hX1 hX2;refine adA kZ (λ K hK=>?_))|(refine oD 63 ?_;refine bkA (s:=1) rfl rfl (λ _=>rfl) rfl rfl oZ oZ ?_;rw [Int.toNat_natCast,Nat.zero_add,Nat.mul_one])|(refine a3A (hK _ _ (bgA rfl rfl rfl t2' (λ _=>rfl) oZ rfl rfl (λ wY eY=>?_)));clear hK K;dsimp only [LA.vals];obtain ⟨S1,hS1⟩:∃ S1,S1=wY.setRow gb (cur.setIfInBounds i (.int .u16 K0)):=⟨_,rfl⟩;rw [← hS1])|refine yO ?_|(refine yC ?_ ?_<;>intro hc)|(refine yN hK ?_;clear hK K))|refine wG ?_|(refine yR ?_;intro K hK)|fail)
  have hSY:=(hSX.ext eY).setK t1 (eY.block t2') t3 t4 t5 t6 (i:=i) oZ K0;have x1:Ext w (wY.setRow gb (cur.setIfInBounds i (.int .u16 K0))):=((fkA he hX2 hbcw).trans eY).setRow t1 _;have s2':(wY.setRow gb (cur.setIfInBounds i (.int .u16 K0))).heap[gc]?=_:=(setRow_other _ _ _ _ hnbc).trans (eY.block ((Fr.grown hX2).at s2 hnc));rw [hkset] at hSY;rw [← hS1] at hSY x1 s2';clear hS1;have hr1:=hSY.rd.hr
  repeat' (first|(refine yL ?_;first|refine a0A rfl ?_|(refine oNc ?_;refine a8A rfl rfl ?_)|(refine oF 0 ?_;refine a1A (a':=⟨br,0,none⟩) rfl rfl (λ _=>rfl) ?_)|(refine oD 69 ?_;refine a6A (c:=.pointer (some ⟨bc,0,none⟩)) rfl (λ _=>rfl) rfl hr1 rfl ?_)|(refine oD 70 ?_;refine a3A (hK _ _ (ciA rfl nZ rfl rfl (λ v w'=>v=.int .u16 (C0-1:Nat)∧RdI w.heap.size w' bc sl zs (hd+4*i+2+2)∧S1.grownBy w' (some bc)) (λ w8 e8=>(keA w8 w.heap.size bc sl zs _ (C0-1:Nat) (hSY.rd.rd.ext e8) hzy hPc oZ oZ).mono λ en w' h=>⟨_,h.1,rfl,h.2.1,axA e8 h.2.2⟩) (λ vv wZ hZZ=>?_)));clear hK K;obtain ⟨rfl,hZ1,hZ2⟩:=hZZ;dsimp only [LA.vals];have sZ:=(Fr.grown hZ2).at s2' hnc;have hSZ:=hSY.step hZ1 hZ2;refine adA kZ (λ K hK=>?_))|(refine oD 72 ?_;refine b3A rfl rfl rfl fZ ?_;rw [show ((C0-1:Nat):Int)+1=(C0:Int) by omega])|(refine oD 73 ?_;refine bkA (s:=1) rfl rfl (λ _=>rfl) rfl rfl oZ oZ ?_;rw [Int.toNat_natCast,Nat.zero_add,Nat.mul_one])|(refine a3A (hK _ _ (bgA rfl rfl rfl sZ (λ _=>rfl) oZ rfl rfl (λ wV eV=>?_)));clear hK K;dsimp only [LA.vals])|refine yO ?_|(refine yC ?_ ?_<;>intro hc)|(refine yN hK ?_;clear hK K))|refine wG ?_|(refine yR ?_;intro K hK)|fail)
  have hSV:=(hSZ.ext eV).setC s1 (eV.block sZ) s3 s4 s5 s6 (i:=i) oZ C0;have x2:Ext w (wV.setRow gc (curc.setIfInBounds i (.int .i64 C0))):=((fkA x1 hZ2 hbcw).trans eV).setRow s1 _;rw [hcset] at hSV;exact a5A (i+1) (λ w5 e5=>⟨hil',x2.trans e5,by rw [show hd+4*(i+1)=hd+4*i+2+2 by omega];exact hSV.ext e5⟩) oZ sZ
 obtain rfl:i=n:=oZ;have hSa:Rds w.heap.size w2 br bc sl zs (hd+4*i) fv vk vc fl ks cs:=by
  have:=hS;rw [hkl,hcl,Nat.sub_self,List.replicate_zero,List.append_nil,List.append_nil] at this;rw [List.take_of_length_le oZ,List.take_of_length_le oZ] at this;exact this
 clear hS hS0 hx12 P2
 repeat' (first|(refine yL ?_;first|refine a0A rfl ?_|refine yO ?_|(refine yC ?_ ?_<;>intro hc)|(refine yN hK ?_;clear hK K))|refine wG ?_|(refine yR ?_;intro K hK)|fail)
 refine acA (ι:=Nat) (λ t=>[(1,.val (.int .i64 at_)),(7,.val (.pointer (some ⟨br,0,none⟩))),(8,.val (.int .i64 i)),(9,.val fv),(10,.val (.bool O)),(11,.val vk),(12,.val vc),(14,.val (.int .i64 t))])
  (λ t w'=>1≤t∧(t≤i∨t=1)∧Ext w w'∧Rds w.heap.size w' br bc sl zs (hd+4*i) fv vk vc fl ks cs) (λ t=>i+1-t)
  (λ w5 e5=>⟨1,⟨Nat.le_refl _,.inr rfl,he.trans e5,hSa.ext e5⟩,sZ⟩) ?_
 clear hSa he w2;rintro t w2 ⟨ht1,ht2,he,hS⟩
 by_cases hti:t<i
 ·obtain ⟨⟨a1,a2⟩,-⟩:=hD t hti
  obtain ⟨⟨b1,b2⟩,-⟩:=hD (t-1) oZ;have hlt:=hasc (t-1) oZ;rw [show t-1+1=t by omega] at hlt;obtain ⟨K1,hK1⟩:∃ K,K=kp p t:=⟨_,rfl⟩;obtain ⟨K2,hK2⟩:∃ K,K=kp p (t-1):=⟨_,rfl⟩;rw [← hK1] at a1 a2 hlt;rw [← hK2] at b1 b2 hlt;clear hK1 hK2
  repeat' (first|(refine yL ?_;first|refine a0A rfl ?_|(refine oD 83 ?_;refine aeA rfl rfl rfl fZ ?_;rw [show (t:Int)-1=((t-1:Nat):Int) by omega])|(refine oD 84 ?_;refine abA rfl _ rfl (λ _=>rfl) rfl (HasI.ownV hS.k) rfl oZ ?_;rw [b2])|(refine oD 88 ?_;refine abA rfl _ rfl (λ _=>rfl) rfl (HasI.ownV hS.k) rfl oZ ?_;rw [a2])|refine yO ?_|(refine yC ?_ ?_<;>intro hc)|(refine yV ?_;first|(refine oC 53 ?_;refine a4A (f:=53) rfl rfl rfl rfl  (.val (.bool true)) (by intro u1 u2 w e hu1 hu2;(try obtain rfl:u1=_:=hu1);(try obtain rfl:u2=_:=hu2);exact euA (hS.rd.ext e)) ?_))|(refine yN hK ?_;clear hK K))|refine wG ?_|(refine yR ?_;intro K hK)|fail)
  exact a5A (t+1) (λ w5 e5=>⟨by omega,.inl hti,he.trans e5,hS.ext e5⟩) oZ sZ
 have hSb:=hS;clear hS ht1 ht2 hasc
 repeat' (first|(refine yL ?_;first|refine a0A rfl ?_|refine yO ?_|(refine yC ?_ ?_<;>intro hc)|(refine yN hK ?_;clear hK K))|(refine oCX ?_;first|refine cdA (id:=19) (ι:=Value) (λ vb=>[(1,.val (.int .i64 at_)),(7,.val (.pointer (some ⟨br,0,none⟩))),(8,.val (.int .i64 i)),(9,.val fv),(10,.val (.bool O)),(11,.val vk),(12,.val vc),(15,.val vb)]) (λ vb w'=>Ext w w'∧Rds w.heap.size w' br bc sl zs H fv vk vc fl ks cs∧(O=true→OwnI w.heap.size byB .u32 w' vb (n0A (mxA p f) i))) ?_ ?_)|refine wG ?_|(refine yR ?_;intro K hK)|fail)
 ·cases O with
  | false =>
    have h0:=hO0 rfl
    repeat' (first|(refine yL ?_;first|refine a0A rfl ?_|refine yO ?_|(refine yC ?_ ?_<;>intro hc)|(refine yN hK ?_;clear hK K))|refine wG ?_|(refine yR ?_;intro K hK)|fail)
    exact a5A nilS (λ w5 e5=>⟨he.trans e5,by rw [show H=hd+4*i by omega];exact hSb.ext e5,λ h=>by cases h⟩) oZ sZ
  | true =>
    obtain ⟨h4,hPo⟩:=hO3 rfl
    repeat' (first|(refine yL ?_;first|refine a0A rfl ?_|(refine oD 96 ?_;refine f6A rfl rfl rfl fZ ?_;rw [show (4:Int)*(i:Int)=((4*i:Nat):Int) by omega])|refine yO ?_|(refine yC ?_ ?_<;>intro hc)|(refine yV ?_;first|(refine oD 97 ?_;refine oC 51 ?_;refine a4A (f:=51) rfl rfl rfl rfl  (.val (.bool true)) (by intro u1 u2 w e hu1 hu2;(try obtain rfl:u1=_:=hu1);(try obtain rfl:u2=_:=hu2);exact hzA (n:=4*i) (hSb.rd.ext e) oZ) ?_))|(refine yN hK ?_;clear hK K))|refine wG ?_|(refine yR ?_;intro K hK)|fail)
    refine acA (ι:=Nat × Value) (λ j=>[(1,.val (.int .i64 at_)),(7,.val (.pointer (some ⟨br,0,none⟩))),(8,.val (.int .i64 i)),(9,.val fv),(10,.val (.bool true)),(11,.val vk),(12,.val vc),(15,.val j.2),(99,.val (.int .i64 i)),(100,.val (.int .i64 j.1))])
     (λ j w'=>j.1≤i∧Ext w w'∧Rds w.heap.size w' br bc sl zs (hd+4*i+4*j.1) fv vk vc fl ks cs∧OwnI w.heap.size byB .u32 w' j.2 (n0A (mxA p f) j.1)) (λ j=>i-j.1)
     (λ w5 e5=>⟨(0,nilS),⟨Nat.zero_le _,he.trans e5,hSb.ext e5,OwnI.nil⟩,sZ⟩) ?_
    clear hSb he hti w2;rintro ⟨t,vb⟩ w2 ⟨hti,he,hS,hvb⟩;dsimp only at hti hS hvb ⊢
    by_cases htl:t<i
    ·have hPt:=hPo t htl
     have hbt:=h7A p f t;have hbeg:mxA p f t=((H+(buA (dgA p f) t).length:Nat):Int):=by unfold mxA;rw [← hnn,← hH]
     have hPt':AtB zs (hd+4*i+4*t) (leS (mxA p f t) 4):=hPt;have htn:=rbA (mxA p f) t;have htl1:=ktA (mxA p f) t;rw [hbeg] at hPt' htn;obtain ⟨B0,hB0⟩:∃ B,B=H+(buA (dgA p f) t).length:=⟨_,rfl⟩;rw [← hB0] at hPt' htn;have hrr:=hS.rd.hr;clear hPt hbeg
     repeat' (first|(refine yL ?_;first|refine a0A rfl ?_|(refine oNc ?_;refine a8A rfl rfl ?_)|(refine oF 0 ?_;refine a1A (a':=⟨br,0,none⟩) rfl rfl (λ _=>rfl) ?_)|(refine oD 106 ?_;refine a6A (c:=.pointer (some ⟨bc,0,none⟩)) rfl (λ _=>rfl) rfl hrr rfl ?_)|(refine oD 107 ?_;refine a3A (hK _ _ (ciA rfl nZ rfl rfl (λ v w'=>v=.int .u32 B0∧RdI w.heap.size w' bc sl zs (hd+4*i+4*t+4)∧w2.grownBy w' (some bc)) (λ w8 e8=>(m0A w8 w.heap.size bc sl zs _ B0 (hS.rd.rd.ext e8) hzy hPt' oZ oZ).mono λ en w' h=>⟨_,h.1,rfl,h.2.1,axA e8 h.2.2⟩) (λ vv wX hXX=>?_)));clear hK K;obtain ⟨rfl,hX1,hX2⟩:=hXX;dsimp only [LA.vals];have hSX:=hS.step hX1 hX2;have hvX:OwnI w.heap.size byB .u32 wX vb (n0A (mxA p f) t):=hS.rd.own hX2 hvb dZ;refine adA kZ (λ K hK=>?_))|(refine oD 108 ?_;refine g8A rfl ylA rfl rfl ?_)|(refine oD 109 ?_;refine a3A (hK _ _ (asA rfl nZ ylA rfl hvX rfl HasC.pred (λ u hu=>by rw [List.mem_singleton] at hu;subst hu;rfl) (by unfold maxLen;omega) oZ (λ v' wu wv eu ho hfr hlc=>?_)));clear hK K;refine adA kZ (λ K hK=>?_))|refine yO ?_|(refine yC ?_ ?_<;>intro hc)|(refine yN hK ?_;clear hK K))|refine wG ?_|(refine yR ?_;intro K hK)|fail)
     have x1:=(fkA he hX2 hbcw).trans eu;have x3:Ext w wv:=Fr.ext x1 hfr (λ k hk=>(Own.lt hvX k hk).1);have hS3:=(hSX.ext eu).fr hfr (λ k hk=>by
      obtain ⟨cur,hcur⟩:=awA (hvX.ext eu) hk;exact ⟨cur,_,_,hcur,⟨by decide,by decide,by decide⟩,by decide,by decide⟩)
     have hnew:OwnI w.heap.size byB .u32 wv v' (n0A (mxA p f) (t+1)):=by
      rw [htn];unfold OwnI;rw [List.map_append,List.length_append];exact Own.rebase ho (hlc.ge (λ k hk=>(Own.lt hvX k hk).1) x1.size)
     exact a5A (t+1,v') (λ w5 e5=>⟨htl,x3.trans e5,by rw [show hd+4*i+4*(t+1)=hd+4*i+4*t+4 by omega];exact hS3.ext e5,OwnI.ext hnew e5⟩) eZ sZ
    ·obtain rfl:t=i:=oZ
     repeat' (first|(refine yL ?_;first|refine a0A rfl ?_|refine yO ?_|(refine yC ?_ ?_<;>intro hc)|(refine yN hK ?_;clear hK K))|refine wG ?_|(refine yR ?_;intro K hK)|fail)
     exact a5A vb (λ w5 e5=>⟨he.trans e5,by rw [show H=hd+4*t+4*t by omega];exact hS.ext e5,λ _=>OwnI.ext hvb e5⟩) oZ sZ
 clear hSb he hti w2 hO3 hO0 hhl hck;rintro vb w2 ⟨he,hS,hvb⟩;have hposr:∀ w' pos,Rds w.heap.size w' br bc sl zs pos fv vk vc fl ks cs→∀ w'',Ext w' w''→Fc Tryz.prog 55 #[.pointer (some ⟨bc,0,none⟩)] w'' (Ret w'' (.val (.int .i64 (pos:Nat)))):=λ w' pos hh w'' e=>at_c _ bc sl pos (e.block hh.rd.rd.2.1)
 repeat' (first|(refine yL ?_;first|refine a0A rfl ?_|refine yO ?_|(refine yC ?_ ?_<;>intro hc)|(refine yN hK ?_;clear hK K))|refine wG ?_|(refine yR ?_;intro K hK)|fail)
 refine acA (ι:=Nat × Value) (λ j=>[(1,.val (.int .i64 at_)),(7,.val (.pointer (some ⟨br,0,none⟩))),(8,.val (.int .i64 i)),(9,.val fv),(10,.val (.bool O)),(11,.val vk),(12,.val vc),(15,.val vb),(16,.val j.2),(17,.val (.int .i64 j.1))])
  (λ j w'=>j.1≤i∧Ext w w'∧Rds w.heap.size w' br bc sl zs (H+(buA (dgA p f) j.1).length) fv vk vc fl ks cs∧(O=true→OwnI w.heap.size byB .u32 w' vb (n0A (mxA p f) i))∧∃ Q,KRow w.heap.size p j.1 w' j.2 Q) (λ j=>i-j.1)
  (λ w5 e5=>⟨(0,nilS),⟨Nat.zero_le _,he.trans e5,hS.ext e5,λ h=>(hvb h).ext e5,[],Own.nil,rfl,λ i hi=>absurd hi (Nat.not_lt_zero _)⟩,sZ⟩) ?_
 clear hS he hvb w2;rintro ⟨t,u⟩ w2 ⟨hti,he,hS,hvb,Q,hQ⟩;dsimp only at hti hS hvb hQ ⊢;have hrr:=hS.rd.hr;have hbt:=h7A p f t
 by_cases htl:t<i
 ·have hPt:=P4 t htl
  obtain ⟨-,d3,d4,d5⟩:=hD t htl;have hfg:=hflag t htl;have hf0':=hf0 oZ;have hbeg:mxA p f t=((H+(buA (dgA p f) t).length:Nat):Int):=by unfold mxA;rw [← hnn,← hH]
  have hbg:(n0A (mxA p f) i).getD t 0=mxA p f t:=ogA htl;have htl1:=ktA (mxA p f) i;have hcat:H+(buA (dgA p f) (t+1)).length=H+(buA (dgA p f) t).length+(dgA p f t).length:=by
   show H+(_++dgA p f t).length=_;rw [List.length_append];omega
  have hble:=jtA (blk p (kp p t)) (f t);have hone:∀ w',Ext w2 w'→Fc Tryz.prog 56 #[.pointer (some ⟨br,0,none⟩),.int .i64 (cnt (blk p (kp p t)) 65536:Nat),.bool (f t)] w' (λ en w''=>∃ v,en=.returned v∧(∃ kk,Cn TT w'' v (blk p (kp p t)) kk)∧Rdr w.heap.size w'' br bc sl zs (H+(buA (dgA p f) t).length+(dgA p f t).length) 0∧w'.grownBy w'' (some bc)):=λ w' e=>one_r (hS.rd.ext e) (f t) hPt d3 (b6B _ _)
  rw [hbeg] at hbg;obtain ⟨C0,hC0⟩:∃ c,c=cnt (blk p (kp p t)) 65536:=⟨_,rfl⟩;obtain ⟨q,hq⟩:∃ q,q=blk p (kp p t):=⟨_,rfl⟩;obtain ⟨P0,hP0⟩:∃ c,c=H+(buA (dgA p f) t).length:=⟨_,rfl⟩;obtain ⟨D0,hD0⟩:∃ c,c=(dgA p f t).length:=⟨_,rfl⟩;rw [← hC0,← hP0,← hD0,← hq] at hone;rw [← hP0] at hS hbg hcat;rw [← hD0] at hcat;rw [← hC0] at d3 d4 d5;have hqs:d8A (blk p (kp p t)) (f t)=dgA p f t:=rfl;rw [hqs,← hD0] at hble;obtain ⟨F,hF⟩:∃ F,F=(fB f i:Int):=⟨_,rfl⟩;rw [← hF] at hf0' hfg;obtain ⟨bs,hbs⟩:∃ bs,bs=n0A (mxA p f) i:=⟨_,rfl⟩;rw [← hbs] at hbg htl1 hvb;obtain ⟨ft,hft⟩:∃ b,b=f t:=⟨_,rfl⟩;rw [← hft] at hone hfg;have hP0b:P0≤2000000000:=oZ;clear hPt hbeg hC0 hD0 hqs hF hft hP0;have hQ1:=hQ.1;have hat:=hposr w2 P0 hS;cases O with
  | false =>
    repeat' (first|(refine yL ?_;first|refine yB ?_|(refine oNc ?_;refine a8A rfl rfl ?_)|(refine oF 0 ?_;refine a1A (a':=⟨br,0,none⟩) rfl rfl (λ _=>rfl) ?_)|(refine oF 1 ?_;refine a1A (a':=⟨br,1,none⟩) rfl rfl (λ _=>rfl) ?_)|(refine oD 118 ?_;refine a6A (c:=.int .i64 0) rfl (λ _=>rfl) rfl hrr rfl ?_)|(refine oD 135 ?_;refine a6A (c:=.pointer (some ⟨bc,0,none⟩)) rfl (λ _=>rfl) rfl hrr rfl ?_)|(refine oD 145 ?_;refine abA rfl _ rfl (λ _=>rfl) rfl (HasI.ownV hS.c) rfl oZ ?_;rw [d5])|(refine oD 149 ?_;refine d3A rfl rfl rfl oZ oZ fZ ?_;rw [show (t:Int) / 8=((0:Nat):Int) by omega])|(refine oD 150 ?_;refine abA rfl _ rfl (λ _=>rfl) rfl (HasI.ownV hS.f) rfl oZ ?_;rw [hf0'])|(refine oD 153 ?_;refine fcA rfl rfl rfl oZ oZ fZ ?_;rw [show (t:Int) % 8=((t:Nat):Int) by omega])|(refine oD 154 ?_;refine igA rfl rfl rfl ?_)|(refine oD 155 ?_;refine c9A (.inl rfl) rfl rfl rfl ?_;rw [hfg])|(refine oD 156 ?_;refine bnA (c:=.bool ft) rfl rfl rfl (λ _=>by cases ft <;> rfl) ?_)|refine yO ?_|(refine yC ?_ ?_<;>intro hc)|(refine yV ?_;first|(refine oC 55 ?_;refine a2A (f:=55) rfl rfl rfl  (.val (.int .i64 (P0:Nat))) (by intro u1 w e hu1;(try obtain rfl:u1=_:=hu1);exact hat _ e) ?_)|(refine oC 53 ?_;refine a4A (f:=53) rfl rfl rfl rfl  (.val (.bool true)) (by intro u1 u2 w e hu1 hu2;(try obtain rfl:u1=_:=hu1);(try obtain rfl:u2=_:=hu2);exact euA (hS.rd.ext e)) ?_))|(refine yN hK ?_;clear hK K))|(refine oCX ?_;first|refine amA (id:=29) [16,18] kZ kZ kZ (a7A ?_))|refine wG ?_|(refine yR ?_;intro K hK)|refine wPh ?_|fail)
    refine itA (v3:=undef) (f:=56) rfl rfl rfl rfl rfl (λ w' v w''=>∃ qd:Qd,v=qv qd∧(∀ u ∈ qcs qd,u.oneCell'=true)∧(∃ kk,Cn TT w'' (qv qd) q kk)∧Rdr w.heap.size w'' br bc sl zs (P0+D0) 0∧w'.grownBy w'' (some bc)) (λ u3 w1 e1 hu3=>?_) (λ v3 w3 w4 e3 hR=>⟨_,λ t u _ hu=>b9A t u hu,a7A ?_⟩)
    ·obtain rfl:u3=.bool ft:=hu3
     refine (hone w1 e1).mono (λ en w' ⟨v,g1,⟨kk,g2⟩,g3,g4⟩=>?_);obtain ⟨qd,rfl,h1⟩:=g2.qd;exact ⟨_,g1,qd,rfl,h1,⟨kk,g2⟩,g3,g4⟩
    obtain ⟨qd,rfl,honec,⟨kk,hcn⟩,hR4,hG4⟩:=hR;have hS4:=(hS.ext e3).go hR4 hG4;have hQ4:=(hQ.ext e3).fr (Fr.grown hG4) (λ k hk=>by
     obtain ⟨cur,hcur⟩:=(hS.rd.ext e3).bcAt k hk;exact ⟨cur,_,hcur,by decide,by decide,by decide,by decide⟩)
    have hv4:=λ h=>(hS.rd.ext e3).own hG4 (Own.ext (hvb h) e3) dZ
    have x4:=fkA (he.trans e3) hG4 hbcw;clear hS hQ hR4 hG4 hone hrr hQ1 hat
    repeat' (first|(refine yL ?_;first|refine yB ?_|(refine oD 145 ?_;refine abA rfl _ rfl (λ _=>rfl) rfl (HasI.ownV hS4.c) rfl oZ ?_;rw [d5])|(refine oD 149 ?_;refine d3A rfl rfl rfl oZ oZ fZ ?_;rw [show (t:Int) / 8=((0:Nat):Int) by omega])|(refine oD 150 ?_;refine abA rfl _ rfl (λ _=>rfl) rfl (HasI.ownV hS4.f) rfl oZ ?_;rw [hf0'])|(refine oD 153 ?_;refine fcA rfl rfl rfl oZ oZ fZ ?_;rw [show (t:Int) % 8=((t:Nat):Int) by omega])|(refine oD 154 ?_;refine igA rfl rfl rfl ?_)|(refine oD 155 ?_;refine c9A (.inl rfl) rfl rfl rfl ?_;rw [hfg])|(refine oD 156 ?_;refine bnA (c:=.bool ft) rfl rfl rfl (λ _=>by cases ft <;> rfl) ?_)|(refine oD 158 ?_;refine dpA (base:=w4.heap.size) (Nat.le_refl _) rfl cqA rfl (λ v w e h=>by obtain rfl:v=_:=h;exact Cn.ext hcn e) ?_)|refine yO ?_|(refine yC ?_ ?_<;>intro hc)|(refine yN hK ?_;clear hK K))|refine wG ?_|(refine yR ?_;intro K hK)|refine wPh ?_|fail)
    refine haA 158 rfl dZ rfl (λ v158 w5 e5 h158=>?_);obtain ⟨qc,r1,r2,r3⟩:=h158;refine d1A rfl cqA rfl (hQ4.1.ext e5) rfl (HasC.ownV r1) r3 (by unfold maxLen;omega) oZ (λ v' w6 w7 e6 ho hf hl=>⟨_,λ t u _ hu=>b9A t u hu,akA ?_⟩);have hS6:Rds w.heap.size w7 br bc sl zs (P0+D0) fv vk vc fl ks cs:=(hS4.ext (e5.trans e6)).fr hf (λ k hk=>by
     obtain ⟨cur,hcur⟩:=awA (hQ4.1.ext (e5.trans e6)) hk;exact ⟨cur,_,_,hcur,⟨by decide,by decide,by decide⟩,by decide,by decide⟩)
    repeat' (first|(refine yL ?_;first|refine yB ?_|(refine oD 145 ?_;refine abA rfl _ rfl (λ _=>rfl) rfl (HasI.ownV hS6.c) rfl oZ ?_;rw [d5])|(refine oD 149 ?_;refine d3A rfl rfl rfl oZ oZ fZ ?_;rw [show (t:Int) / 8=((0:Nat):Int) by omega])|(refine oD 150 ?_;refine abA rfl _ rfl (λ _=>rfl) rfl (HasI.ownV hS6.f) rfl oZ ?_;rw [hf0'])|(refine oD 153 ?_;refine fcA rfl rfl rfl oZ oZ fZ ?_;rw [show (t:Int) % 8=((t:Nat):Int) by omega])|(refine oD 154 ?_;refine igA rfl rfl rfl ?_)|(refine oD 155 ?_;refine c9A (.inl rfl) rfl rfl rfl ?_;rw [hfg])|(refine oD 156 ?_;refine bnA (c:=.bool ft) rfl rfl rfl (λ _=>by cases ft <;> rfl) ?_)|refine yO ?_|(refine yC ?_ ?_<;>intro hc)|(refine yN hK ?_;clear hK K))|refine wG ?_|(refine yR ?_;intro K hK)|refine wPh ?_|fail)
    have x6:=e5.trans e6;have hRu:∀ k,u.ownBlock=some k→∃ cur,w6.heap[k]?=some (.cells cur tC (0,0)):=λ k hk=>awA (hQ4.1.ext x6) hk
    have hS7:=(hS4.ext x6).fr hf (λ k hk=>by
     obtain ⟨cur,hcur⟩:=hRu k hk;exact ⟨cur,_,_,hcur,⟨by decide,by decide,by decide⟩,by decide,by decide⟩)
    have hv7:=λ h=>cnA (Own.ext (hv4 h) x6) hf (λ k hk=>by
     obtain ⟨cur,hcur⟩:=hRu k hk;exact ⟨cur,_,_,hcur,by decide⟩)
    have hQ7:=(hQ4.ext x6).snoc (qc:=qc) ⟨kk,by rw [← hq];exact Cn.ext r2 e6⟩ ho hf hl (x4.trans x6).size;have x7:Ext w w7:=Fr.ext (x4.trans x6) hf (λ k hk=>(Own.lt hQ4.1 k hk).1);exact a5A (t+1,v') (λ w8 e8=>⟨htl,x7.trans e8,by dsimp only;rw [hcat];exact hS7.ext e8,λ h=>by rw [← hbs];exact Own.ext (hv7 h) e8,_,hQ7.ext e8⟩) eZ sZ
  | true =>
    have hvb':=hvb rfl
    repeat' (first|(refine yL ?_;first|refine yB ?_|(refine oNc ?_;refine a8A rfl rfl ?_)|(refine oF 0 ?_;refine a1A (a':=⟨br,0,none⟩) rfl rfl (λ _=>rfl) ?_)|(refine oF 1 ?_;refine a1A (a':=⟨br,1,none⟩) rfl rfl (λ _=>rfl) ?_)|(refine oD 118 ?_;refine a6A (c:=.int .i64 0) rfl (λ _=>rfl) rfl hrr rfl ?_)|(refine oD 135 ?_;refine a6A (c:=.pointer (some ⟨bc,0,none⟩)) rfl (λ _=>rfl) rfl hrr rfl ?_)|(refine oD 145 ?_;refine abA rfl _ rfl (λ _=>rfl) rfl (HasI.ownV hS.c) rfl oZ ?_;rw [d5])|(refine oD 149 ?_;refine d3A rfl rfl rfl oZ oZ fZ ?_;rw [show (t:Int) / 8=((0:Nat):Int) by omega])|(refine oD 150 ?_;refine abA rfl _ rfl (λ _=>rfl) rfl (HasI.ownV hS.f) rfl oZ ?_;rw [hf0'])|(refine oD 153 ?_;refine fcA rfl rfl rfl oZ oZ fZ ?_;rw [show (t:Int) % 8=((t:Nat):Int) by omega])|(refine oD 154 ?_;refine igA rfl rfl rfl ?_)|(refine oD 155 ?_;refine c9A (.inl rfl) rfl rfl rfl ?_;rw [hfg])|(refine oD 156 ?_;refine bnA (c:=.bool ft) rfl rfl rfl (λ _=>by cases ft <;> rfl) ?_)|(refine oD 129 ?_;refine abA rfl _ rfl (λ _=>rfl) rfl (HasI.ownV hvb') rfl oZ ?_;rw [hbg])|refine yO ?_|(refine yC ?_ ?_<;>intro hc)|(refine yV ?_;first|(refine oC 55 ?_;refine a2A (f:=55) rfl rfl rfl  (.val (.int .i64 (P0:Nat))) (by intro u1 w e hu1;(try obtain rfl:u1=_:=hu1);exact hat _ e) ?_)|(refine oC 53 ?_;refine a4A (f:=53) rfl rfl rfl rfl  (.val (.bool true)) (by intro u1 u2 w e hu1 hu2;(try obtain rfl:u1=_:=hu1);(try obtain rfl:u2=_:=hu2);exact euA (hS.rd.ext e)) ?_))|(refine yN hK ?_;clear hK K))|(refine oCX ?_;first|refine amA (id:=29) [16,18] kZ kZ kZ (a7A ?_))|refine wG ?_|(refine yR ?_;intro K hK)|refine wPh ?_|fail)
    refine itA (v3:=undef) (f:=56) rfl rfl rfl rfl rfl (λ w' v w''=>∃ qd:Qd,v=qv qd∧(∀ u ∈ qcs qd,u.oneCell'=true)∧(∃ kk,Cn TT w'' (qv qd) q kk)∧Rdr w.heap.size w'' br bc sl zs (P0+D0) 0∧w'.grownBy w'' (some bc)) (λ u3 w1 e1 hu3=>?_) (λ v3 w3 w4 e3 hR=>⟨_,λ t u _ hu=>b9A t u hu,a7A ?_⟩)
    ·obtain rfl:u3=.bool ft:=hu3
     refine (hone w1 e1).mono (λ en w' ⟨v,g1,⟨kk,g2⟩,g3,g4⟩=>?_);obtain ⟨qd,rfl,h1⟩:=g2.qd;exact ⟨_,g1,qd,rfl,h1,⟨kk,g2⟩,g3,g4⟩
    obtain ⟨qd,rfl,honec,⟨kk,hcn⟩,hR4,hG4⟩:=hR;have hS4:=(hS.ext e3).go hR4 hG4;have hQ4:=(hQ.ext e3).fr (Fr.grown hG4) (λ k hk=>by
     obtain ⟨cur,hcur⟩:=(hS.rd.ext e3).bcAt k hk;exact ⟨cur,_,hcur,by decide,by decide,by decide,by decide⟩)
    have hv4:=λ h=>(hS.rd.ext e3).own hG4 (Own.ext (hvb h) e3) dZ
    have x4:=fkA (he.trans e3) hG4 hbcw;clear hS hQ hR4 hG4 hone hrr hQ1 hat
    repeat' (first|(refine yL ?_;first|refine yB ?_|(refine oD 145 ?_;refine abA rfl _ rfl (λ _=>rfl) rfl (HasI.ownV hS4.c) rfl oZ ?_;rw [d5])|(refine oD 149 ?_;refine d3A rfl rfl rfl oZ oZ fZ ?_;rw [show (t:Int) / 8=((0:Nat):Int) by omega])|(refine oD 150 ?_;refine abA rfl _ rfl (λ _=>rfl) rfl (HasI.ownV hS4.f) rfl oZ ?_;rw [hf0'])|(refine oD 153 ?_;refine fcA rfl rfl rfl oZ oZ fZ ?_;rw [show (t:Int) % 8=((t:Nat):Int) by omega])|(refine oD 154 ?_;refine igA rfl rfl rfl ?_)|(refine oD 155 ?_;refine c9A (.inl rfl) rfl rfl rfl ?_;rw [hfg])|(refine oD 156 ?_;refine bnA (c:=.bool ft) rfl rfl rfl (λ _=>by cases ft <;> rfl) ?_)|(refine oD 158 ?_;refine dpA (base:=w4.heap.size) (Nat.le_refl _) rfl cqA rfl (λ v w e h=>by obtain rfl:v=_:=h;exact Cn.ext hcn e) ?_)|refine yO ?_|(refine yC ?_ ?_<;>intro hc)|(refine yN hK ?_;clear hK K))|refine wG ?_|(refine yR ?_;intro K hK)|refine wPh ?_|fail)
    refine haA 158 rfl dZ rfl (λ v158 w5 e5 h158=>?_);obtain ⟨qc,r1,r2,r3⟩:=h158;refine d1A rfl cqA rfl (hQ4.1.ext e5) rfl (HasC.ownV r1) r3 (by unfold maxLen;omega) oZ (λ v' w6 w7 e6 ho hf hl=>⟨_,λ t u _ hu=>b9A t u hu,akA ?_⟩);have hS6:Rds w.heap.size w7 br bc sl zs (P0+D0) fv vk vc fl ks cs:=(hS4.ext (e5.trans e6)).fr hf (λ k hk=>by
     obtain ⟨cur,hcur⟩:=awA (hQ4.1.ext (e5.trans e6)) hk;exact ⟨cur,_,_,hcur,⟨by decide,by decide,by decide⟩,by decide,by decide⟩)
    repeat' (first|(refine yL ?_;first|refine yB ?_|(refine oD 145 ?_;refine abA rfl _ rfl (λ _=>rfl) rfl (HasI.ownV hS6.c) rfl oZ ?_;rw [d5])|(refine oD 149 ?_;refine d3A rfl rfl rfl oZ oZ fZ ?_;rw [show (t:Int) / 8=((0:Nat):Int) by omega])|(refine oD 150 ?_;refine abA rfl _ rfl (λ _=>rfl) rfl (HasI.ownV hS6.f) rfl oZ ?_;rw [hf0'])|(refine oD 153 ?_;refine fcA rfl rfl rfl oZ oZ fZ ?_;rw [show (t:Int) % 8=((t:Nat):Int) by omega])|(refine oD 154 ?_;refine igA rfl rfl rfl ?_)|(refine oD 155 ?_;refine c9A (.inl rfl) rfl rfl rfl ?_;rw [hfg])|(refine oD 156 ?_;refine bnA (c:=.bool ft) rfl rfl rfl (λ _=>by cases ft <;> rfl) ?_)|refine yO ?_|(refine yC ?_ ?_<;>intro hc)|(refine yN hK ?_;clear hK K))|refine wG ?_|(refine yR ?_;intro K hK)|refine wPh ?_|fail)
    have x6:=e5.trans e6;have hRu:∀ k,u.ownBlock=some k→∃ cur,w6.heap[k]?=some (.cells cur tC (0,0)):=λ k hk=>awA (hQ4.1.ext x6) hk
    have hS7:=(hS4.ext x6).fr hf (λ k hk=>by
     obtain ⟨cur,hcur⟩:=hRu k hk;exact ⟨cur,_,_,hcur,⟨by decide,by decide,by decide⟩,by decide,by decide⟩)
    have hv7:=λ h=>cnA (Own.ext (hv4 h) x6) hf (λ k hk=>by
     obtain ⟨cur,hcur⟩:=hRu k hk;exact ⟨cur,_,_,hcur,by decide⟩)
    have hQ7:=(hQ4.ext x6).snoc (qc:=qc) ⟨kk,by rw [← hq];exact Cn.ext r2 e6⟩ ho hf hl (x4.trans x6).size;have x7:Ext w w7:=Fr.ext (x4.trans x6) hf (λ k hk=>(Own.lt hQ4.1 k hk).1);exact a5A (t+1,v') (λ w8 e8=>⟨htl,x7.trans e8,by dsimp only;rw [hcat];exact hS7.ext e8,λ h=>by rw [← hbs];exact Own.ext (hv7 h) e8,_,hQ7.ext e8⟩) eZ sZ
 obtain rfl:t=i:=oZ;obtain ⟨kks,hkks⟩:=hQ.kinds;have hjn:∀ w',Ext w2 w'→Fc Tryz.prog 57 #[vk,u] w' (Ret w' (.tup2 (.pred (rsP TT TT p)) (.val (.int .i64 0)))):=λ w' e=>by
  have:=ctB (d:=true) (kn:=kp p) (qs:=λ i=>blk p (kp p i)) (kks:=kks) (OwnI.slI (hS.k.ext e)) (Own.slC (hQ.1.ext e)) hkl hQ.2.1 (hT.ext (he.trans e)) (λ i hi=>(hD i hi).1) (λ i hi=>(hkks i hi).ext e) (λ i _ j hj=>ejA oZ) oZ ⟨λ _=>by rw [hnn];exact t3A p,λ _=>rfl⟩;rw [hnn,w0A htop] at this;exact this
 obtain ⟨P0,hP0⟩:∃ c,c=H+(buA (dgA p f) t).length:=⟨_,rfl⟩;rw [← hP0] at hS;have hat:=hposr w2 P0 hS;clear hkks P4 hD hflag
 repeat' (first|(refine yL ?_;first|refine a0A rfl ?_|(refine oNc ?_;refine a8A rfl rfl ?_)|(refine oF 0 ?_;refine a1A (a':=⟨br,0,none⟩) rfl rfl (λ _=>rfl) ?_)|(refine oF 1 ?_;refine a1A (a':=⟨br,1,none⟩) rfl rfl (λ _=>rfl) ?_)|(refine oD 163 ?_;refine a6A (c:=.int .i64 0) rfl (λ _=>rfl) rfl hrr rfl ?_)|(refine oD 180 ?_;refine a6A (c:=.pointer (some ⟨bc,0,none⟩)) rfl (λ _=>rfl) rfl hrr rfl ?_)|(refine oD 182 ?_;refine b3A rfl rfl rfl fZ ?_;rw [show (at_:Int)+(P0:Int)=((at_+L:Nat):Int) by omega])|refine yO ?_|(refine yC ?_ ?_<;>intro hc)|(refine yV ?_;first|(refine oC 57 ?_;refine a4A (f:=57) rfl rfl rfl rfl  (.tup2 (.pred (rsP TT TT p)) (.val (.int .i64 0))) (by intro u1 u2 w e hu1 hu2;(try obtain rfl:u1=_:=hu1);(try obtain rfl:u2=_:=hu2);exact hjn _ e) ?_)|(refine oC 55 ?_;refine a2A (f:=55) rfl rfl rfl  (.val (.int .i64 (P0:Nat))) (by intro u1 w e hu1;(try obtain rfl:u1=_:=hu1);exact hat _ e) ?_))|(refine yN hK ?_;clear hK K))|refine wG ?_|(refine yR ?_;intro K hK)|fail)
 refine lqA rfl (λ v5 v6 v8 w5 e5 h5 h6 h8=>?_);exact ⟨_,rfl,he.trans e5,v5,v6,v8,rfl,h5,h6,h8⟩
end Go.Proofs.YtbokphkfojijoaaGreatDoor.Pt
end
section
namespace Go.LA
open Go.RowKit
section
variable {P:Program} {l:List Oper} {N:Nn} {wb:World} {K:List Oper→Env→Prop} {rest:List Oper} {E:Env} {Q:Exit→Act→World→Prop}
variable {d:Tmp} {ty t t':TypeId} {pos:String} {after:Array Edge} {g:Option (Nat × Bool)} {x y z:Operand} {k k':IntKind}
theorem v4A {w:World} {v:Value} {xs:List Int} {src dst e:TypeId} (h:SlI .u8 w v xs) (hs:P.underlying src=some (.slice e)) (he:P.underlying e=some (.int .u8)) (hd:P.underlying dst=some .string) :
 (convert src dst v).run P w=.ok (.string (strOfNums xs)) w:=by
 obtain ⟨h0,a,cap,rfl,hc,hm,hn,hcs⟩:=h;cases a with
 | none =>
   obtain rfl:=hn rfl;obtain rfl:xs=[]:=List.eq_nil_of_length_eq_zero oZ;exact run_convert_bytes_nil w src e hs he _ _ dst hd
 | some a =>
   rcases hcs with h1|⟨b,off,ha,hcell⟩
   ·obtain rfl:xs=[]:=List.eq_nil_of_length_eq_zero h1
    rw [List.length_nil,run_convert_bytes_string w src dst e _ _ cap hs he hd,run_bytesToString w a 0 cap [] (by rfl),foldl_push_bytes];rfl
   ·obtain rfl:=Option.some.inj ha
    exact run_convert_bytes_arg w src e hs he b off _ cap xs rfl (λ i hi=>hcell i _ (by simp [List.getD,List.getElem?_eq_getElem hi])) dst hd
theorem ufA {src dst e:TypeId} {r:AD} {xs:List Int} (hg:bmA l E g=some true) (hs:P.underlying src=some (.slice e)) (he:P.underlying e=some (.int .u8)) (hd:P.underlying dst=some .string) (hr:opE E x=r) (hx:HasI wb r .u8 xs)
 (h:LA P l wb K rest ((d,.val (.string (strOfNums xs)))::E)):LA P l wb K (⟨some d,.convert src dst x,ty,pos,after,g⟩::rest) E :=
 beA _ hg (bwA λ a w he' hh=>by
  have e1:=hh x (by simp [Op.operands]);rw [hr] at e1;have:=v4A (P:=P) (hx _ _ he' e1) hs he hd;simp only [execOp,Sem.run_bind,this,Result.andThen_ok,Sem.run_pure]) h
theorem x9A {a b:ByteArray} (hg:bmA l E g=some true) (ht:P.underlying t=some .string) (hx:opE E x=.val (.string a)) (hy:opE E y=.val (.string b)) (h:LA P l wb K rest ((d,.val (.bool (a.toList == b.toList)))::E)) :
 LA P l wb K (⟨some d,.binOp .eql t x y t',ty,pos,after,g⟩::rest) E :=
 bnA hg hx hy (λ w=>by simp [eqGuard,binOp,Op.equal,Op.stringOp,run_underlying ht]) h
theorem u4A {a b:ByteArray} (hg:bmA l E g=some true) (ht:P.underlying t=some .string) (hx:opE E x=.val (.string a)) (hy:opE E y=.val (.string b)) (hab:a=b) (h:LA P l wb K rest ((d,.val (.bool true))::E)) :
 LA P l wb K (⟨some d,.binOp .eql t x y t',ty,pos,after,g⟩::rest) E :=
 x9A hg ht hx hy (by subst hab;simpa using h)
theorem u3A {a b:ByteArray} (hg:bmA l E g=some true) (ht:P.underlying t=some .string) (hx:opE E x=.val (.string a)) (hy:opE E y=.val (.string b)) (hab:a=b) (h:LA P l wb K rest ((d,.val (.bool false))::E)) :
 LA P l wb K (⟨some d,.binOp .neq t x y t',ty,pos,after,g⟩::rest) E :=
 bnA (c:=.bool false) hg hx hy (λ w=>by subst hab;simp [eqGuard,binOp,Op.equal,Op.stringOp,run_underlying ht]) h
end
end Go.LA
end
section
namespace Go.Proofs.YtbokphkfojijoaaGreatDoor.Pt
open Go.LA Go.ArrP Go.RowKit
theorem nmA {p:Nat→Bool} (h:nk p≤8):(erA p).length≤1100000:=by
 unfold erA;rw [suA h];have h1:=h7A p (cbA p) (nk p);have h2:dxA (nk p) (e9A (cbA p) (nk p))≤1000:=by
  unfold dxA;split
  ·split <;> omega
  ·omega
 omega
theorem jqA {ps:Nat→Nat→Bool} (h:∀ i,nk (ps i)≤8) (n:Nat):(buA (λ i=>erA (ps i)) n).length≤n*1100000:=o1A n (λ i _=>nmA (h i))
theorem tfA {ps:Nat→Nat→Bool} (h:∀ i,nk (ps i)≤8) (n:Nat):∀ x ∈ buA (λ i=>erA (ps i)) n,0≤x∧x<256:=λ x hx=>by
 obtain ⟨i,-,h2⟩:=hmA n hx;exact w3A (h i) x h2
theorem azB {ps:Nat→Nat→Bool} {i m:Nat} (h:i<m):AtB (buA (λ i=>erA (ps i)) m) (buA (λ i=>erA (ps i)) i).length (erA (ps i)):=by
 have h1:AtB (buA (λ i=>erA (ps i)) m) 0 (buA (λ i=>erA (ps i)) m):=⟨[],[],by simp,rfl⟩;have:=h1.cat h;rw [Nat.zero_add] at this;exact this
theorem w4A {w:World} {v:Value} {n:Nat} {ps:Nat→Nat→Bool} (h:NIX tIv n ps w v) (hn:n≤100) (h8:∀ i,nk (ps i)≤8) (hT:Tab w):Fc Tryz.prog 22 #[v] w (Ret w (.pred (b4A w.heap.size tB .u8 (buA (λ i=>erA (ps i)) n)))):=by
 rcases h with ⟨rfl,rfl⟩|⟨b,sv,ptrs,rfl,hb,hs⟩
 ·exact (iby_0 (ps:=ps) (.inl ⟨rfl,rfl⟩)).mono (λ en w' ⟨v',g1,g2,g3⟩=>⟨v',g1,g2,by obtain rfl:v'=nilS:=g3;exact OwnI.nil⟩)
 have hlen:∀ w',Ext w w'→Fc Tryz.prog 29 #[.pointer (some ⟨b,0,none⟩)] w' (Ret w' (.val (.int .i64 n))):=λ w' e=>mjA (ps:=ps) (.inr ⟨b,sv,ptrs,rfl,e.block hb,hs.ext e⟩)
 refine Fc.of (args:=[_]) Tryz.func22 rfl rfl Tryz.ntmps22 nZ ?_
 repeat' (first|(refine yL ?_;first|refine a0A rfl ?_|refine yO ?_|(refine yC ?_ ?_<;>intro hc)|(refine yV ?_;first|(refine oC 29 ?_;refine a2A (f:=29) rfl rfl rfl  (.val (.int .i64 n)) (by intro u1 w e hu1;(try obtain rfl:u1=_:=hu1);exact hlen _ e) ?_))|(refine yN hK ?_;clear hK K))|refine wG ?_|(refine yR ?_;intro K hK)|fail)
 refine acA (ι:=Nat × Value) (λ j=>[(0,.val (.pointer (some ⟨b,0,none⟩))),(3,.val j.2),(6,.val (.int .i64 n)),(7,.val (.int .i64 j.1))])
  (λ j w'=>Ext w w'∧j.1≤n∧OwnI w.heap.size tB .u8 w' j.2 (buA (λ i=>erA (ps i)) j.1)) (λ j=>n-j.1)
  (λ w2 e2=>⟨(0,nilS),⟨e2,Nat.zero_le _,OwnI.nil⟩,sZ⟩) ?_
 rintro ⟨i,vb⟩ w1 ⟨he,hi,hB⟩;dsimp only at hi hB ⊢;have hb1:=he.block hb;have hs1:=hs.ext he
 by_cases hil:i<n
 ·have hwr:∀ w',Ext w1 w'→Fc Tryz.prog 18 #[ptrs.getD i undef] w' (Ret w' (.pred (b4A w.heap.size tB .u8 (erA (ps i))))):=λ w' e=>(yrA (.inr ((hs1.at_ i hil).ext e)) (h8 i) (hT.ext (he.trans e))).mono (a9A (he.trans e).size)
  have hl1:=jqA h8 i;have hl2:=nmA (h8 i);have hcat:buA (λ i=>erA (ps i)) (i+1)=buA (λ i=>erA (ps i)) i++erA (ps i):=rfl;obtain ⟨B,hBB⟩:∃ B,B=buA (λ i=>erA (ps i)) i:=⟨_,rfl⟩;obtain ⟨D,hD⟩:∃ D,D=erA (ps i):=⟨_,rfl⟩;rw [← hBB] at hB hcat hl1;rw [← hD] at hwr hcat hl2
  repeat' (first|(refine yL ?_;first|refine a0A rfl ?_|refine a8A rfl rfl ?_|refine a1A (a':=⟨b,0,none⟩) rfl rfl (λ _=>rfl) ?_|(refine oD 14 ?_;refine a6A (c:=sv) rfl (λ _=>rfl) rfl hb1 rfl ?_)|(refine oD 16 ?_;refine d4A rfl _ rfl (λ _=>rfl) rfl (HasC.ownV hs1.own) rfl i rfl hil hs1.own.lenV ?_)|(refine oD 19 ?_;refine a3A (hK _ _ (ayA 18 rfl (λ vd wd ed hd=>?_)));clear hK K;replace hd:OwnI w.heap.size tB .u8 wd vd D:=hd;have hBd:=hB.ext ed;refine asA rfl dZ esA rfl hBd rfl (HasI.ownV hd).c c4A (by unfold maxLen;omega) oZ (λ v' wu wv eu ho hfr hlc=>?_);refine adA kZ (λ K hK=>?_))|refine yO ?_|(refine yC ?_ ?_<;>intro hc)|(refine yV ?_;first|(refine oC 18 ?_;refine a2A (f:=18) rfl rfl rfl  (.pred (b4A w.heap.size tB .u8 D)) (by intro u1 w e hu1;(try obtain rfl:u1=_:=hu1);exact hwr _ e) ?_))|(refine yN hK ?_;clear hK K))|refine wG ?_|(refine yR ?_;intro K hK)|fail)
  have hxd:=he.trans (ed.trans eu);have x3:Ext w wv:=Fr.ext hxd hfr (λ k hk=>(Own.lt hB k hk).1);have hnew:OwnI w.heap.size tB .u8 wv v' (B++D):=by
   unfold OwnI;rw [List.map_append,List.length_append];exact Own.rebase ho (hlc.ge (λ k hk=>(Own.lt hB k hk).1) hxd.size)
  exact a5A (i+1,v') (λ w5 e5=>⟨x3.trans e5,hil,by dsimp only;rw [hcat];exact OwnI.ext hnew e5⟩) eZ sZ
 ·obtain rfl:i=n:=oZ
  repeat' (first|(refine yL ?_;first|refine a0A rfl ?_|refine yO ?_|(refine yC ?_ ?_<;>intro hc)|(refine yN hK ?_;clear hK K))|refine wG ?_|(refine yR ?_;intro K hK)|fail)
  exact aiA rfl rfl he (λ u w5 e5 hu=>by obtain rfl:u=_:=hu;exact OwnI.ext hB e5)
def rdX (t:Nat) (b:Bool) (n:Nat) (ps:Nat→Nat→Bool):AD:=match b with
 | true=>.tup2 (.pred (ixP t n ps)) (.val (.int .i64 0))
 | false=>.tup2 (.val (.pointer none)) (.val (.int .i64 5))
theorem ckB {p:Nat→Bool} (h:∀ x,65536≤x→p x=false):nk p≤1:=by
 have h1:cnt (ne p) 65536=cnt (ne p) 1:=gqA (p:=ne p) (a:=1) 65536 oZ (λ k hk _=>by
  cases hn:ne p k with
  | false=>rfl
  | true =>
    obtain ⟨i,hi,hp⟩:=ne_iff.1 hn;rw [h _ oZ] at hp;cases hp)
 have h2:=cnt_le (ne p) 1;show cnt (ne p) 65536≤1;omega
theorem id8 {ids:List Int} (hl:ids.length≤300) (i:Int):nk (idP ids i)≤8:=Nat.le_trans (ckB λ x hx=>jkA oZ) dZ
theorem bzB {ids:List Int} {k:Nat} (T:Nat):cnt (sumP ids (k+1)) T=cnt (sumP ids k) T+cnt (idP ids k) T:=t9A T λ i _=>by
 have h1:=hhA (ids:=ids) (x:=i) (k+1);have h2:=hhA (ids:=ids) (x:=i) k;have h3:idP ids k i=true↔_:=idP_iff (ids:=ids) (id:=k) (x:=i)
 by_cases c1:idP ids k i=true
 ·have g:=h3.1 c1
  have c2:sumP ids k i=false:=h1A λ h'=>by have:=(h2.1 h').2.2;omega
  have c4:sumP ids (k+1) i=true:=h1.2 ⟨g.1,by omega,by omega⟩;rw [c1,c2,c4];rfl
 ·have c1':=h1A c1
  by_cases c2:sumP ids k i=true
  ·have g:=h2.1 c2
   have c4:sumP ids (k+1) i=true:=h1.2 ⟨g.1,g.2.1,by omega⟩;rw [c1',c2,c4];rfl
  ·have c4:sumP ids (k+1) i=false:=h1A λ h'=>by
    have g:=h1.1 h'
    by_cases e:ids.getD i 0=(k:Int)
    ·exact c1 (h3.2 ⟨g.1,e⟩)
    ·exact c2 (h2.2 ⟨g.1,g.2.1,by omega⟩)
   rw [c1',h1A c2,c4];rfl
theorem n1A {ids:List Int} {n T:Nat} (h:IdsIn ids n) (hT:ids.length≤T):cnt (sumP ids n) T=ids.length:=atB (λ x=>by
 rw [hhA]
 constructor
 ·exact λ h=>h.1
 ·intro hx;have:=h x hx;omega) hT
def orN (ps:Nat→Nat→Bool):Nat→Nat→Bool
 | 0=>λ _=>false
 | k+1=>two (λ x y=>x || y) (orN ps k) (ps k)
noncomputable def reA (ps:Nat→Nat→Bool):Nat→Nat
 | 0=>0
 | k+1=>reA ps k+cnt (ps k) TOP
theorem rcA (ps:Nat→Nat→Bool):∀ k,reA ps k≤k*TOP
 | 0=>Nat.zero_le _
 | k+1=>by
   have:=rcA ps k;have h2:=cnt_le (ps k) TOP;simp only [reA];rw [Nat.succ_mul];omega
theorem abB {w:World} {v:Value} {ps:Nat→Nat→Bool} {m k rows:Nat} (h:SlI .u8 w v (buA (λ i=>erA (ps i)) m)) (hT:Tab w) (hk:k≤m) (hm:m≤100) (h8:∀ i,nk (ps i)≤8) (htop:∀ i x,TOP≤x→ps i x=false) (hr:rows≤1000000)
 {d:Bool} (hd:d=true↔((buA (λ i=>erA (ps i)) k).length=(buA (λ i=>erA (ps i)) m).length∧reA ps k=rows∧cnt (orN ps k) TOP=rows∧cnt (orN ps k) rows=rows)) :
 Fc Tryz.prog 23 #[v,.int .i64 rows,.int .i64 k] w (Ret w (rdX tIv d k ps)):=by
 have hlh:=h.len;have hml:=jqA h8 m;have hmb:=tfA h8 m;have htp:=eqA;refine Fc.of (args:=[_,_,_]) Tryz.func23 rfl rfl Tryz.ntmps23 nZ ?_
 repeat' (first|(refine yL ?_;first|refine a0A rfl ?_|refine fqA (c:=.agg #[nilS]) rfl (λ _=>by kernel_rfl) ?_|(refine oD 30 ?_;refine gmA rfl rfl ?_)|refine yO ?_|(refine yC ?_ ?_<;>intro hc)|(refine yV ?_;first|(refine oC 40 ?_;refine dvA (f:=40) rfl rfl  (.pred (rsP TT TT (λ _=>false))) (by intro w e;exact Go.Proofs.YtbokphkfojijoaaGreatDoor.new_c _ tt) ?_))|(refine yN hK ?_;clear hK K))|refine wG ?_|(refine yR ?_;intro K hK)|fail)
 refine c2A 8 rfl (λ v8 wx ex hx8=>?_);refine c2A 9 rfl (λ v9 w9 e9 h9=>?_);obtain ⟨b,hbb,rfl,hb9⟩:=hx8;have hbw:w.heap.size≤b:=hbb
 refine acA (ι:=Nat × Value × Value × List Value) (λ j=>[(0,.val v),(1,.val (.int .i64 rows)),(8,.val (.pointer (some ⟨b,0,none⟩))),(9,.val j.2.1),(10,.val (.int .i64 (reA ps j.1))),(11,.val (.int .i64 (buA (λ i=>erA (ps i)) j.1).length)),(32,.val (.int .i64 k)),(33,.val (.int .i64 j.1))])
  (λ j w'=>Ext w w'∧j.1≤k∧w'.heap[b]?=some (.cells #[j.2.2.1] tIv (0,0))∧Sets w' w.heap.size j.2.2.1 j.2.2.2 j.1 ps∧RSet TT TT w' j.2.1 (orN ps j.1))
  (λ j=>k-j.1) (λ w2 e2=>⟨(0,v9,nilS,[]),⟨(ex.trans e9).trans e2,Nat.zero_le _,(e9.trans e2).block hb9,⟨Own.nil,λ i hi=>absurd hi (Nat.not_lt_zero _)⟩,RSet.ext h9 e2⟩,sZ⟩) ?_
 rintro ⟨i,wv,sv,ptrs⟩ w1 ⟨he,hi,hb1,hs,hwv⟩;dsimp only at hi hb1 hs hwv ⊢;have hsc:=rcA ps i;have hcl:=jqA h8 i;have hi100:i*TOP≤100*TOP:=Nat.mul_le_mul_right _ oZ
 by_cases hil:i<k
 ·have hsn:reA ps (i+1)=reA ps i+cnt (ps i) TOP:=rfl
  have hon:orN ps (i+1)=two (λ x y=>x || y) (orN ps i) (ps i):=rfl;have hct:cnt (ps i) TOP≤TOP:=cnt_le _ _;have hcn:(buA (λ i=>erA (ps i)) i).length+(erA (ps i)).length=(buA (λ i=>erA (ps i)) (i+1)).length:=by
   show _=(_++erA (ps i)).length;rw [List.length_append]
  have hrd:∀ w',Ext w1 w'→Fc Tryz.prog 15 #[v,.int .i64 ((buA (λ i=>erA (ps i)) i).length:Nat)] w' (Ret w' (.tup3 (.pred (rsP TT TT (ps i))) (.val (.int .i64 ((buA (λ i=>erA (ps i)) (i+1)).length:Nat))) (.val (.int .i64 0)))):=λ w' e=>by
   have:=c8B (f:=cbA (ps i)) (h.ext (he.trans e)) (hT.ext (he.trans e)) oZ hmb (h8 i) (htop i) (azB (ps:=ps) oZ);rw [show (mwA (ps i) (cbA (ps i))).length=(erA (ps i)).length from rfl,hcn] at this;exact this
  obtain ⟨a0,ha0⟩:∃ a,a=(buA (λ i=>erA (ps i)) i).length:=⟨_,rfl⟩;obtain ⟨a1,ha1⟩:∃ a,a=(buA (λ i=>erA (ps i)) (i+1)).length:=⟨_,rfl⟩;obtain ⟨s0,hs0⟩:∃ a,a=reA ps i:=⟨_,rfl⟩;obtain ⟨c0,hc0⟩:∃ a,a=cnt (ps i) TOP:=⟨_,rfl⟩;rw [← ha0,← ha1] at hrd;rw [← ha0];rw [← hs0] at hsn hsc ⊢;rw [← hc0] at hsn hct
  repeat' (first|(refine yL ?_;first|refine a0A rfl ?_|(refine oD 45 ?_;refine a3A (hK _ _ (ayA 12 rfl (λ v12 w2 e2 h2=>?_)));clear hK K;have hb2:=e2.block hb1;have hs2:=hs.ext e2;have hp2:RSet TT TT w2 v12 (ps i):=h2;obtain ⟨cv1,cv2⟩:=y2A _ _ h2;refine adA kZ (λ K hK=>cxA rfl rfl ?_))|refine a8A rfl rfl ?_|refine a1A (a':=⟨b,0,none⟩) rfl rfl (λ _=>rfl) ?_|(refine oD 49 ?_;refine a6A (c:=sv) rfl (λ _=>rfl) rfl hb2 rfl ?_)|(refine oD 51 ?_;refine dqA rfl wdA rfl cv1 ?_)|(refine oD 52 ?_;refine a3A (hK _ _ (asA rfl dZ wdA rfl hs2.own rfl HasC.own (λ c hc=>by rw [List.mem_singleton] at hc;subst hc;exact cv2) (by unfold maxLen;omega) oZ (λ sv' w4 w5 e4 hos hf hl=>?_)));clear hK K;have hb5:=hf.at (e4.block hb2) (λ hq=>Own.apart hs2.own hb2 dZ hq);obtain ⟨ck1,ck2⟩:=cyA hos;refine adA kZ (λ K hK=>?_))|(refine a3A (hK _ _ (bgA rfl rfl rfl hb5 (λ _=>rfl) (Nat.lt_succ_self 0) ck1 ck2 (λ w6 e6=>?_)));clear hK K;dsimp only [vals];obtain ⟨w7,hw7'⟩:∃ w7,w7=w6.setRow b (#[sv].setIfInBounds 0 sv'):=⟨_,rfl⟩;rw [← hw7'])|refine yO ?_|(refine yC ?_ ?_<;>intro hc)|(refine yV ?_;first|(refine oC 15 ?_;refine a4A (f:=15) rfl rfl rfl rfl  (.tup3 (.pred (rsP TT TT (ps i))) (.val (.int .i64 (a1:Nat))) (.val (.int .i64 0))) (by intro u1 u2 w e hu1 hu2;(try obtain rfl:u1=_:=hu1);(try obtain rfl:u2=_:=hu2);exact hrd _ e) ?_))|(refine yN hK ?_;clear hK K))|refine wG ?_|(refine yR ?_;intro K hK)|fail)
  rw [show #[sv].setIfInBounds 0 sv'=#[sv'] from rfl] at hw7';have x4:=e2.trans e4;have hR:∀ q,sv.ownBlock=some q→∃ cur,w4.heap[q]?=some (.cells cur tPs (0,0)):=λ q hq=>awA (hs.own.ext x4) hq
  have hRs:∀ {p:Nat→Bool} {vv:Value},RSet TT TT w4 vv p→RSet TT TT w5 vv p:=λ hh=>hh.off hf (λ q hq=>by obtain ⟨cur,hc⟩:=hR q hq;exact ⟨cur,_,hc,by decide,by decide,by decide,by decide,by decide⟩)
  have hs9:=hRs (RSet.ext hp2 e4);have hw9:=hRs (RSet.ext hwv x4);have hs5:∀ j,j<i+1→RSet TT TT w5 ((ptrs++[v12]).getD j undef) (ps j):=λ j hj=>by
   rw [giA hs.own.lenV]
   by_cases e:j<i
   ·rw [if_pos e];exact hRs ((hs.at_ j e).ext x4)
   ·obtain rfl:j=i:=oZ
    rw [if_neg e,if_pos rfl];exact hs9
  have hsv5:LA.Own w.heap.size tPs 1 w5 sv' (i+1) (ptrs++[v12]):=Own.rebase hos (hl.ge (λ q hq=>(Own.lt hs.own q hq).1) (Nat.le_trans he.size x4.size));have x5:Ext w w5:=Fr.ext (he.trans x4) hf (λ q hq=>(Own.lt hs.own q hq).1);have hb6:=e6.block hb5;have hfr:Fr (λ q=>q=b) w6 (w6.setRow b #[sv']):=Fr.setRow (R:=λ q=>q=b) (Fr.of (Ext.refl _)) rfl _;have hRb:∀ q,q=b→∃ cur e,w6.heap[q]?=some (.cells cur e (0,0))∧e=tIv:=λ q hq=>by subst hq;exact ⟨_,_,hb6,rfl⟩
  have hoff:∀ {p:Nat→Bool} {vv:Value},RSet TT TT w5 vv p→RSet TT TT (w6.setRow b #[sv']) vv p:=λ hh=>(RSet.ext hh e6).off hfr (λ q hq=>by obtain ⟨cur,e,h1,rfl⟩:=hRb q hq;exact ⟨cur,_,h1,by decide,by decide,by decide,by decide,by decide⟩)
  have hb7:(w6.setRow b #[sv']).heap[b]?=some (.cells #[sv'] tIv (0,0)):=setRow_heap w6 b _ _ _ _ hb6;have hs7:Sets (w6.setRow b #[sv']) w.heap.size sv' (ptrs++[v12]) (i+1) ps :=
   ⟨Own.setRow (hsv5.ext e6) _ (Own.apart (hsv5.ext e6) hb6 dZ),λ j hj=>hoff (hs5 j hj)⟩
  have hp7:=hoff hs9;have hw7:=hoff hw9;have x7:=(x5.trans e6).setRow hbw #[sv'];rw [← hw7'] at hb7 hs7 hp7 hw7 x7;clear hw7' hoff hRb hfr hb6 hsv5 hs5 hs9 hw9 hRs hR;have hor:∀ w',Ext w7 w'→Fc Tryz.prog 71 #[wv,v12] w' (Ret w' (.pred (rsP TT TT (orN ps (i+1))))):=λ w' e=>by
   rw [hon];exact or_s (A:=TT) (B:=TT) (B1:=TT) (B2:=TT) (.inr (hw7.ext e)) (.inr (hp7.ext e)) (hT.ext (x7.trans e)) tt tt
  have hln:∀ w',Ext w7 w'→Fc Tryz.prog 43 #[v12] w' (Ret w' (.val (.int .i64 (c0:Nat)))):=λ w' e=>by
   rw [hc0];exact qfA (B:=TT) (A:=TT) (.inr (hp7.ext e))
  repeat' (first|(refine yL ?_;first|refine a0A rfl ?_|refine yO ?_|(refine yC ?_ ?_<;>intro hc)|(refine yV ?_;first|(refine oC 71 ?_;refine a4A (f:=71) rfl rfl rfl rfl  (.pred (rsP TT TT (orN ps (i+1)))) (by intro u1 u2 w e hu1 hu2;(try obtain rfl:u1=_:=hu1);(try obtain rfl:u2=_:=hu2);exact hor _ e) ?_)|(refine oC 43 ?_;refine a2A (f:=43) rfl rfl rfl  (.val (.int .i64 (c0:Nat))) (by intro u1 w e hu1;(try obtain rfl:u1=_:=hu1);exact hln _ e) ?_))|(refine yN hK ?_;clear hK K))|refine wG ?_|(refine yR ?_;intro K hK)|fail)
  refine f5A 9 rfl (λ v10 w10 e10 h10=>?_);exact a5A (i+1,v10,sv',ptrs++[v12]) (λ w8 e8=>⟨x7.trans (e10.trans e8),hil,(e10.trans e8).block hb7,hs7.ext (e10.trans e8),RSet.ext h10 e8⟩) eZ (by dsimp only;rw [← ha1,hsn];(repeat' (first|exact Sub.nil|(refine Sub.val rfl ?_ ?_;first|with_reducible rfl|(congr 1;omega))|refine Sub.same rfl ?_));done)
 ·obtain rfl:i=k:=oZ
  have hln:∀ w',Ext w1 w'→_:=λ w' e=>qfA (B:=TT) (A:=TT) (.inr (RSet.ext hwv e))
  have hrk:∀ w',Ext w1 w'→_:=λ w' e=>c9B (B:=TT) (A:=TT) (x:=rows) (.inr (RSet.ext hwv e)) oZ
  rw [Nat.min_eq_left oZ] at hrk;have hc1:cnt (orN ps i) TOP≤TOP:=cnt_le _ _;have hc2:cnt (orN ps i) rows≤rows:=cnt_le _ _;obtain ⟨a0,ha0⟩:∃ a,a=(buA (λ i=>erA (ps i)) i).length:=⟨_,rfl⟩;obtain ⟨a1,ha1⟩:∃ a,a=(buA (λ i=>erA (ps i)) m).length:=⟨_,rfl⟩;obtain ⟨s0,hs0⟩:∃ a,a=reA ps i:=⟨_,rfl⟩;obtain ⟨c1,hcc1⟩:∃ a,a=cnt (orN ps i) TOP:=⟨_,rfl⟩;obtain ⟨c2,hcc2⟩:∃ a,a=cnt (orN ps i) rows:=⟨_,rfl⟩;rw [← ha0,← ha1,← hs0,← hcc1,← hcc2] at hd;rw [← hcc1] at hln hc1;rw [← hcc2] at hrk hc2;rw [← ha0,← hs0];rw [← hs0] at hsc;rw [← ha0] at hcl;have hlen:∀ w',SlI .u8 w' v (buA (λ i=>erA (ps i)) m)→SlC w' v a1 1 ((buA (λ i=>erA (ps i)) m).map (Value.int .u8)):=λ w' hh=>by rw [ha1];exact hh
  have hcase:(a0=a1∧s0=rows∧c1=rows∧c2=rows∧d=true)∨((a0≠a1∨(a0=a1∧s0≠rows)∨(a0=a1∧s0=rows∧c1≠rows)∨(a0=a1∧s0=rows∧c1=rows∧c2≠rows))∧d=false):=by
   cases d with
   | true=>obtain ⟨h1,h2,h3,h4⟩:=hd.1 rfl;exact .inl ⟨h1,h2,h3,h4,rfl⟩
   | false =>
     refine .inr ⟨?_,rfl⟩;have:¬ (a0=a1∧s0=rows∧c1=rows∧c2=rows):=λ hh=>by have:=hd.2 hh;cases this
     omega
  clear hcc1 hcc2 hs0 ha0 hd
  rcases hcase with ⟨h1,h2,h3,h4,rfl⟩|⟨h1,rfl⟩
  ·skip
   repeat' (first|(refine yL ?_;first|refine a0A rfl ?_|(refine cpA ?_;refine alA rfl _ rfl rfl (HasC.val (hlen _ (h.ext he))) ?_)|refine yO ?_|(refine yC ?_ ?_<;>intro hc)|(refine yV ?_;first|(refine oC 43 ?_;refine a2A (f:=43) rfl rfl rfl  (.val (.int .i64 c1)) (by intro u1 w e hu1;(try obtain rfl:u1=_:=hu1);exact hln _ e) ?_)|(refine oC 72 ?_;refine a4A (f:=72) rfl rfl rfl rfl  (.val (.int .i64 c2)) (by intro u1 u2 w e hu1 hu2;(try obtain rfl:u1=_:=hu1);(try obtain rfl:u2=_:=hu2);exact hrk _ e) ?_))|(refine yN hK ?_;clear hK K))|refine wG ?_|(refine yR ?_;intro K hK)|fail)
   refine dyA rfl (λ x y w5 e5 hx hy=>⟨_,rfl,he.trans e5,x,y,rfl,?_,hy⟩);obtain rfl:x=_:=hx;exact ⟨b,sv,ptrs,rfl,e5.block hb1,⟨Own.base (hs.ext e5).own (Nat.zero_le _),(hs.ext e5).at_⟩⟩
  ·rcases h1 with h1|⟨h1,h2⟩|⟨h1,h2,h3⟩|⟨h1,h2,h3,h4⟩
   all_goals
    repeat' (first|(refine yL ?_;first|refine a0A rfl ?_|(refine cpA ?_;refine alA rfl _ rfl rfl (HasC.val (hlen _ (h.ext he))) ?_)|refine yO ?_|(refine yC ?_ ?_<;>intro hc)|(refine yV ?_;first|(refine oC 43 ?_;refine a2A (f:=43) rfl rfl rfl  (.val (.int .i64 c1)) (by intro u1 w e hu1;(try obtain rfl:u1=_:=hu1);exact hln _ e) ?_)|(refine oC 72 ?_;refine a4A (f:=72) rfl rfl rfl rfl  (.val (.int .i64 c2)) (by intro u1 u2 w e hu1 hu2;(try obtain rfl:u1=_:=hu1);(try obtain rfl:u2=_:=hu2);exact hrk _ e) ?_))|(refine yN hK ?_;clear hK K))|refine wG ?_|(refine yR ?_;intro K hK)|fail)
    all_goals exact dfA rfl rfl rfl he rfl rfl
theorem ryA (ids:List Int):∀ k,orN (λ i=>idP ids i) k=sumP ids k
 | 0=>rfl
 | k+1=>by
   show two _ (orN (λ i=>idP ids i) k) (idP ids k)=two _ (sumP ids k) (idP ids k)
   rw [ryA ids k]
theorem rdA (ids:List Int):∀ k,reA (λ i=>idP ids i) k=cnt (sumP ids k) TOP
 | 0=>(dfB λ x h=>by have:=((hhA _).1 h).2;omega).symm
 | k+1=>by
   show reA (λ i=>idP ids i) k+cnt (idP ids k) TOP=_
   rw [rdA ids k,bzB]
theorem psA {w w1 wu wv:World} {v v':Value} {a b:List Int} (h:OwnI w.heap.size tB .u8 w1 v a) (x:Ext w w1) (eu:Ext w1 wu) (ho:LA.Own 0 tB 1 wv v' (a.length+b.length) (a.map (Value.int .u8)++b.map (Value.int .u8))) (hfr:Fr (λ k=>v.ownBlock=some k) wu wv) (hlc:LocR wu v v') :
 Ext w wv∧OwnI w.heap.size tB .u8 wv v' (a++b):=by
 have hx:=x.trans eu;refine ⟨Fr.ext hx hfr (λ k hk=>(Own.lt h k hk).1),?_⟩;unfold OwnI;rw [List.map_append,List.length_append];exact Own.rebase ho (hlc.ge (λ k hk=>(Own.lt h k hk).1) hx.size)
theorem k6A (w:World) {n:Int} (h0:0≤n) (hn:n<4611686018427387904):Fc Tryz.prog 45 #[.int .i64 n] w (Ret w (.pred (b4A w.heap.size tB .u8 (leS n 2)))):=by
 have h1:0≤n % 256∧n % 256<256:=oZ;have h2:0≤n / 256 % 256∧n / 256 % 256<256:=oZ;have hl:leS n 2=[n % 256,n / 256 % 256]:=rfl;rw [hl];refine Fc.of (args:=[_]) Tryz.func45 rfl rfl Tryz.ntmps45 nZ ?_
 repeat' (first|(refine yL ?_;first|refine a0A rfl ?_|(refine oD 10 ?_;refine pvA rfl esA rfl rfl rfl rfl ?_)|refine yO ?_|(refine yC ?_ ?_<;>intro hc)|(refine yN hK ?_;clear hK K))|refine wG ?_|(refine yR ?_;intro K hK)|fail)
 exact aiA rfl rfl (Ext.refl _) (λ u w5 e5 hu=>hu)
theorem swA (w:World) {n:Int} (h0:0≤n) (hn:n<4611686018427387904):Fc Tryz.prog 46 #[.int .i64 n] w (Ret w (.pred (b4A w.heap.size tB .u8 (leS n 4)))):=by
 have hj:=p7A (n % 65536) (n / 65536) oZ oZ oZ;rw [show n % 65536+65536*(n / 65536)=n by omega] at hj;rw [← hj];refine Fc.of (args:=[_]) Tryz.func46 rfl rfl Tryz.ntmps46 nZ ?_
 repeat' (first|(refine yL ?_;first|refine a0A rfl ?_|(refine oD 9 ?_;refine a3A (hK _ _ (ayA 5 rfl (λ va wa ea ha=>ayA 8 rfl (λ vb wb eb hb=>?_))));clear hK K;replace ha:OwnI w.heap.size tB .u8 wa va (leS (n % 65536) 2):=ha;replace hb:OwnI w.heap.size tB .u8 wb vb (leS (n / 65536) 2):=hb;refine asA rfl dZ esA rfl (OwnI.ext ha eb) rfl (HasI.ownV hb).c c4A (by unfold maxLen;simp only [anA];omega) (by simp only [anA];omega) (λ v' wu wv eu ho hfr hlc=>?_);refine adA kZ (λ K hK=>?_))|refine yO ?_|(refine yC ?_ ?_<;>intro hc)|(refine yV ?_;first|(refine oD 5 ?_;refine oC 45 ?_;refine a2A (f:=45) rfl rfl rfl  (.pred (b4A w.heap.size tB .u8 (leS (n % 65536) 2))) (by intro u1 w e hu1;(try obtain rfl:u1=_:=hu1);exact (k6A _ oZ oZ).mono (a9A e.size)) ?_)|(refine oD 8 ?_;refine oC 45 ?_;refine a2A (f:=45) rfl rfl rfl  (.pred (b4A w.heap.size tB .u8 (leS (n / 65536) 2))) (by intro u1 w e hu1;(try obtain rfl:u1=_:=hu1);exact (k6A _ oZ oZ).mono (a9A e.size)) ?_))|(refine yN hK ?_;clear hK K))|refine wG ?_|(refine yR ?_;intro K hK)|fail)
 obtain ⟨x3,hn3⟩:=psA (OwnI.ext ha eb) (ea.trans eb) eu ho hfr hlc;exact aiA rfl rfl x3 (λ u w5 e5 hu=>by obtain rfl:u=_:=hu;exact OwnI.ext hn3 e5)
theorem p6A (n:Int):∀ k,leS n (k+1)=leS n k++[n / 256 ^ k % 256]
 | 0=>by simp [leS]
 | k+1=>by
   have ih:=p6A (n / 256) k;show (n % 256)::leS (n / 256) (k+1)=_;rw [ih,Int.ediv_ediv_of_nonneg (by omega:(0:Int)≤256),Int.pow_succ,Int.mul_comm (256 ^ k) 256];rfl
theorem wrapK (x:Int) (k:Nat):IntKind.u8.wrap (x / 2 ^ ((8*k:Nat):Int).toNat)=x / 256 ^ k % 256:=by
 rw [Int.toNat_natCast,Int.pow_mul];rfl
def kdF (q:Nat→Bool) (f:Bool):Int:=if f then 3 else if cnt q 65536≤4096 then 1 else 2
theorem zjA {w:World} {v:Value} {q:Nat→Bool} {base:Nat} (h:MkI base tM w v q) (f:Bool):Fc Tryz.prog 48 #[v,.int .u8 (kdF q f)] w (Ret w (.pred (b4A w.heap.size tB .u8 (d8A q f)))):=by
 cases f with
 | true =>
   have hk:kdF q true=3:=rfl;have hr:∀ w',Ext w w'→_:=λ w' e=>rpA w' v base q (h.ext e)
   have hfew:=ijA q;have hu:=duA q;have hbf:d8A q true=leS (aqA q).length 2++flG mvA (aqA q):=by unfold d8A;rw [if_pos rfl]
   rw [hbf,hk];obtain ⟨rs,hrs⟩:∃ rs,rs=aqA q:=⟨_,rfl⟩;rw [← hrs] at hr hfew hu ⊢;clear hrs hbf hk;refine Fc.of (args:=[_,_]) Tryz.func48 rfl rfl Tryz.ntmps48 nZ ?_
   repeat' (first|(refine yL ?_;first|refine a0A rfl ?_|(refine oD 44 ?_;refine byA rfl _ rfl rfl HasR.own ?_)|(refine oD 46 ?_;refine a3A (hK _ _ (ayA 6 rfl (λ v6 w6 e6 h6=>ayA 45 rfl (λ vb wb eb hb=>?_))));clear hK K;replace hb:OwnI w.heap.size tB .u8 wb vb (leS rs.length 2):=hb;refine asA (v:=nilS) (cs:=[]) (n:=0) rfl dZ esA rfl (base:=w.heap.size) Own.nil rfl (HasI.ownV hb).c c4A (by unfold maxLen;simp only [anA];omega) (by simp only [anA];omega) (λ v' wu wv eu ho hfr hlc=>?_);refine adA kZ (λ K hK=>?_))|refine yO ?_|(refine yC ?_ ?_<;>intro hc)|(refine yV ?_;first|(refine oC 84 ?_;refine a2A (f:=84) rfl rfl rfl  (.pred (ffA w.heap.size tRn rs)) (by intro u1 w e hu1;(try obtain rfl:u1=_:=hu1);exact (hr _ e).mono (baA e.size rfl)) ?_)|(refine oC 45 ?_;refine a2A (f:=45) rfl rfl rfl  (.pred (b4A w.heap.size tB .u8 (leS rs.length 2))) (by intro u1 w e hu1;(try obtain rfl:u1=_:=hu1);exact (k6A _ oZ oZ).mono (a9A e.size)) ?_))|(refine yN hK ?_;clear hK K))|refine wG ?_|(refine yR ?_;intro K hK)|fail)
   obtain ⟨x3,hn3⟩:=psA (a:=[]) (b:=leS rs.length 2) OwnI.nil (e6.trans eb) eu ho hfr hlc;rw [List.nil_append] at hn3;replace h6:OwnR w.heap.size tRn w6 v6 rs:=h6;have h6v:OwnR w.heap.size tRn wv v6 rs:=cnA (OwnR.ext h6 (eb.trans eu)) hfr (λ k hk=>by cases hk)
   refine acA (ι:=Nat × Value) (λ j=>[(5,.val j.2),(6,.val v6),(7,.val (.int .i64 j.1))])
    (λ j w'=>Ext w w'∧OwnR w.heap.size tRn w' v6 rs∧j.1≤rs.length∧OwnI w.heap.size tB .u8 w' j.2 (leS rs.length 2++flG mvA (rs.take j.1))) (λ j=>rs.length-j.1)
    (λ w4 e4=>⟨(0,v'),⟨x3.trans e4,OwnR.ext h6v e4,Nat.zero_le _,by rw [List.take_zero];show OwnI _ _ _ _ _ (_++[]);rw [List.append_nil];exact OwnI.ext hn3 e4⟩,sZ⟩) ?_
   rintro ⟨i,v4⟩ w4 ⟨he,hR,hi,h4⟩;dsimp only at hi h4 ⊢
   by_cases hil:i<rs.length
   ·have hl4:(leS rs.length 2++flG mvA (rs.take i)).length≤200000:=by rw [List.length_append,anA,deA _ hiA,List.length_take];omega
    obtain ⟨g1,g2,g3,g4⟩:=hu _ (show rs.getD i (0,0) ∈ rs by rw [List.getD_eq_getElem?_getD,List.getElem?_eq_getElem hil];exact List.getElem_mem hil);have htk:=fxA mvA (0,0) hil;obtain ⟨⟨fx,mx⟩,hfm⟩:∃ r,r=rs.getD i (0,0):=⟨_,rfl⟩;rw [← hfm] at g1 g2 g3 g4 htk;have hf1:fst rs i=fx:=by show (rs.getD i (0,0)).1=fx;rw [← hfm]
    have hm1:mor rs i=mx:=by show (rs.getD i (0,0)).2=mx;rw [← hfm]
    dsimp only at g1 g2 g3 g4;obtain ⟨ys,hys⟩:∃ ys,ys=leS rs.length 2++flG mvA (rs.take i):=⟨_,rfl⟩;rw [← hys] at h4 hl4
    repeat' (first|(refine yL ?_;first|refine a0A rfl ?_|(refine oD 49 ?_;refine byA rfl _ rfl rfl (HasR.ownV hR) ?_)|(refine oD 56 ?_;refine bbA rfl _ rfl (λ _=>rfl) rfl (HasR.ownV hR) rfl hil ?_;rw [hf1,hm1])|(refine oD 65 ?_;refine bbA rfl _ rfl (λ _=>rfl) rfl (HasR.ownV hR1) rfl hil ?_;rw [hf1,hm1])|(refine oF 0 ?_;refine ajA (f:=0) (o:=0) rfl rfl (λ _ _=>rfl) ?_)|(refine oF 1 ?_;refine ajA (f:=1) (o:=1) rfl rfl (λ _ _=>rfl) ?_)|(refine oL ?_;refine bsA rfl (λ _=>rfl) rfl rfl ?_)|(refine oD 61 ?_;refine a3A (hK _ _ (ayA 60 rfl (λ vb1 wb1 eb1 hb1=>?_)));clear hK K;replace hb1:OwnI w.heap.size tB .u8 wb1 vb1 (leS fx 2):=hb1;refine asA rfl dZ esA rfl (OwnI.ext h4 eb1) rfl (HasI.ownV hb1).c c4A (by unfold maxLen;simp only [List.length_append,anA];omega) (by simp only [List.length_append,anA];omega) (λ v1 wu1 wv1 eu1 ho1 hfr1 hlc1=>?_);obtain ⟨x1,hn1⟩:=psA (OwnI.ext h4 eb1) (he.trans eb1) eu1 ho1 hfr1 hlc1;have hR1:OwnR w.heap.size tRn wv1 v6 rs:=cnA (OwnR.ext hR (eb1.trans eu1)) hfr1 (λ k hk=>by obtain ⟨cur,hc⟩:=awA (OwnI.ext h4 (eb1.trans eu1)) hk;exact ⟨cur,_,_,hc,by decide⟩);refine adA kZ (λ K hK=>?_))|(refine oD 70 ?_;refine a3A (hK _ _ (ayA 69 rfl (λ vb2 wb2 eb2 hb2=>?_)));clear hK K;replace hb2:OwnI w.heap.size tB .u8 wb2 vb2 (leS mx 2):=hb2;refine asA rfl dZ esA rfl (OwnI.ext hn1 eb2) rfl (HasI.ownV hb2).c c4A (by unfold maxLen;simp only [List.length_append,anA];omega) (by simp only [List.length_append,anA];omega) (λ v2 wu2 wv2 eu2 ho2 hfr2 hlc2=>?_);obtain ⟨x2,hn2⟩:=psA (OwnI.ext hn1 eb2) (x1.trans eb2) eu2 ho2 hfr2 hlc2;have hR2:OwnR w.heap.size tRn wv2 v6 rs:=cnA (OwnR.ext hR1 (eb2.trans eu2)) hfr2 (λ k hk=>by obtain ⟨cur,hc⟩:=awA (OwnI.ext hn1 (eb2.trans eu2)) hk;exact ⟨cur,_,_,hc,by decide⟩);refine adA kZ (λ K hK=>?_))|refine yO ?_|(refine yC ?_ ?_<;>intro hc)|(refine yV ?_;first|(refine oD 60 ?_;refine oC 45 ?_;refine a2A (f:=45) rfl rfl rfl  (.pred (b4A w.heap.size tB .u8 (leS fx 2))) (by intro u1 w e hu1;(try obtain rfl:u1=_:=hu1);exact (k6A _ oZ oZ).mono (a9A (he.trans e).size)) ?_)|(refine oD 69 ?_;refine oC 45 ?_;refine a2A (f:=45) rfl rfl rfl  (.pred (b4A w.heap.size tB .u8 (leS mx 2))) (by intro u1 w e hu1;(try obtain rfl:u1=_:=hu1);exact (k6A _ oZ oZ).mono (a9A (x1.trans e).size)) ?_))|(refine yN hK ?_;clear hK K))|refine wG ?_|(refine yR ?_;intro K hK)|fail)
    exact a5A (i+1,v2) (λ w6 e6=>⟨x2.trans e6,OwnR.ext hR2 e6,hil,by rw [htk,← List.append_assoc,← hys];unfold mvA;rw [← List.append_assoc];exact OwnI.ext hn2 e6⟩) eZ sZ
   ·obtain rfl:i=rs.length:=oZ
    rw [List.take_length] at h4
    repeat' (first|(refine yL ?_;first|refine a0A rfl ?_|(refine oD 49 ?_;refine byA rfl _ rfl rfl (HasR.ownV hR) ?_)|refine yO ?_|(refine yC ?_ ?_<;>intro hc)|(refine yN hK ?_;clear hK K))|refine wG ?_|(refine yR ?_;intro K hK)|fail)
    exact aiA rfl rfl he (λ u w5 e5 hu=>by obtain rfl:u=_:=hu;exact OwnI.ext h4 e5)
 | false =>
   by_cases h4096:cnt q 65536≤4096
   ·have hk:kdF q false=1:=by unfold kdF;rw [if_neg dZ,if_pos h4096]
    have hr:∀ w',Ext w w'→_:=λ w' e=>ngA w' v base q (h.ext e)
    have hbf:d8A q false=flG (λ x=>leS x 2) (ahA q 65536):=by unfold d8A;rw [if_neg dZ,if_pos h4096]
    have hln:(ahA q 65536).length≤4096:=by rw [b1A];exact h4096
    have hu:∀ x ∈ ahA q 65536,0≤x∧x<65536:=λ x hx=>by
     obtain ⟨i,g1,-,g3⟩:=(c8A _ _ _).1 hx;omega
    rw [hbf,hk];obtain ⟨rs,hrs⟩:∃ rs,rs=ahA q 65536:=⟨_,rfl⟩;rw [← hrs] at hr hln hu ⊢;clear hrs hbf hk h4096;refine Fc.of (args:=[_,_]) Tryz.func48 rfl rfl Tryz.ntmps48 nZ ?_
    repeat' (first|(refine yL ?_;first|refine a0A rfl ?_|refine yO ?_|(refine yC ?_ ?_<;>intro hc)|(refine yV ?_;first|(refine oC 47 ?_;refine a2A (f:=47) rfl rfl rfl  (.pred (b4A w.heap.size tK .u16 rs)) (by intro u1 w e hu1;(try obtain rfl:u1=_:=hu1);exact (hr _ e).mono (a9A e.size)) ?_))|(refine yN hK ?_;clear hK K))|refine wG ?_|(refine yR ?_;intro K hK)|fail)
    refine c2A 8 rfl (λ v6 w6 e6 h6=>?_);replace h6:OwnI w.heap.size tK .u16 w6 v6 rs:=h6
    refine acA (ι:=Nat × Value) (λ j=>[(5,.val j.2),(8,.val v6),(9,.val (.int .i64 j.1))])
     (λ j w'=>Ext w w'∧OwnI w.heap.size tK .u16 w' v6 rs∧j.1≤rs.length∧OwnI w.heap.size tB .u8 w' j.2 (flG (λ x=>leS x 2) (rs.take j.1))) (λ j=>rs.length-j.1)
     (λ w4 e4=>⟨(0,nilS),⟨e6.trans e4,OwnI.ext h6 e4,Nat.zero_le _,by rw [List.take_zero];exact OwnI.nil⟩,sZ⟩) ?_
    rintro ⟨i,v4⟩ w4 ⟨he,hR,hi,h4⟩;dsimp only at hi h4 ⊢
    by_cases hil:i<rs.length
    ·have hl4:(flG (λ x=>leS x 2) (rs.take i)).length≤200000:=by rw [deA _ (λ x=>anA x 2),List.length_take];omega
     obtain ⟨g1,g2⟩:=hu _ (show rs.getD i 0 ∈ rs by rw [List.getD_eq_getElem?_getD,List.getElem?_eq_getElem hil];exact List.getElem_mem hil);have htk:=fxA (λ x=>leS x 2) (0:Int) hil;obtain ⟨fx,hfm⟩:∃ r,r=rs.getD i 0:=⟨_,rfl⟩;rw [← hfm] at g1 g2 htk;obtain ⟨ys,hys⟩:∃ ys,ys=flG (λ x=>leS x 2) (rs.take i):=⟨_,rfl⟩;rw [← hys] at h4 hl4 htk
     repeat' (first|(refine yL ?_;first|refine a0A rfl ?_|(refine cpA ?_;refine alA rfl _ rfl rfl (HasI.ownV hR).c ?_)|(refine oD 84 ?_;refine abA rfl _ rfl (λ _=>rfl) rfl (HasI.ownV hR) rfl hil ?_;rw [← hfm])|(refine oD 88 ?_;refine a3A (hK _ _ (ayA 87 rfl (λ vb1 wb1 eb1 hb1=>?_)));clear hK K;replace hb1:OwnI w.heap.size tB .u8 wb1 vb1 (leS fx 2):=hb1;refine asA rfl dZ esA rfl (OwnI.ext h4 eb1) rfl (HasI.ownV hb1).c c4A (by unfold maxLen;simp only [List.length_append,anA];omega) (by simp only [List.length_append,anA];omega) (λ v1 wu1 wv1 eu1 ho1 hfr1 hlc1=>?_);obtain ⟨x1,hn1⟩:=psA (OwnI.ext h4 eb1) (he.trans eb1) eu1 ho1 hfr1 hlc1;have hR1:OwnI w.heap.size tK .u16 wv1 v6 rs:=cnA (OwnI.ext hR (eb1.trans eu1)) hfr1 (λ k hk=>by obtain ⟨cur,hc⟩:=awA (OwnI.ext h4 (eb1.trans eu1)) hk;exact ⟨cur,_,_,hc,by decide⟩);refine adA kZ (λ K hK=>?_))|refine yO ?_|(refine yC ?_ ?_<;>intro hc)|(refine yV ?_;first|(refine oD 87 ?_;refine oC 45 ?_;refine a2A (f:=45) rfl rfl rfl  (.pred (b4A w.heap.size tB .u8 (leS fx 2))) (by intro u1 w e hu1;(try obtain rfl:u1=_:=hu1);exact (k6A _ oZ oZ).mono (a9A (he.trans e).size)) ?_))|(refine yN hK ?_;clear hK K))|refine wG ?_|(refine yR ?_;intro K hK)|fail)
     exact a5A (i+1,v1) (λ w6 e6=>⟨x1.trans e6,OwnI.ext hR1 e6,hil,by dsimp only;rw [htk];exact OwnI.ext hn1 e6⟩) eZ sZ
    ·obtain rfl:i=rs.length:=oZ
     rw [List.take_length] at h4
     repeat' (first|(refine yL ?_;first|refine a0A rfl ?_|(refine cpA ?_;refine alA rfl _ rfl rfl (HasI.ownV hR).c ?_)|refine yO ?_|(refine yC ?_ ?_<;>intro hc)|(refine yN hK ?_;clear hK K))|refine wG ?_|(refine yR ?_;intro K hK)|fail)
     exact aiA rfl rfl he (λ u w5 e5 hu=>by obtain rfl:u=_:=hu;exact OwnI.ext h4 e5)
   ·have hk:kdF q false=2:=by unfold kdF;rw [if_neg dZ,if_neg h4096]
    have hr:∀ w',Ext w w'→_:=λ w' e=>uzA w' v base q (h.ext e)
    have hbf:d8A q false=flG (λ x=>leS x 8) (wordsOf q):=by unfold d8A;rw [if_neg dZ,if_neg h4096]
    have hln:(wordsOf q).length=1024:=azA q;have hu:∀ x ∈ wordsOf q,0≤x∧x<18446744073709551616:=λ x hx=>bzA q x hx
    rw [hbf,hk];obtain ⟨rs,hrs⟩:∃ rs,rs=wordsOf q:=⟨_,rfl⟩;rw [← hrs] at hr hln hu ⊢;clear hrs hbf hk h4096;refine Fc.of (args:=[_,_]) Tryz.func48 rfl rfl Tryz.ntmps48 nZ ?_
    repeat' (first|(refine yL ?_;first|refine a0A rfl ?_|refine yO ?_|(refine yC ?_ ?_<;>intro hc)|(refine yV ?_;first|(refine oC 85 ?_;refine a2A (f:=85) rfl rfl rfl  (.pred (b4A w.heap.size 61 .u64 rs)) (by intro u1 w e hu1;(try obtain rfl:u1=_:=hu1);exact (hr _ e).mono (a9A e.size)) ?_))|(refine yN hK ?_;clear hK K))|refine wG ?_|(refine yR ?_;intro K hK)|fail)
    refine c2A 10 rfl (λ v6 w6 e6 h6=>?_);replace h6:OwnI w.heap.size 61 .u64 w6 v6 rs:=h6
    refine acA (ι:=Nat × Value) (λ j=>[(5,.val j.2),(10,.val v6),(11,.val (.int .i64 j.1))])
     (λ j w'=>Ext w w'∧OwnI w.heap.size 61 .u64 w' v6 rs∧j.1≤rs.length∧OwnI w.heap.size tB .u8 w' j.2 (flG (λ x=>leS x 8) (rs.take j.1))) (λ j=>rs.length-j.1)
     (λ w4 e4=>⟨(0,nilS),⟨e6.trans e4,OwnI.ext h6 e4,Nat.zero_le _,by rw [List.take_zero];exact OwnI.nil⟩,sZ⟩) ?_
    rintro ⟨i,v4⟩ w4 ⟨he,hR,hi,h4⟩;dsimp only at hi h4 ⊢
    by_cases hil:i<rs.length
    ·have hl4:(flG (λ x=>leS x 8) (rs.take i)).length≤20000:=by rw [deA _ (λ x=>anA x 8),List.length_take];omega
     obtain ⟨g1,g2⟩:=hu _ (show rs.getD i 0 ∈ rs by rw [List.getD_eq_getElem?_getD,List.getElem?_eq_getElem hil];exact List.getElem_mem hil);have htk:=fxA (λ x=>leS x 8) (0:Int) hil;obtain ⟨fx,hfm⟩:∃ r,r=rs.getD i 0:=⟨_,rfl⟩;rw [← hfm] at g1 g2 htk;obtain ⟨ys,hys⟩:∃ ys,ys=flG (λ x=>leS x 8) (rs.take i):=⟨_,rfl⟩;rw [← hys] at h4 hl4 htk
     repeat' (first|(refine yL ?_;first|refine a0A rfl ?_|(refine cpA ?_;refine alA rfl _ rfl rfl (HasI.ownV hR).c ?_)|refine yO ?_|(refine yC ?_ ?_<;>intro hc)|(refine yN hK ?_;clear hK K))|refine wG ?_|(refine yR ?_;intro K hK)|fail)
     refine acA (ι:=Nat × Value) (λ j=>[(5,.val j.2),(10,.val v6),(11,.val (.int .i64 i)),(12,.val (.int .i64 j.1))])
      (λ j w'=>Ext w w'∧OwnI w.heap.size 61 .u64 w' v6 rs∧j.1≤8∧OwnI w.heap.size tB .u8 w' j.2 (ys++leS fx j.1)) (λ j=>8-j.1)
      (λ w5 e5=>⟨(0,v4),⟨he.trans e5,OwnI.ext hR e5,Nat.zero_le _,by show OwnI _ _ _ _ _ (_++[]);rw [List.append_nil];exact OwnI.ext h4 e5⟩,sZ⟩) ?_
     clear he hR h4 w4;rintro ⟨k,v4⟩ w4 ⟨he,hR,hk8,h4⟩;dsimp only at hk8 h4 ⊢
     by_cases hk:k<8
     ·have hsn:=p6A fx k
      have hll:=anA fx k;have hwr:=wrapK fx k;obtain ⟨zs,hzs⟩:∃ zs,zs=ys++leS fx k:=⟨_,rfl⟩;have hzl:zs.length≤30000:=by rw [hzs,List.length_append];omega
      have hzn:ys++leS fx (k+1)=zs++[fx / 256 ^ k % 256]:=by rw [hsn,hzs,List.append_assoc]
      rw [← hzs] at h4;obtain ⟨y,hy⟩:∃ y,y=fx / 256 ^ k % 256:=⟨_,rfl⟩;rw [← hy] at hwr hzn
      repeat' (first|(refine yL ?_;first|refine a0A rfl ?_|(refine oD 29 ?_;refine abA rfl _ rfl (λ _=>rfl) rfl (HasI.ownV hR) rfl hil ?_;rw [← hfm])|(refine oD 32 ?_;refine f6A rfl rfl rfl fZ ?_;rw [show (8:Int)*(k:Int)=((8*k:Nat):Int) by omega])|(refine oD 34 ?_;refine igA rfl rfl rfl ?_)|(refine oD 35 ?_;refine elA rfl rfl rfl rfl ?_;rw [hwr])|(refine oD 36 ?_;refine g8A rfl esA rfl rfl ?_)|(refine oD 37 ?_;refine a3A (hK _ _ (asA rfl dZ esA rfl h4 rfl HasC.pred (λ u hu=>by rw [List.mem_singleton] at hu;subst hu;rfl) (by unfold maxLen;omega) oZ (λ v1 wu1 wv1 eu1 ho1 hfr1 hlc1=>?_)));clear hK K;obtain ⟨x1,hn1⟩:=psA (b:=[y]) h4 he eu1 ho1 hfr1 hlc1;have hR1:OwnI w.heap.size 61 .u64 wv1 v6 rs:=cnA (OwnI.ext hR eu1) hfr1 (λ k hk=>by obtain ⟨cur,hc⟩:=awA (OwnI.ext h4 eu1) hk;exact ⟨cur,_,_,hc,by decide⟩);refine adA kZ (λ K hK=>?_))|refine yO ?_|(refine yC ?_ ?_<;>intro hc)|(refine yN hK ?_;clear hK K))|refine wG ?_|(refine yR ?_;intro K hK)|fail)
      exact a5A (k+1,v1) (λ w6 e6=>⟨x1.trans e6,OwnI.ext hR1 e6,hk,by dsimp only;rw [hzn];exact OwnI.ext hn1 e6⟩) eZ sZ
     ·obtain rfl:k=8:=oZ
      rw [← htk] at h4
      repeat' (first|(refine yL ?_;first|refine a0A rfl ?_|refine yO ?_|(refine yC ?_ ?_<;>intro hc)|(refine yN hK ?_;clear hK K))|refine wG ?_|(refine yR ?_;intro K hK)|fail)
      exact a5A (i+1,v4) (λ w6 e6=>⟨he.trans e6,OwnI.ext hR e6,hil,OwnI.ext h4 e6⟩) eZ sZ
    ·obtain rfl:i=rs.length:=oZ
     rw [List.take_length] at h4
     repeat' (first|(refine yL ?_;first|refine a0A rfl ?_|(refine cpA ?_;refine alA rfl _ rfl rfl (HasI.ownV hR).c ?_)|refine yO ?_|(refine yC ?_ ?_<;>intro hc)|(refine yN hK ?_;clear hK K))|refine wG ?_|(refine yR ?_;intro K hK)|fail)
     exact aiA rfl rfl he (λ u w5 e5 hu=>by obtain rfl:u=_:=hu;exact OwnI.ext h4 e5)
end Go.Proofs.YtbokphkfojijoaaGreatDoor.Pt
end
