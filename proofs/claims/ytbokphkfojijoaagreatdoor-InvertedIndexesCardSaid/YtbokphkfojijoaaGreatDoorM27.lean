import Derived.Test.YtbokphkfojijoaaGreatDoorM26
set_option linter.unusedSimpArgs false
set_option linter.unusedVariables false
set_option maxRecDepth 3000
set_option maxHeartbeats 16000000
section
namespace Go.Proofs.YtbokphkfojijoaaGreatDoor.Pt
open Go.LA Go.ArrP Go.RowKit
abbrev tBs:Nat:=35
theorem d9B:El Tryz.prog 79 35 (.slice none 0 0) 1 24:=⟨rfl,rfl,rfl,by decide⟩
def jsA (f:Nat→Bool) (n:Nat):List Value:=(List.range n).map (λ i=>Value.bool (f i))
theorem tmA {f:Nat→Bool} {n i:Nat} (h:i<n):(jsA f n).getD i undef=.bool (f i):=by
 simp [jsA,List.getD_eq_getElem?_getD,List.getElem?_range h]
theorem tlA (f:Nat→Bool) (n:Nat):(jsA f n).length=n:=by simp [jsA]
structure BRow (base:Nat) (w:World) (vbs:Value) (bs:List Value) (n:Nat) (p f:Nat→Bool) (vo:Value):Prop where
 own:LA.Own base tBs 1 w vbs n bs
 at_:∀ j,j<n→OwnI base tB .u8 w (bs.getD j undef) (dgA p f j)
 ap:∀ j,j<n→∀ k,(bs.getD j undef).ownBlock=some k→vo.ownBlock≠some k
theorem BRow.ext {base n:Nat} {w w':World} {vbs vo:Value} {bs:List Value} {p f:Nat→Bool} (h:BRow base w vbs bs n p f vo) (e:Ext w w'):BRow base w' vbs bs n p f vo:=⟨h.own.ext e,λ j hj=>(h.at_ j hj).ext e,h.ap⟩
theorem BRow.nil {base:Nat} {w:World} {p f:Nat→Bool} {vo:Value}:BRow base w nilS [] 0 p f vo:=⟨Own.nil,λ j hj=>absurd hj (Nat.not_lt_zero _),λ j hj=>absurd hj (Nat.not_lt_zero _)⟩
theorem BRow.grow {base n:Nat} {w w':World} {vbs vo v':Value} {bs:List Value} {p f:Nat→Bool} {a:List Int} (h:BRow base w vbs bs n p f vo) (ha:OwnI base tB .u8 w vo a) (hfr:Fr (λ k=>vo.ownBlock=some k) w w') (hlc:LocR w vo v'):BRow base w' vbs bs n p f v':=by
 refine ⟨cnA h.own hfr (λ k hk=>?_),λ j hj=>hfr.own (h.at_ j hj) (λ k hk=>h.ap j hj k hk),λ j hj k hk=>?_⟩
 ·obtain ⟨cur,hc⟩:=awA ha hk
  exact ⟨cur,_,_,hc,by decide⟩
 ·rcases hlc with e|e
  ·rw [e];exact h.ap j hj k hk
  ·intro hv
   have h1:=e k hv;have h2:=(Own.lt (h.at_ j hj) k hk).2;omega
theorem BRow.push {base n:Nat} {w w':World} {vbs vo v' u:Value} {bs:List Value} {p f:Nat→Bool} (h:BRow base w vbs bs n p f vo) (hu:OwnI base tB .u8 w u (dgA p f n)) (hap:∀ k,u.ownBlock=some k→vo.ownBlock≠some k) (ho:LA.Own 0 tBs 1 w' v' (n+1) (bs++[u])) (hfr:Fr (λ k=>vbs.ownBlock=some k) w w') (hlc:LocR w vbs v') (hb:base≤w.heap.size):BRow base w' v' (bs++[u]) (n+1) p f vo:=by
 have hoff:∀ {x:Value} {xs:List Int},OwnI base tB .u8 w x xs→OwnI base tB .u8 w' x xs:=λ hx=>cnA hx hfr (λ k hk=>by
  obtain ⟨cur,hc⟩:=awA h.own hk;exact ⟨cur,_,_,hc,by decide⟩)
 refine ⟨Own.rebase ho (hlc.ge (λ k hk=>(Own.lt h.own k hk).1) hb),λ j hj=>?_,λ j hj k hk=>?_⟩
 ·rw [giA h.own.lenV]
  by_cases e:j<n
  ·rw [if_pos e];exact hoff (h.at_ j e)
  ·obtain rfl:j=n:=oZ
   rw [if_neg e,if_pos rfl];exact hoff hu
 ·rw [giA h.own.lenV] at hk
  by_cases e:j<n
  ·rw [if_pos e] at hk;exact h.ap j e k hk
  ·obtain rfl:j=n:=oZ
   rw [if_neg e,if_pos rfl] at hk;exact hap k hk
theorem BRow.keep {base n:Nat} {w w':World} {vbs vo:Value} {bs:List Value} {p f:Nat→Bool} {a:List Int} (h:BRow base w vbs bs n p f vo) (ha:OwnI base tB .u8 w vo a) (hfr:Fr (λ k=>vbs.ownBlock=some k) w w'):OwnI base tB .u8 w' vo a:=cnA ha hfr (λ k hk=>by
 obtain ⟨cur,hc⟩:=awA h.own hk;exact ⟨cur,_,_,hc,by decide⟩)
theorem shl8 {i:Nat} (hi:i<8):IntKind.u8.wrap (1*2 ^ ((i:Nat):Int).toNat)=((2 ^ i:Nat):Int):=by
 have h1:2 ^ i≤2 ^ 7:=Nat.pow_le_pow_right dZ oZ;have h2:((1:Int)*2 ^ ((i:Nat):Int).toNat)=((2 ^ i:Nat):Int):=by rw [Int.toNat_natCast,Int.one_mul];norm_cast
 have h3:fits .u8 ((2 ^ i:Nat):Int):=by
  obtain ⟨P,hP⟩:∃ P,P=2 ^ i:=⟨_,rfl⟩;rw [← hP] at h1 ⊢;dsimp only [fits];omega
 rw [h2];exact dhA .u8 _ h3
theorem n4A {base e:Nat} {k:IntKind} {xs:List Int} (u:Value) (w:World) (h:(b4A base e k xs).p u w):u.cells=#[u]∧u.oneCell'=true:=⟨OwnI.cells (h:OwnI base e k w u xs),OwnI.one (h:OwnI base e k w u xs)⟩
theorem aeB {w:World} {v0 v1 v2:Value} {p f:Nat→Bool} {ms:List Value} (h0:SlI .u16 w v0 (b2A p)) (h1:SlC w v1 (nk p) 1 ms) (hms:∀ i,i<nk p→∃ base,MkI base tM w (ms.getD i undef) (blk p (kp p i))) (h2:SlC w v2 (nk p) 1 (jsA f (nk p))) (hn8:nk p≤8) :
 Fc Tryz.prog 14 #[v0,v1,v2] w (Ret w (.pred (b4A w.heap.size tB .u8 (mwA p f)))):=by
 have hml:ms.length=nk p:=by have:=h1.1;omega
 have hbl:=tlA f (nk p);have hkl:=bqA p;have hhl:=imA (f:=f) hn8;have hck:=ipA (f:=f) hn8 h8A;have hpos:e9A f (nk p)=true→0<nk p:=h8A;have hD:∀ i,i<nk p→(kp p i<65536∧(b2A p).getD i 0=(kp p i:Int))∧0<cnt (blk p (kp p i)) 65536∧cnt (blk p (kp p i)) 65536≤65536:=λ i hi=>by
  obtain ⟨k1,k2,k3,k4⟩:=hvA hi;exact ⟨⟨k1,k4⟩,ne_cnt.1 k2,cnt_le _ _⟩
 have hbg:∀ i,i<nk p→(jsA f (nk p)).getD i undef=.bool (f i):=λ i hi=>tmA hi
 have hcook0:e9A f (nk p)=false→csA (nk p) f=leS 12346 4++leS (nk p) 4:=λ ha=>by unfold csA;rw [ha,if_neg dZ]
 have hcook1:e9A f (nk p)=true→csA (nk p) f=(leS 12347 2++leS (nk p-1:Nat) 2)++[(fB f (nk p):Int)]:=λ ha=>by unfold csA;rw [ha,if_pos rfl,List.append_assoc]
 rw [ctA _ (λ i _=>fyA p i)] at hhl;have himg:mwA p f=((csA (nk p) f++buA (exA p) (nk p))++dwA p f)++buA (dgA p f) (nk p):=by unfold mwA;simp only [List.append_assoc]
 have hoff1:(e9A f (nk p)=true∧nk p<4)→dwA p f=[]:=λ h=>by unfold dwA;rw [if_pos h]
 have hoff2:¬ (e9A f (nk p)=true∧nk p<4)→dwA p f=buA (h2A p f) (nk p)∧(dwA p f).length=4*nk p:=λ h=>by
  have e:dwA p f=buA (h2A p f) (nk p):=by unfold dwA;rw [if_neg h]
  exact ⟨e,by rw [e,ctA _ (λ i _=>ftA p f i)];omega⟩
 rw [himg];clear himg;obtain ⟨ks,hks⟩:∃ ks,ks=b2A p:=⟨_,rfl⟩;rw [← hks] at h0 hkl hD;obtain ⟨bl,hbl'⟩:∃ bl,bl=jsA f (nk p):=⟨_,rfl⟩;rw [← hbl'] at h2 hbl hbg;clear hks hbl';obtain ⟨n,hnn⟩:∃ n,n=nk p:=⟨_,rfl⟩;obtain ⟨H,hH⟩:∃ m,m=dxA n (e9A f n):=⟨_,rfl⟩;rw [← hnn] at h1 hms h2 hn8 hml hbl hkl hhl hck hpos hD hbg hcook0 hcook1 hoff1 hoff2 ⊢;rw [← hH] at hhl;have hHle:H≤1000:=by
  rw [hH];unfold dxA;split
  ·split <;> omega
  ·omega
 have hl0:=h0.len;refine Fc.of (args:=[_,_,_]) Tryz.func14 rfl rfl Tryz.ntmps14 nZ ?_
 repeat' (first|(refine yL ?_;first|refine a0A rfl ?_|(refine cpA ?_;refine alA rfl _ rfl rfl (HasI.val h0).c ?_;rw [hkl])|refine yO ?_|(refine yC ?_ ?_<;>intro hc)|(refine yN hK ?_;clear hK K))|refine wG ?_|(refine yR ?_;intro K hK)|fail)
 refine acA (ι:=Nat) (λ i=>[(0,.val v0),(1,.val v1),(2,.val v2),(7,.val (.int .i64 n)),(8,.val (.bool (e9A f i))),(9,.val (.int .i64 i))]) (λ i w'=>i≤n∧Ext w w') (λ i=>n-i) (λ w5 e5=>⟨0,⟨Nat.zero_le _,e5⟩,sZ⟩) ?_
 rintro i w1 ⟨hi,he⟩
 by_cases hil:i<n
 ·have hbi:=hbg i hil
  have hnx:e9A f (i+1)=(e9A f i || f i):=rfl;obtain ⟨A,hA⟩:∃ A,A=e9A f i:=⟨_,rfl⟩;rw [← hA] at hnx ⊢;cases A with
  | true =>
    repeat' (first|(refine yL ?_;first|refine a0A rfl ?_|refine yO ?_|(refine yC ?_ ?_<;>intro hc)|(refine yN hK ?_;clear hK K))|refine wG ?_|(refine yR ?_;intro K hK)|fail)
    exact a5A (i+1) (λ w5 e5=>⟨hil,he.trans e5⟩) oZ (by rw [hnx,Bool.true_or];(repeat' (first|exact Sub.nil|(refine Sub.val rfl ?_ ?_;first|with_reducible rfl|(congr 1;omega))|refine Sub.same rfl ?_));done)
  | false =>
    repeat' (first|(refine yL ?_;first|refine a0A rfl ?_|(refine oD 32 ?_;refine d4A rfl _ rfl (λ _=>rfl) rfl (HasC.val (h2.ext he)) rfl i rfl hil hbl ?_;rw [hbi])|refine yO ?_|(refine yC ?_ ?_<;>intro hc)|(refine yN hK ?_;clear hK K))|refine wG ?_|(refine yR ?_;intro K hK)|fail)
    exact a5A (i+1) (λ w5 e5=>⟨hil,he.trans e5⟩) oZ (by rw [hnx,Bool.false_or];(repeat' (first|exact Sub.nil|(refine Sub.val rfl ?_ ?_;first|with_reducible rfl|(congr 1;omega))|refine Sub.same rfl ?_));done)
 obtain rfl:i=n:=oZ;clear hil hi;obtain ⟨S,hS⟩:∃ S,S=e9A f i:=⟨_,rfl⟩;rw [← hS] at hck hpos hcook0 hcook1 hoff1 hoff2 ⊢
 repeat' (first|(refine yL ?_;first|refine a0A rfl ?_|refine yO ?_|(refine yC ?_ ?_<;>intro hc)|(refine yN hK ?_;clear hK K))|(refine oCX ?_;first|refine cdA (id:=8) (ι:=Value) (λ vb=>[(0,.val v0),(1,.val v1),(2,.val v2),(7,.val (.int .i64 i)),(8,.val (.bool S)),(10,.val vb)]) (λ vb w'=>Ext w w'∧OwnI w.heap.size tB .u8 w' vb (csA i f)) ?_ ?_)|refine wG ?_|(refine yR ?_;intro K hK)|fail)
 ·cases S with
  | false =>
    rw [hcook0 rfl]
    repeat' (first|(refine yL ?_;first|refine a0A rfl ?_|(refine oD 74 ?_;refine a3A (hK _ _ (ayA 71 rfl (λ va wa ea ha=>ayA 73 rfl (λ vb wb eb hb=>?_))));clear hK K;replace ha:OwnI w.heap.size tB .u8 wa va (leS 12346 4):=ha;replace hb:OwnI w.heap.size tB .u8 wb vb (leS i 4):=hb;refine asA rfl nZ esA rfl (OwnI.ext ha eb) rfl (HasI.ownV hb).c c4A (by unfold maxLen;simp only [anA];omega) (by simp only [anA];omega) (λ v' wu wv eu ho hfr hlc=>?_);refine adA kZ (λ K hK=>?_))|refine yO ?_|(refine yC ?_ ?_<;>intro hc)|(refine yV ?_;first|(refine oD 71 ?_;refine oC 46 ?_;refine a2A (f:=46) rfl rfl rfl  (.pred (b4A w.heap.size tB .u8 (leS 12346 4))) (by intro u1 w e hu1;(try obtain rfl:u1=_:=hu1);exact (swA _ oZ oZ).mono (a9A (he.trans e).size)) ?_)|(refine oD 73 ?_;refine oC 46 ?_;refine a2A (f:=46) rfl rfl rfl  (.pred (b4A w.heap.size tB .u8 (leS i 4))) (by intro u1 w e hu1;(try obtain rfl:u1=_:=hu1);exact (swA _ oZ oZ).mono (a9A (he.trans e).size)) ?_))|(refine yN hK ?_;clear hK K))|refine wG ?_|(refine yR ?_;intro K hK)|fail)
    obtain ⟨x3,hn3⟩:=psA (OwnI.ext ha eb) ((he.trans ea).trans eb) eu ho hfr hlc;exact a5A v' (λ w5 e5=>⟨x3.trans e5,OwnI.ext hn3 e5⟩) oZ sZ
  | true =>
    rw [hcook1 rfl];have hip:=hpos rfl
    repeat' (first|(refine yL ?_;first|refine a0A rfl ?_|(refine oD 38 ?_;refine aeA rfl rfl rfl fZ ?_;rw [show (i:Int)-1=((i-1:Nat):Int) by omega])|(refine oD 40 ?_;refine a3A (hK _ _ (ayA 36 rfl (λ va wa ea ha=>ayA 39 rfl (λ vb wb eb hb=>?_))));clear hK K;replace ha:OwnI w.heap.size tB .u8 wa va (leS 12347 2):=ha;replace hb:OwnI w.heap.size tB .u8 wb vb (leS (i-1:Nat) 2):=hb;refine asA rfl nZ esA rfl (OwnI.ext ha eb) rfl (HasI.ownV hb).c c4A (by unfold maxLen;simp only [anA];omega) (by simp only [anA];omega) (λ v' wu wv eu ho hfr hlc=>?_);obtain ⟨x3,hn3⟩:=psA (OwnI.ext ha eb) ((he.trans ea).trans eb) eu ho hfr hlc;refine adA kZ (λ K hK=>?_))|(refine oD 43 ?_;refine d3A rfl rfl rfl oZ oZ fZ ?_;rw [show ((i:Int)+7) / 8=((1:Nat):Int) by omega])|(refine oD 44 ?_;refine ebA rfl esA rfl rfl dZ dZ ?_)|refine yO ?_|(refine yC ?_ ?_<;>intro hc)|(refine yV ?_;first|(refine oD 36 ?_;refine oC 45 ?_;refine a2A (f:=45) rfl rfl rfl  (.pred (b4A w.heap.size tB .u8 (leS 12347 2))) (by intro u1 w e hu1;(try obtain rfl:u1=_:=hu1);exact (k6A _ oZ oZ).mono (a9A (he.trans e).size)) ?_)|(refine oD 39 ?_;refine oC 45 ?_;refine a2A (f:=45) rfl rfl rfl  (.pred (b4A w.heap.size tB .u8 (leS (i-1:Nat) 2))) (by intro u1 w e hu1;(try obtain rfl:u1=_:=hu1);exact (k6A _ oZ oZ).mono (a9A (he.trans e).size)) ?_))|(refine yN hK ?_;clear hK K))|refine wG ?_|(refine yR ?_;intro K hK)|fail)
    obtain ⟨ys,hys⟩:∃ ys,ys=leS 12347 2++leS (i-1:Nat) 2:=⟨_,rfl⟩;have hyl:ys.length=4:=by rw [hys];simp [anA]
    rw [← hys] at hn3 ⊢;refine c2A 11 rfl (λ fv wf ef hf=>?_);replace hf:OwnI wv.heap.size tB .u8 wf fv [(fB f 0:Int)]:=hf;obtain ⟨gb,cap,cur0,rfl,s1,-,s3,s4,-,-⟩:=OwnI.row hf (by simp)
    refine acA (ι:=Nat) (λ j=>[(0,.val v0),(1,.val v1),(2,.val v2),(7,.val (.int .i64 i)),(8,.val (.bool true)),(10,.val v'),(11,.val (.slice (some ⟨gb,0,none⟩) 1 cap)),(12,.val (.int .i64 j))])
     (λ j w'=>Ext wv w'∧j≤i∧OwnI wv.heap.size tB .u8 w' (.slice (some ⟨gb,0,none⟩) 1 cap) [(fB f j:Int)]) (λ j=>i-j)
     (λ w4 e4=>⟨0,⟨ef.trans e4,Nat.zero_le _,hf.ext e4⟩,sZ⟩) ?_
    rintro j w2 ⟨he2,hj,hfv⟩
    by_cases hji:j<i
    ·have hbi:=hbg j hji
     have hfs:fB f (j+1)=fB f j+if f j then 2 ^ j else 0:=rfl
     have hfl:=nsA f j;have hsh:=shl8 (i:=j) oZ;have h2i:(2:Nat) ^ j≤2 ^ 7:=Nat.pow_le_pow_right dZ oZ;obtain ⟨F,hF⟩:∃ F,F=fB f j:=⟨_,rfl⟩;rw [← hF] at hfs hfl hfv;obtain ⟨P,hP⟩:∃ P,P=2 ^ j:=⟨_,rfl⟩;rw [← hP] at hfs hfl hsh h2i;cases hfj:f j with
     | true =>
       rw [hfj] at hbi hfs;rw [if_pos rfl] at hfs;obtain ⟨gb',cap',cur,hgb,t1,t2,t3,t4,t5,t6⟩:=OwnI.row hfv (by simp);cases hgb;have h2e:=h2.ext (x3.trans he2)
       repeat' (first|(refine yL ?_;first|refine a0A rfl ?_|(refine oD 52 ?_;refine d4A rfl _ rfl (λ _=>rfl) rfl (HasC.val h2e) rfl j rfl hji hbl ?_;rw [hbi])|(refine oD 56 ?_;refine d3A rfl rfl rfl oZ oZ fZ ?_;rw [show (j:Int) / 8=((0:Nat):Int) by omega])|(refine oD 59 ?_;refine d3A rfl rfl rfl oZ oZ fZ ?_;rw [show (j:Int) / 8=((0:Nat):Int) by omega])|(refine oD 60 ?_;refine abA rfl _ rfl (λ _=>rfl) rfl (HasI.ownV hfv) rfl (by simp) ?_;rw [List.getD_cons_zero])|(refine oD 63 ?_;refine fcA rfl rfl rfl oZ oZ fZ ?_;rw [show (j:Int) % 8=((j:Nat):Int) by omega])|(refine oD 65 ?_;refine gzA rfl rfl rfl oZ (by show ((j:Nat):Int)≤8;omega) ?_;rw [hsh])|(refine oD 66 ?_;refine b3A rfl rfl rfl fZ ?_;rw [show (F:Int)+(P:Int)=((F+P:Nat):Int) by omega])|(refine oD 67 ?_;refine bkA (s:=1) rfl rfl (λ _=>rfl) rfl rfl oZ oZ ?_)|(refine a3A (hK _ _ (bgA rfl rfl rfl t2 (λ _=>rfl) (by rw [t5];exact t3) rfl rfl (λ w4 e4=>?_)));clear hK K;dsimp only [LA.vals];refine adA kZ (λ K hK=>?_))|refine yO ?_|(refine yC ?_ ?_<;>intro hc)|(refine yN hK ?_;clear hK K))|refine wG ?_|(refine yR ?_;intro K hK)|fail)
       have hset:=OwnI.set t1 (e4.block t2) t3 t4 t5 t6 0 (by simp) ((F+P:Nat):Int);exact a5A (j+1) (λ w5 e5=>⟨((he2.trans e4).setRow t1 _).trans e5,hji,by rw [hfs];exact OwnI.ext hset e5⟩) oZ sZ
     | false =>
       rw [hfj] at hbi hfs;rw [if_neg dZ,Nat.add_zero] at hfs;have h2e:=h2.ext (x3.trans he2)
       repeat' (first|(refine yL ?_;first|refine a0A rfl ?_|(refine oD 52 ?_;refine d4A rfl _ rfl (λ _=>rfl) rfl (HasC.val h2e) rfl j rfl hji hbl ?_;rw [hbi])|refine yO ?_|(refine yC ?_ ?_<;>intro hc)|(refine yN hK ?_;clear hK K))|refine wG ?_|(refine yR ?_;intro K hK)|fail)
       exact a5A (j+1) (λ w5 e5=>⟨he2.trans e5,hji,by rw [hfs];exact OwnI.ext hfv e5⟩) oZ sZ
    ·obtain rfl:j=i:=oZ
     have hb2:=hn3.ext he2;have hx2:=x3.trans he2
     repeat' (first|(refine yL ?_;first|refine a0A rfl ?_|(refine oD 70 ?_;refine a3A (hK _ _ (asA rfl nZ esA rfl hb2 rfl (HasI.ownV hfv).c c4A (by unfold maxLen;simp only [List.length_cons,List.length_nil];omega) (by simp only [List.length_cons,List.length_nil];omega) (λ v9 wu9 wv9 eu9 ho9 hfr9 hlc9=>?_)));clear hK K;refine adA kZ (λ K hK=>?_))|refine yO ?_|(refine yC ?_ ?_<;>intro hc)|(refine yN hK ?_;clear hK K))|refine wG ?_|(refine yR ?_;intro K hK)|fail)
     obtain ⟨x9,hn9⟩:=psA (b:=[(fB f j:Int)]) hb2 hx2 eu9 ho9 hfr9 hlc9;exact a5A v9 (λ w5 e5=>⟨x9.trans e5,OwnI.ext hn9 e5⟩) oZ sZ
 clear he w1 hcook0 hcook1 hpos;rintro vb w1 ⟨he,hb⟩;have hckl:(csA i f).length≤20:=by rw [hck];split <;> omega
 repeat' (first|(refine yL ?_;first|refine a0A rfl ?_|refine yO ?_|(refine yC ?_ ?_<;>intro hc)|(refine yN hK ?_;clear hK K))|refine wG ?_|(refine yR ?_;intro K hK)|fail)
 refine acA (ι:=Nat × Value × Value × List Value) (λ j=>[(0,.val v0),(1,.val v1),(2,.val v2),(7,.val (.int .i64 i)),(8,.val (.bool S)),(10,.val j.2.1),(13,.val j.2.2.1),(14,.val (.int .i64 j.1))])
  (λ j w'=>j.1≤i∧Ext w w'∧OwnI w.heap.size tB .u8 w' j.2.1 (csA i f++buA (exA p) j.1)∧BRow w.heap.size w' j.2.2.1 j.2.2.2 j.1 p f j.2.1) (λ j=>i-j.1)
  (λ w5 e5=>⟨(0,vb,nilS,[]),⟨Nat.zero_le _,he.trans e5,by show OwnI _ _ _ _ _ (_++[]);rw [List.append_nil];exact OwnI.ext hb e5,BRow.nil⟩,sZ⟩) ?_
 clear he hb w1 vb;rintro ⟨t,vo,vbs,bs⟩ w2 ⟨hti,he,hb,hB⟩;dsimp only at hti hb hB ⊢
 by_cases htl:t<i
 ·obtain ⟨base,hmk⟩:=hms t htl
  have hmk2:=hmk.ext he;obtain ⟨⟨d1,d2⟩,d3,d4⟩:=hD t htl;have hbt:=hbg t htl;have hxl:(ahA (blk p (kp p t)) 65536).length=cnt (blk p (kp p t)) 65536:=b1A _ _;have hlist:∀ w',Ext w2 w'→Fc Tryz.prog 47 #[ms.getD t undef] w' (Ret w' (.pred (b4A w2.heap.size tK .u16 (ahA (blk p (kp p t)) 65536)))):=λ w' e=>(ngA w' _ base _ (hmk2.ext e)).mono (a9A e.size)
  have hbody:∀ w',Ext w2 w'→Fc Tryz.prog 48 #[ms.getD t undef,.int .u8 (kdF (blk p (kp p t)) (f t))] w' (Ret w' (.pred (b4A w2.heap.size tB .u8 (dgA p f t)))):=λ w' e=>(zjA (hmk2.ext e) (f t)).mono (a9A e.size)
  have hcat:buA (exA p) (t+1)=buA (exA p) t++(leS (kp p t) 2++leS (cnt (blk p (kp p t)) 65536-1:Nat) 2):=rfl;have hdl:(buA (exA p) t).length=t*4:=ctA _ (λ i _=>fyA p i);have hkd:kdF (blk p (kp p t)) (f t)=if f t then 3 else if cnt (blk p (kp p t)) 65536≤4096 then 1 else 2:=rfl
  obtain ⟨xs,hxs⟩:∃ xs,xs=ahA (blk p (kp p t)) 65536:=⟨_,rfl⟩;rw [← hxs] at hxl hlist;obtain ⟨kd,hkdd⟩:∃ kd,kd=kdF (blk p (kp p t)) (f t):=⟨_,rfl⟩;rw [← hkdd] at hkd hbody;obtain ⟨C0,hC0⟩:∃ c,c=cnt (blk p (kp p t)) 65536:=⟨_,rfl⟩;rw [← hC0] at d3 d4 hxl hcat hkd;obtain ⟨K0,hK0⟩:∃ c,c=kp p t:=⟨_,rfl⟩;rw [← hK0] at d1 d2 hcat;obtain ⟨mv,hmv⟩:∃ mv,mv=ms.getD t undef:=⟨_,rfl⟩;rw [← hmv] at hlist hbody;obtain ⟨D,hDD⟩:∃ D,D=dgA p f t:=⟨_,rfl⟩;rw [← hDD] at hbody;obtain ⟨B0,hB0⟩:∃ B,B=csA i f++buA (exA p) t:=⟨_,rfl⟩;have hBl:B0.length≤1000:=by rw [hB0,List.length_append];omega
  have hBn:csA i f++buA (exA p) (t+1)=(B0++leS K0 2)++leS (C0-1:Nat) 2:=by rw [hcat,hB0];simp only [List.append_assoc]
  rw [← hB0] at hb;have hcases:(f t=true∧kd=3∧C0≤4096)∨(f t=true∧kd=3∧¬ C0≤4096)∨(f t=false∧kd=1∧C0≤4096)∨(f t=false∧kd=2∧¬ C0≤4096):=by
   cases hft:f t <;> by_cases hc:C0≤4096 <;> rw [hft] at hkd <;> simp [hc] at hkd ⊢ <;> exact hkd
  have h0e:=h0.ext he;have h1e:=h1.ext he;have h2e:=h2.ext he;clear hxs hkdd hkd hC0 hK0 hcat hB0 hmk hmk2
  rcases hcases with ⟨hft,rfl,hc4⟩|⟨hft,rfl,hc4⟩|⟨hft,rfl,hc4⟩|⟨hft,rfl,hc4⟩
  all_goals
   rw [hft] at hbt
   repeat' (first|(refine yL ?_;first|refine a0A rfl ?_|(refine oD 82 ?_;refine d4A rfl _ rfl (λ _=>rfl) rfl (HasC.val h1e) rfl t rfl htl hml ?_;rw [← hmv])|(refine oD 95 ?_;refine d4A rfl _ rfl (λ _=>rfl) rfl (HasC.val h1e) rfl t rfl htl hml ?_;rw [← hmv])|(refine oD 85 ?_;refine alA rfl _ rfl rfl HasI.own.c ?_;rw [hxl])|(refine oD 90 ?_;refine d4A rfl _ rfl (λ _=>rfl) rfl (HasC.val h2e) rfl t rfl htl hbl ?_;rw [hbt])|(refine oD 99 ?_;refine u8A (Nat.le_refl _) rfl d9B rfl n4A ?_)|(refine oD 100 ?_;refine a3A (hK _ _ (ayA 99 rfl (λ v99 w3 e3 h99=>?_)));clear hK K;obtain ⟨u,hu,hu1,hu2,huo⟩:=h99;refine asA rfl nZ d9B rfl (hB.own.ext e3) rfl (HasC.ownV huo) (λ c hc=>by rw [List.mem_singleton] at hc;subst hc;exact hu2) (by unfold maxLen;omega) oZ (λ vn w4 w5 e4 ho hf hl=>?_);replace hu:OwnI w2.heap.size tB .u8 w3 u (dgA p f t):=hDD▸hu;have hu4:=OwnI.ext hu e4;have x4:=(he.trans e3).trans e4;have hB5:=(hB.ext (e3.trans e4)).push (Own.base hu4 he.size) (λ k h1 h2=>by have g1:=(Own.lt hu4 k h1).1;have g2:=(Own.lt hb k h2).2;omega) ho hf hl x4.size;have hb5:=(hB.ext (e3.trans e4)).keep (OwnI.ext hb (e3.trans e4)) hf;have x5:Ext w w5:=Fr.ext x4 hf (λ k hk=>(Own.lt hB.own k hk).1);have h05:=h0.ext x5;refine adA kZ (λ K hK=>?_))|(refine oD 104 ?_;refine abA rfl _ rfl (λ _=>rfl) rfl (HasI.val h05) rfl oZ ?_;rw [d2])|(refine oD 108 ?_;refine a3A (hK _ _ (ayA 107 rfl (λ vb6 wb6 eb6 hb6=>?_)));clear hK K;replace hb6:OwnI w.heap.size tB .u8 wb6 vb6 (leS K0 2):=hb6;refine asA rfl nZ esA rfl (OwnI.ext hb5 eb6) rfl (HasI.ownV hb6).c c4A (by unfold maxLen;simp only [List.length_append,anA];omega) (by simp only [List.length_append,anA];omega) (λ v6 wu6 wv6 eu6 ho6 hfr6 hlc6=>?_);obtain ⟨x6,hn6⟩:=psA (OwnI.ext hb5 eb6) (x5.trans eb6) eu6 ho6 hfr6 hlc6;have hB6:=(hB5.ext (eb6.trans eu6)).grow (OwnI.ext hb5 (eb6.trans eu6)) hfr6 hlc6;refine adA kZ (λ K hK=>?_))|(refine oD 111 ?_;refine aeA rfl rfl rfl fZ ?_;rw [show (C0:Int)-1=((C0-1:Nat):Int) by omega])|(refine oD 113 ?_;refine a3A (hK _ _ (ayA 112 rfl (λ vb7 wb7 eb7 hb7=>?_)));clear hK K;replace hb7:OwnI w.heap.size tB .u8 wb7 vb7 (leS (C0-1:Nat) 2):=hb7;refine asA rfl nZ esA rfl (OwnI.ext hn6 eb7) rfl (HasI.ownV hb7).c c4A (by unfold maxLen;simp only [List.length_append,anA];omega) (by simp only [List.length_append,anA];omega) (λ v7 wu7 wv7 eu7 ho7 hfr7 hlc7=>?_);obtain ⟨x7,hn7⟩:=psA (OwnI.ext hn6 eb7) (x6.trans eb7) eu7 ho7 hfr7 hlc7;have hB7:=(hB6.ext (eb7.trans eu7)).grow (OwnI.ext hn6 (eb7.trans eu7)) hfr7 hlc7;refine adA kZ (λ K hK=>?_))|refine yO ?_|(refine yC ?_ ?_<;>intro hc)|(refine yV ?_;first|(refine oC 47 ?_;refine a2A (f:=47) rfl rfl rfl  (.pred (b4A w2.heap.size tK .u16 xs)) (by intro u1 w e hu1;(try obtain rfl:u1=_:=hu1);exact hlist _ e) ?_)|(refine oC 48 ?_;refine a4A (f:=48) rfl rfl rfl rfl  (.pred (b4A w2.heap.size tB .u8 D)) (by intro u1 u2 w e hu1 hu2;(try obtain rfl:u1=_:=hu1);(try obtain rfl:u2=_:=hu2);exact hbody _ e) ?_)|(refine oD 107 ?_;refine oC 45 ?_;refine a2A (f:=45) rfl rfl rfl  (.pred (b4A w.heap.size tB .u8 (leS K0 2))) (by intro u1 w e hu1;(try obtain rfl:u1=_:=hu1);exact (k6A _ oZ oZ).mono (a9A (x5.trans e).size)) ?_)|(refine oD 112 ?_;refine oC 45 ?_;refine a2A (f:=45) rfl rfl rfl  (.pred (b4A w.heap.size tB .u8 (leS (C0-1:Nat) 2))) (by intro u1 w e hu1;(try obtain rfl:u1=_:=hu1);exact (k6A _ oZ oZ).mono (a9A (x6.trans e).size)) ?_))|(refine yN hK ?_;clear hK K))|refine wG ?_|(refine yR ?_;intro K hK)|fail)
   exact a5A (t+1,v7,vn,bs++[u]) (λ w8 e8=>⟨htl,x7.trans e8,by dsimp only;rw [hBn];exact OwnI.ext hn7 e8,hB7.ext e8⟩) eZ sZ
 obtain rfl:t=i:=oZ;have hdl:(buA (exA p) t).length=t*4:=ctA _ (λ i _=>fyA p i);obtain ⟨B1,hB1⟩:∃ B,B=csA t f++buA (exA p) t:=⟨_,rfl⟩;have hB1l:B1.length=(csA t f).length+t*4:=by rw [hB1,List.length_append,hdl]
 rw [← hB1] at hb ⊢;clear htl hti hD hbg hms hB1
 repeat' (first|(refine yL ?_;first|refine a0A rfl ?_|refine yO ?_|(refine yC ?_ ?_<;>intro hc)|(refine yN hK ?_;clear hK K))|(refine oCX ?_;first|refine cdA (id:=32) (ι:=Value) (λ vq=>[(7,.val (.int .i64 t)),(13,.val vbs),(17,.val vq)]) (λ vq w'=>Ext w w'∧OwnI w.heap.size tB .u8 w' vq (B1++dwA p f)∧BRow w.heap.size w' vbs bs t p f vq) ?_ ?_)|refine wG ?_|(refine yR ?_;intro K hK)|fail)
 ·by_cases hoc:S=true∧t<4
  ·have ho:=hoff1 hoc
   obtain ⟨rfl,h4⟩:=hoc
   repeat' (first|(refine yL ?_;first|refine a0A rfl ?_|refine yO ?_|(refine yC ?_ ?_<;>intro hc)|(refine yN hK ?_;clear hK K))|refine wG ?_|(refine yR ?_;intro K hK)|fail)
   exact a5A vo (λ w5 e5=>⟨he.trans e5,by rw [ho,List.append_nil];exact OwnI.ext hb e5,hB.ext e5⟩) oZ sZ
  ·obtain ⟨ho1,ho2⟩:=hoff2 hoc
   rw [ho2] at hhl;have hof:∀ j,h2A p f j=leS ((H+(buA (dgA p f) j).length:Nat):Int) 4:=λ j=>by unfold h2A;rw [← hnn,← hH]
   have hsk:S=false∨(S=true∧4≤t):=by
    cases S with
    | false=>exact .inl rfl
    | true=>exact .inr ⟨rfl,Nat.le_of_not_lt (λ h=>hoc ⟨rfl,h⟩)⟩
   clear hoff1 hoff2 ho2 hoc
   rcases hsk with rfl|⟨rfl,h4⟩
   all_goals
    repeat' (first|(refine yL ?_;first|refine a0A rfl ?_|(refine cpA ?_;refine alA rfl _ rfl rfl (HasI.ownV hb).c ?_)|(refine oD 124 ?_;refine f6A rfl rfl rfl fZ ?_;rw [show (4:Int)*(t:Int)=((4*t:Nat):Int) by omega])|(refine oD 125 ?_;refine b3A rfl rfl rfl fZ ?_;rw [show (B1.length:Int)+((4*t:Nat):Int)=((H+(buA (dgA p f) 0).length:Nat):Int) by simp only [buA,List.length_nil];omega])|refine yO ?_|(refine yC ?_ ?_<;>intro hc)|(refine yN hK ?_;clear hK K))|refine wG ?_|(refine yR ?_;intro K hK)|fail)
    refine acA (ι:=Nat × Value) (λ j=>[(7,.val (.int .i64 t)),(13,.val vbs),(17,.val j.2),(18,.val (.int .i64 (H+(buA (dgA p f) j.1).length:Nat))),(19,.val (.int .i64 j.1))])
     (λ j w'=>j.1≤t∧Ext w w'∧OwnI w.heap.size tB .u8 w' j.2 (B1++buA (h2A p f) j.1)∧BRow w.heap.size w' vbs bs t p f j.2) (λ j=>t-j.1)
     (λ w5 e5=>⟨(0,vo),⟨Nat.zero_le _,he.trans e5,by show OwnI _ _ _ _ _ (_++[]);rw [List.append_nil];exact OwnI.ext hb e5,hB.ext e5⟩,sZ⟩) ?_
    clear he hb hB w2 vo;rintro ⟨j,vo⟩ w2 ⟨hjt,he,hb,hB⟩;dsimp only at hjt hb hB ⊢;have hbj:=h7A p f j
    by_cases hjl:j<t
    ·have hofj:=hof j
     have hble:(dgA p f j).length≤131074:=jtA _ _;have hol:(buA (h2A p f) j).length=j*4:=ctA j (λ i _=>ftA p f i);have hcat:buA (h2A p f) (j+1)=buA (h2A p f) j++h2A p f j:=rfl;have hcb:(buA (dgA p f) (j+1)).length=(buA (dgA p f) j).length+(dgA p f j).length:=by show (buA (dgA p f) j++dgA p f j).length=_;rw [List.length_append]
     rw [hofj] at hcat;obtain ⟨A0,hA0⟩:∃ a,a=H+(buA (dgA p f) j).length:=⟨_,rfl⟩;have hA1:A0+(dgA p f j).length=H+(buA (dgA p f) (j+1)).length:=oZ;rw [← hA0] at hcat ⊢;obtain ⟨B0,hB0⟩:∃ B,B=B1++buA (h2A p f) j:=⟨_,rfl⟩;have hBl:B0.length≤2000:=by rw [hB0,List.length_append];omega
     have hBn:B1++buA (h2A p f) (j+1)=B0++leS A0 4:=by rw [hcat,hB0];simp only [List.append_assoc]
     rw [← hB0] at hb;have hA0l:A0≤3000000:=oZ;clear hA0 hB0 hcat hofj hof hcb
     repeat' (first|(refine yL ?_;first|refine a0A rfl ?_|(refine oD 134 ?_;refine a3A (hK _ _ (ayA 133 rfl (λ vb6 wb6 eb6 hb6=>?_)));clear hK K;replace hb6:OwnI w.heap.size tB .u8 wb6 vb6 (leS A0 4):=hb6;refine asA rfl nZ esA rfl (OwnI.ext hb eb6) rfl (HasI.ownV hb6).c c4A (by unfold maxLen;simp only [List.length_append,anA];omega) (by simp only [List.length_append,anA];omega) (λ v6 wu6 wv6 eu6 ho6 hfr6 hlc6=>?_);obtain ⟨x6,hn6⟩:=psA (OwnI.ext hb eb6) (he.trans eb6) eu6 ho6 hfr6 hlc6;have hB6:=(hB.ext (eb6.trans eu6)).grow (OwnI.ext hb (eb6.trans eu6)) hfr6 hlc6;refine adA kZ (λ K hK=>?_))|(refine oD 138 ?_;refine d4A rfl _ rfl (λ _=>rfl) rfl (HasC.ownV hB6.own) rfl j rfl hjl hB6.own.lenV ?_)|(refine oD 140 ?_;refine alA rfl _ rfl rfl (HasI.val (OwnI.slI (hB6.at_ j hjl))).c ?_)|(refine oD 141 ?_;refine b3A rfl rfl rfl fZ ?_;rw [show (A0:Int)+((dgA p f j).length:Int)=((A0+(dgA p f j).length:Nat):Int) by omega])|refine yO ?_|(refine yC ?_ ?_<;>intro hc)|(refine yV ?_;first|(refine oD 133 ?_;refine oC 46 ?_;refine a2A (f:=46) rfl rfl rfl  (.pred (b4A w.heap.size tB .u8 (leS A0 4))) (by intro u1 w e hu1;(try obtain rfl:u1=_:=hu1);exact (swA _ oZ oZ).mono (a9A (he.trans e).size)) ?_))|(refine yN hK ?_;clear hK K))|refine wG ?_|(refine yR ?_;intro K hK)|fail)
     exact a5A (j+1,v6) (λ w8 e8=>⟨hjl,x6.trans e8,by dsimp only;rw [hBn];exact OwnI.ext hn6 e8,hB6.ext e8⟩) eZ (by dsimp only;rw [← hA1];(repeat' (first|exact Sub.nil|(refine Sub.val rfl ?_ ?_;first|with_reducible rfl|(congr 1;omega))|refine Sub.same rfl ?_));done)
    ·obtain rfl:j=t:=oZ
     repeat' (first|(refine yL ?_;first|refine a0A rfl ?_|refine yO ?_|(refine yC ?_ ?_<;>intro hc)|(refine yN hK ?_;clear hK K))|refine wG ?_|(refine yR ?_;intro K hK)|fail)
     exact a5A vo (λ w5 e5=>⟨he.trans e5,by rw [ho1];exact OwnI.ext hb e5,hB.ext e5⟩) oZ sZ
 have hol:(dwA p f).length≤100:=by
  by_cases hoc:S=true∧t<4
  ·rw [hoff1 hoc];simp
  ·have:=(hoff2 hoc).2;omega
 clear hb hB he w2 vo hoff1 hoff2;rintro vo w2 ⟨he,hb,hB⟩;obtain ⟨G,hG⟩:∃ G,G=B1++dwA p f:=⟨_,rfl⟩;have hGl:G.length≤1000:=by rw [hG,List.length_append];omega
 rw [← hG] at hb ⊢;clear hG
 repeat' (first|(refine yL ?_;first|refine a0A rfl ?_|refine yO ?_|(refine yC ?_ ?_<;>intro hc)|(refine yN hK ?_;clear hK K))|refine wG ?_|(refine yR ?_;intro K hK)|fail)
 refine acA (ι:=Nat × Value) (λ j=>[(7,.val (.int .i64 t)),(13,.val vbs),(17,.val j.2),(20,.val (.int .i64 j.1))])
  (λ j w'=>j.1≤t∧Ext w w'∧OwnI w.heap.size tB .u8 w' j.2 (G++buA (dgA p f) j.1)∧BRow w.heap.size w' vbs bs t p f j.2) (λ j=>t-j.1)
  (λ w5 e5=>⟨(0,vo),⟨Nat.zero_le _,he.trans e5,by show OwnI _ _ _ _ _ (_++[]);rw [List.append_nil];exact OwnI.ext hb e5,hB.ext e5⟩,sZ⟩) ?_
 clear he hb hB w2 vo;rintro ⟨j,vo⟩ w2 ⟨hjt,he,hb,hB⟩;dsimp only at hjt hb hB ⊢;have hbj:=h7A p f j
 by_cases hjl:j<t
 ·have hble:(dgA p f j).length≤131074:=jtA _ _
  have hcat:buA (dgA p f) (j+1)=buA (dgA p f) j++dgA p f j:=rfl;obtain ⟨B0,hB0⟩:∃ B,B=G++buA (dgA p f) j:=⟨_,rfl⟩;have hBl:B0.length≤2000000:=by rw [hB0,List.length_append];omega
  have hBn:G++buA (dgA p f) (j+1)=B0++dgA p f j:=by rw [hcat,hB0];simp only [List.append_assoc]
  rw [← hB0] at hb;have hD:=hB.at_ j hjl;clear hB0 hcat
  repeat' (first|(refine yL ?_;first|refine a0A rfl ?_|(refine oD 150 ?_;refine d4A rfl _ rfl (λ _=>rfl) rfl (HasC.ownV hB.own) rfl j rfl hjl hB.own.lenV ?_)|(refine oD 152 ?_;refine a3A (hK _ _ (asA rfl nZ esA rfl hb rfl (HasI.val (OwnI.slI hD)).c c4A (by unfold maxLen;omega) oZ (λ v6 wu6 wv6 eu6 ho6 hfr6 hlc6=>?_)));clear hK K;obtain ⟨x6,hn6⟩:=psA hb he eu6 ho6 hfr6 hlc6;have hB6:=(hB.ext eu6).grow (OwnI.ext hb eu6) hfr6 hlc6;refine adA kZ (λ K hK=>?_))|refine yO ?_|(refine yC ?_ ?_<;>intro hc)|(refine yN hK ?_;clear hK K))|refine wG ?_|(refine yR ?_;intro K hK)|fail)
  exact a5A (j+1,v6) (λ w8 e8=>⟨hjl,x6.trans e8,by dsimp only;rw [hBn];exact OwnI.ext hn6 e8,hB6.ext e8⟩) eZ sZ
 ·obtain rfl:j=t:=oZ
  repeat' (first|(refine yL ?_;first|refine a0A rfl ?_|refine yO ?_|(refine yC ?_ ?_<;>intro hc)|(refine yN hK ?_;clear hK K))|refine wG ?_|(refine yR ?_;intro K hK)|fail)
  exact aiA rfl rfl he (λ u w5 e5 hu=>by obtain rfl:u=_:=hu;exact OwnI.ext hb e5)
abbrev tPm:Nat:=32
abbrev tBo:Nat:=4
theorem d5B:El Tryz.prog 29 32 (.pointer none) 1 8:=⟨rfl,rfl,rfl,by decide⟩
theorem daB:El Tryz.prog 30 4 (.bool false) 1 1:=⟨rfl,rfl,rfl,by decide⟩
theorem qmA (f:Nat→Bool) (n:Nat):jsA f (n+1)=jsA f n++[.bool (f n)]:=by simp [jsA,List.range_succ]
structure MRow (base:Nat) (w:World) (vk vm va:Value) (ms:List Value) (n:Nat) (p f:Nat→Bool):Prop where
 k:OwnI base tK .u16 w vk (b2A p)
 m:LA.Own base tPm 1 w vm n ms
 a:LA.Own base tBo 1 w va n (jsA f n)
 at_:∀ j,j<n→MkI base tM w (ms.getD j undef) (blk p (kp p j))
theorem MRow.ext {base n:Nat} {w w':World} {vk vm va:Value} {ms:List Value} {p f:Nat→Bool} (h:MRow base w vk vm va ms n p f) (e:Ext w w'):MRow base w' vk vm va ms n p f:=⟨h.k.ext e,h.m.ext e,h.a.ext e,λ j hj=>(h.at_ j hj).ext e⟩
theorem MkI.fr {base e:Nat} {w w':World} {v:Value} {p:Nat→Bool} {R:Nat→Prop} (h:MkI base e w v p) (hf:Fr R w w') (hR:∀ k,R k→∃ cur e' j,w.heap[k]?=some (.cells cur e' j)∧e≠e'):MkI base e w' v p:=by
 obtain ⟨b,h1,h2,h3⟩:=h;refine ⟨b,h1,h2,hf.at h3 (λ hk=>?_)⟩;obtain ⟨cur,e',j,h4,h5⟩:=hR b hk;rw [h3] at h4;cases h4;exact h5 rfl
theorem uyA {w:World} {v:Value} {p:Nat→Bool} (h:SlP .u64 w v (spL p TOP)) (hn8:nk p≤8):Fc Tryz.prog 19 #[v] w (Ret w (.pred (b4A w.heap.size tB .u8 (erA p)))):=by
 have hks:∀ w',Ext w w'→_:=λ w' e=>zfA (h.ext e)
 have hkl:=bqA p;have hD:∀ i,i<nk p→kp p i<65536∧(b2A p).getD i 0=(kp p i:Int):=λ i hi=>by
  obtain ⟨k1,k2,k3,k4⟩:=hvA hi;exact ⟨k1,k4⟩
 obtain ⟨n,hnn⟩:∃ n,n=nk p:=⟨_,rfl⟩;rw [← hnn] at hkl hD hn8;refine Fc.of (args:=[_]) Tryz.func19 rfl rfl Tryz.ntmps19 nZ ?_
 repeat' (first|(refine yL ?_;first|refine a0A rfl ?_|refine yO ?_|(refine yC ?_ ?_<;>intro hc)|(refine yV ?_;first|(refine oC 11 ?_;refine a2A (f:=11) rfl rfl rfl  (.pred (b4A w.heap.size tK .u16 (b2A p))) (by intro u1 w e hu1;(try obtain rfl:u1=_:=hu1);exact (hks _ e).mono (a9A e.size)) ?_))|(refine yN hK ?_;clear hK K))|refine wG ?_|(refine yR ?_;intro K hK)|fail)
 refine c2A 3 rfl (λ vk w3 e3 h3=>?_);replace h3:OwnI w.heap.size tK .u16 w3 vk (b2A p):=h3
 refine acA (ι:=Nat × Value × Value × List Value) (λ j=>[(0,.val v),(3,.val vk),(4,.val j.2.1),(5,.val j.2.2.1),(6,.val (.int .i64 j.1))])
  (λ j w'=>j.1≤n∧Ext w w'∧MRow w.heap.size w' vk j.2.1 j.2.2.1 j.2.2.2 j.1 p (cbA p)) (λ j=>n-j.1)
  (λ w5 e5=>⟨(0,nilS,nilS,[]),⟨Nat.zero_le _,e3.trans e5,⟨OwnI.ext h3 e5,Own.nil,Own.nil,λ j hj=>absurd hj (Nat.not_lt_zero _)⟩⟩,sZ⟩) ?_
 clear e3 h3 w3;rintro ⟨t,vm,va,ms⟩ w1 ⟨hti,he,hM⟩;dsimp only at hti hM ⊢
 by_cases htl:t<n
 ·obtain ⟨d1,d2⟩:=hD t htl
  have hblk:∀ w',Ext w1 w'→Fc Tryz.prog 12 #[v,.int .u16 (kp p t)] w' (Ret w' (.pred (mkI w.heap.size tM (blk p (kp p t))))):=λ w' e=>(vcA (h.ext (he.trans e)) d1).mono (λ en w'' ⟨u,g1,g2,g3⟩=>⟨u,g1,g2,MkI.base g3 (he.trans e).size⟩)
  have hkc:=fvA (blk p (kp p t));have hbn:=qmA (cbA p) t;have hway:cbA p t=isR (blk p (kp p t)):=rfl;obtain ⟨q,hq⟩:∃ q,q=blk p (kp p t):=⟨_,rfl⟩;rw [← hq] at hblk hkc hway;have hkind:∀ w' u,MkI w.heap.size tM w' u q→_:=λ w' u hu=>zeA hu
  obtain ⟨kk,hkk⟩:∃ k,k=avA q:=⟨_,rfl⟩;rw [← hkk] at hkind hkc;obtain ⟨K0,hK0⟩:∃ c,c=kp p t:=⟨_,rfl⟩;rw [← hK0] at d1 d2 hblk;have hcs:(kk=3∧cbA p t=true)∨(kk≠3∧cbA p t=false):=by
   rcases hkc with ⟨k1,k2⟩|⟨k1,k2,-⟩|⟨k1,k2,-⟩
   ·exact .inl ⟨k1,by rw [hway,k2]⟩
   ·exact .inr ⟨by omega,by rw [hway,k2]⟩
   ·exact .inr ⟨by omega,by rw [hway,k2]⟩
  clear hkc hway hkk hK0
  rcases hcs with ⟨rfl,hw⟩|⟨hne,hw⟩
  all_goals
   rw [hw] at hbn
   repeat' (first|(refine yL ?_;first|refine a0A rfl ?_|(refine cpA ?_;refine alA rfl _ rfl rfl (HasI.ownV hM.k).c ?_;rw [hkl])|(refine oD 19 ?_;refine abA rfl _ rfl (λ _=>rfl) rfl (HasI.ownV hM.k) rfl oZ ?_;rw [d2])|(refine oD 22 ?_;refine a3A (hK _ _ (ayA 7 rfl (λ v7 w7 e7 h7=>?_)));clear hK K;have hm7:MkI w.heap.size tM w7 v7 q:=h7;obtain ⟨b7,rfl,hb7,hc7⟩:=h7;have hM7:=hM.ext e7;refine adA kZ (λ K hK=>cxA rfl rfl ?_))|(refine oD 24 ?_;refine dqA rfl d5B rfl rfl ?_)|(refine oD 25 ?_;refine a3A (hK _ _ (asA rfl nZ d5B rfl hM7.m rfl HasC.own (λ u hu=>by rw [List.mem_singleton] at hu;subst hu;rfl) (by unfold maxLen;omega) oZ (λ vm' w8 w9 e8 ho hf hl=>?_)));clear hK K;have x8:=(he.trans e7).trans e8;have hR:∀ k,vm.ownBlock=some k→∃ cur,w8.heap[k]?=some (.cells cur tPm (0,0)):=λ k hk=>awA (hM7.m.ext e8) hk;have hm9:=MkI.fr (hm7.ext e8) hf (λ k hk=>by obtain ⟨cur,hc⟩:=hR k hk;exact ⟨cur,_,_,hc,by decide⟩);have ha9:=cnA (hM7.a.ext e8) hf (λ k hk=>by obtain ⟨cur,hc⟩:=hR k hk;exact ⟨cur,_,_,hc,by decide⟩);have hk9:OwnI w.heap.size tK .u16 w9 vk (b2A p):=cnA (OwnI.ext hM7.k e8) hf (λ k hk=>by obtain ⟨cur,hc⟩:=hR k hk;exact ⟨cur,_,_,hc,by decide⟩);have hms9:∀ j,j<t→MkI w.heap.size tM w9 (ms.getD j undef) (blk p (kp p j)):=λ j hj=>MkI.fr ((hM7.at_ j hj).ext e8) hf (λ k hk=>by obtain ⟨cur,hc⟩:=hR k hk;exact ⟨cur,_,_,hc,by decide⟩);have ho9:LA.Own w.heap.size tPm 1 w9 vm' (t+1) (ms++[.pointer (some ⟨b7,0,none⟩)]):=Own.rebase ho (hl.ge (λ k hk=>(Own.lt hM7.m k hk).1) x8.size);have x9:Ext w w9:=Fr.ext x8 hf (λ k hk=>(Own.lt hM7.m k hk).1);refine adA kZ (λ K hK=>?_))|(refine oD 30 ?_;refine dqA rfl daB rfl rfl ?_)|(refine oD 31 ?_;refine a3A (hK _ _ (asA rfl nZ daB rfl ha9 rfl HasC.own (λ u hu=>by rw [List.mem_singleton] at hu;subst hu;rfl) (by unfold maxLen;omega) oZ (λ va' wA wB eA hoA hfA hlA=>?_)));clear hK K;refine adA kZ (λ K hK=>?_))|refine yO ?_|(refine yC ?_ ?_<;>intro hc)|(refine yV ?_;first|(refine oC 12 ?_;refine a4A (f:=12) rfl rfl rfl rfl  (.pred (mkI w.heap.size tM q)) (by intro u1 u2 w e hu1 hu2;(try obtain rfl:u1=_:=hu1);(try obtain rfl:u2=_:=hu2);exact hblk _ e) ?_)|(refine oC 69 ?_;refine a2A (f:=69) rfl rfl rfl  (.val (.int .u8 _)) (by intro u1 w e hu1;(try obtain rfl:u1=_:=hu1);exact hkind _ _ (hm9.ext e)) ?_))|(refine yN hK ?_;clear hK K))|refine wG ?_|(refine yR ?_;intro K hK)|fail)
   have hRA:∀ k,va.ownBlock=some k→∃ cur,wA.heap[k]?=some (.cells cur tBo (0,0)):=λ k hk=>awA (ha9.ext eA) hk
   have xA:=x9.trans eA;have xB:Ext w wB:=Fr.ext xA hfA (λ k hk=>(Own.lt ha9 k hk).1);have hMB:MRow w.heap.size wB vk vm' va' (ms++[.pointer (some ⟨b7,0,none⟩)]) (t+1) p (cbA p):=by
    refine ⟨cnA (OwnI.ext hk9 eA) hfA (λ k hk=>?_),cnA (ho9.ext eA) hfA (λ k hk=>?_),?_,λ j hj=>MkI.fr ?_ hfA (λ k hk=>?_)⟩
    ·obtain ⟨cur,hc⟩:=hRA k hk;exact ⟨cur,_,_,hc,by decide⟩
    ·obtain ⟨cur,hc⟩:=hRA k hk;exact ⟨cur,_,_,hc,by decide⟩
    ·rw [hbn];exact Own.rebase hoA (hlA.ge (λ k hk=>(Own.lt ha9 k hk).1) xA.size)
    ·rw [giA hM.m.lenV]
     by_cases e:j<t
     ·rw [if_pos e];exact (hms9 j e).ext eA
     ·obtain rfl:j=t:=oZ
      rw [if_neg e,if_pos rfl,← hq];exact hm9.ext eA
    ·obtain ⟨cur,hc⟩:=hRA k hk;exact ⟨cur,_,_,hc,by decide⟩
   exact a5A (t+1,vm',va',ms++[.pointer (some ⟨b7,0,none⟩)]) (λ w8 e8=>⟨htl,xB.trans e8,hMB.ext e8⟩) eZ sZ
 ·obtain rfl:t=n:=oZ
  have him:∀ w',Ext w1 w'→Fc Tryz.prog 14 #[vk,vm,va] w' (Ret w' (.pred (b4A w.heap.size tB .u8 (erA p)))):=λ w' e=>by
   have hM':=hM.ext e;rw [hnn] at hM';exact (aeB (p:=p) (f:=cbA p) (ms:=ms) hM'.k.slI hM'.m.slC (λ i hi=>⟨_,hM'.at_ i hi⟩) hM'.a.slC oZ).mono (a9A (he.trans e).size)
  repeat' (first|(refine yL ?_;first|refine a0A rfl ?_|(refine cpA ?_;refine alA rfl _ rfl rfl (HasI.ownV hM.k).c ?_;rw [hkl])|refine yO ?_|(refine yC ?_ ?_<;>intro hc)|(refine yV ?_;first|(refine oC 14 ?_;refine b8A (f:=14) rfl rfl rfl rfl rfl  (.pred (b4A w.heap.size tB .u8 (erA p))) (by intro u1 u2 u3 w e hu1 hu2 hu3;(try obtain rfl:u1=_:=hu1);(try obtain rfl:u2=_:=hu2);(try obtain rfl:u3=_:=hu3);exact him _ e) ?_))|(refine yN hK ?_;clear hK K))|refine wG ?_|(refine yR ?_;intro K hK)|fail)
  exact aiA rfl rfl he (λ u w5 e5 hu=>hu)
def opA (ids:List Int) (lo hi:Int) (x:Nat):Bool:=decide (x<ids.length) && (decide (lo≤ids.getD x 0) && decide (ids.getD x 0≤hi))
theorem rngP_iff {ids:List Int} {lo hi:Int} {x:Nat}:opA ids lo hi x=true↔x<ids.length∧lo≤ids.getD x 0∧ids.getD x 0≤hi:=by
 unfold opA;rw [Bool.and_eq_true,Bool.and_eq_true,decide_eq_true_iff,decide_eq_true_iff,decide_eq_true_iff]
theorem ncA (ids:List Int) (id:Int):opA ids id id=idP ids id:=lhA λ x=>by rw [rngP_iff,idP_iff];omega
theorem naA {w:World} {v:Value} {ids:List Int} (h:SlI .i64 w v ids) (lo hi:Int) (hl:ids.length≤300):Fc Tryz.prog 31 #[v,.int .i64 lo,.int .i64 hi] w (Ret w (.pred (kbA w.heap.size tSp .u64 (spL (opA ids lo hi) TOP)))):=by
 have htp:=eqA;have hfin:spL (opA ids lo hi) TOP=spL (opA ids lo hi) ids.length:=egA oZ (λ x h1 h2=>h1A λ h'=>by have:=(rngP_iff.1 h').1;omega);rw [hfin];refine Fc.of (args:=[_,_,_]) Tryz.func31 rfl rfl Tryz.ntmps31 nZ ?_
 repeat' (first|(refine yL ?_;first|refine a0A rfl ?_|refine yO ?_|(refine yC ?_ ?_<;>intro hc)|(refine yN hK ?_;clear hK K))|refine wG ?_|(refine yR ?_;intro K hK)|fail)
 refine acA (ι:=Nat × Value) (λ j=>[(0,.val v),(1,.val (.int .i64 lo)),(2,.val (.int .i64 hi)),(7,.val j.2),(8,.val (.int .i64 j.1))])
  (λ j w'=>j.1≤ids.length∧Ext w w'∧OwnP w.heap.size tSp .u64 w' j.2 (spL (opA ids lo hi) j.1)) (λ j=>ids.length-j.1)
  (λ w5 e5=>⟨(0,nilS),⟨Nat.zero_le _,e5,OwnP.nil⟩,sZ⟩) ?_
 rintro ⟨i,vs⟩ w1 ⟨hi',he,ho⟩;dsimp only at hi' ho ⊢;have hsl:=m1A (opA ids lo hi) i;have hcl:=cnt_le (opA ids lo hi) i;have hv:=h.ext he
 by_cases hil:i<ids.length
 ·by_cases hin:lo≤ids.getD i 0∧ids.getD i 0≤hi
  ·have hst:=n3A (p:=opA ids lo hi) (a:=i) (b:=i+1) (Nat.lt_succ_self i) (λ x h1 h2=>by
    obtain rfl:x=i:=oZ;exact rngP_iff.2 ⟨hil,hin⟩)
   obtain ⟨h1,h2⟩:=hin;obtain ⟨SN,hSN⟩:∃ S,S=spL (opA ids lo hi) (i+1):=⟨_,rfl⟩;obtain ⟨SL,hSL⟩:∃ S,S=spL (opA ids lo hi) i:=⟨_,rfl⟩;rw [← hSN,← hSL] at hst;rw [← hSL] at ho hsl;obtain ⟨X,hX⟩:∃ X,X=ids.getD i 0:=⟨_,rfl⟩;rw [← hX] at h1 h2;clear hSL
   rcases hst with ⟨s1,s2,s3⟩|⟨s1,s3⟩
   ·obtain ⟨gb,cap,cur,rfl,r1,r2,r3,r4,r5,r6⟩:=ho.row s1
    repeat' (first|(refine yL ?_;first|refine a0A rfl ?_|(refine oD 13 ?_;refine alA rfl _ rfl rfl (HasI.val hv).c ?_)|(refine oD 19 ?_;refine abA rfl _ rfl (λ _=>rfl) rfl (HasI.val hv) rfl hil ?_;rw [← hX])|(refine oD 26 ?_;refine abA rfl _ rfl (λ _=>rfl) rfl (HasI.val hv) rfl hil ?_;rw [← hX])|(refine oD 34 ?_;refine ceA rfl _ rfl rfl (HasP.ownV ho) ?_)|(refine oD 40 ?_;refine aeA rfl rfl rfl fZ ?_;rw [show ((SL.length:Int)-1)=((SL.length-1:Nat):Int) by omega])|(refine oD 41 ?_;refine bxA rfl _ rfl (λ _=>rfl) rfl (HasP.ownV ho) rfl oZ ?_;rw [s2])|(refine oD 42 ?_;refine ajA (o:=1) rfl rfl (λ _ _=>rfl) ?_)|(refine oD 43 ?_;refine bsA rfl (λ _=>rfl) rfl rfl ?_)|(refine oD 49 ?_;refine aeA rfl rfl rfl fZ ?_;rw [show ((SL.length:Int)-1)=((SL.length-1:Nat):Int) by omega])|(refine oD 50 ?_;refine bxA rfl _ rfl (λ _=>rfl) rfl (HasP.ownV ho) rfl oZ ?_;rw [s2])|(refine oD 51 ?_;refine ajA (o:=1) rfl rfl (λ _ _=>rfl) ?_)|(refine oD 52 ?_;refine bsA rfl (λ _=>rfl) rfl rfl ?_)|(refine oD 53 ?_;refine b3A rfl rfl rfl fZ ?_;rw [show (i:Int)+1=((i+1:Nat):Int) by omega])|(refine oD 54 ?_;refine bkA (s:=2) rfl rfl (λ _=>rfl) rfl rfl oZ oZ ?_;rw [Int.toNat_natCast,Nat.zero_add])|(refine oD 55 ?_;refine a1A (a':=⟨gb,(SL.length-1)*2+1,none⟩) rfl rfl (λ _=>rfl) ?_)|(refine oSt ?_;refine a3A (hK _ _ (bgA rfl rfl rfl r2 (λ _=>rfl) oZ rfl rfl (λ w7 e7=>?_)));clear hK K;refine adA kZ (λ K hK=>?_))|refine yO ?_|(refine yC ?_ ?_<;>intro hc)|(refine yN hK ?_;clear hK K))|refine wG ?_|(refine yR ?_;intro K hK)|fail)
    have ho7:=OwnP.set2 r1 (e7.block r2) r3 r4 r5 r6 (SL.length-1) ((i+1:Nat):Int);have x7:=(he.trans e7).setRow r1 (cur.setIfInBounds ((SL.length-1)*2+1) (.int .u64 ((i+1:Nat):Int)));exact a5A (i+1,_) (λ w5 e5=>⟨hil,x7.trans e5,by dsimp only;rw [← hSN,s3];exact ho7.ext e5⟩) eZ sZ
   ·by_cases h0:SL.length=0
    ·skip
     repeat' (first|(refine yL ?_;first|refine a0A rfl ?_|(refine oD 13 ?_;refine alA rfl _ rfl rfl (HasI.val hv).c ?_)|(refine oD 19 ?_;refine abA rfl _ rfl (λ _=>rfl) rfl (HasI.val hv) rfl hil ?_;rw [← hX])|(refine oD 26 ?_;refine abA rfl _ rfl (λ _=>rfl) rfl (HasI.val hv) rfl hil ?_;rw [← hX])|(refine oD 34 ?_;refine ceA rfl _ rfl rfl (HasP.ownV ho) ?_)|(refine oD 59 ?_;refine b3A rfl rfl rfl fZ ?_;rw [show (i:Int)+1=((i+1:Nat):Int) by omega])|(refine oD 60 ?_;refine dtA (c:=spV .u64 ((i:Int),((i+1:Nat):Int))) rfl rfl rfl (λ w=>run_build w _ _ _ kZ) ?_)|(refine oD 61 ?_;refine ekA rfl fdA rfl rfl dZ ?_)|(refine oD 62 ?_;refine a3A (hK _ _ (gtA (w0:=w) rfl nZ fdA rfl ho rfl oZ oZ he (λ v' wv xv hov=>?_)));clear hK K;refine adA kZ (λ K hK=>?_))|refine yO ?_|(refine yC ?_ ?_<;>intro hc)|(refine yN hK ?_;clear hK K))|refine wG ?_|(refine yR ?_;intro K hK)|fail)
     exact a5A (i+1,v') (λ w5 e5=>⟨hil,xv.trans e5,by dsimp only;rw [← hSN,s3];exact hov.ext e5⟩) eZ sZ
    ·have s1':(SL.getD (SL.length-1) (0,0)).2≠((i:Nat):Int):=s1.resolve_left h0
     repeat' (first|(refine yL ?_;first|refine a0A rfl ?_|(refine oD 13 ?_;refine alA rfl _ rfl rfl (HasI.val hv).c ?_)|(refine oD 19 ?_;refine abA rfl _ rfl (λ _=>rfl) rfl (HasI.val hv) rfl hil ?_;rw [← hX])|(refine oD 26 ?_;refine abA rfl _ rfl (λ _=>rfl) rfl (HasI.val hv) rfl hil ?_;rw [← hX])|(refine oD 34 ?_;refine ceA rfl _ rfl rfl (HasP.ownV ho) ?_)|(refine oD 40 ?_;refine aeA rfl rfl rfl fZ ?_;rw [show ((SL.length:Int)-1)=((SL.length-1:Nat):Int) by omega])|(refine oD 41 ?_;refine bxA rfl _ rfl (λ _=>rfl) rfl (HasP.ownV ho) rfl oZ ?_)|(refine oD 42 ?_;refine ajA (o:=1) rfl rfl (λ _ _=>rfl) ?_)|(refine oD 43 ?_;refine bsA rfl (λ _=>rfl) rfl rfl ?_)|(refine oD 59 ?_;refine b3A rfl rfl rfl fZ ?_;rw [show (i:Int)+1=((i+1:Nat):Int) by omega])|(refine oD 60 ?_;refine dtA (c:=spV .u64 ((i:Int),((i+1:Nat):Int))) rfl rfl rfl (λ w=>run_build w _ _ _ kZ) ?_)|(refine oD 61 ?_;refine ekA rfl fdA rfl rfl dZ ?_)|(refine oD 62 ?_;refine a3A (hK _ _ (gtA (w0:=w) rfl nZ fdA rfl ho rfl oZ oZ he (λ v' wv xv hov=>?_)));clear hK K;refine adA kZ (λ K hK=>?_))|refine yO ?_|(refine yC ?_ ?_<;>intro hc)|(refine yN hK ?_;clear hK K))|refine wG ?_|(refine yR ?_;intro K hK)|fail)
     exact a5A (i+1,v') (λ w5 e5=>⟨hil,xv.trans e5,by dsimp only;rw [← hSN,s3];exact hov.ext e5⟩) eZ sZ
  ·have hfl:spL (opA ids lo hi) (i+1)=spL (opA ids lo hi) i:=egA oZ (λ x h1 h2=>h1A λ h'=>by
    obtain rfl:x=i:=oZ;exact hin (rngP_iff.1 h').2)
   obtain ⟨X,hX⟩:∃ X,X=ids.getD i 0:=⟨_,rfl⟩;rw [← hX] at hin;have hc:X<lo∨(lo≤X∧hi<X):=oZ
   rcases hc with hc|⟨hc,hc2⟩
   all_goals
    repeat' (first|(refine yL ?_;first|refine a0A rfl ?_|(refine oD 13 ?_;refine alA rfl _ rfl rfl (HasI.val hv).c ?_)|(refine oD 19 ?_;refine abA rfl _ rfl (λ _=>rfl) rfl (HasI.val hv) rfl hil ?_;rw [← hX])|(refine oD 26 ?_;refine abA rfl _ rfl (λ _=>rfl) rfl (HasI.val hv) rfl hil ?_;rw [← hX])|refine yO ?_|(refine yC ?_ ?_<;>intro hc)|(refine yN hK ?_;clear hK K))|refine wG ?_|(refine yR ?_;intro K hK)|fail)
    exact a5A (i+1,vs) (λ w5 e5=>⟨hil,he.trans e5,by dsimp only;rw [hfl];exact ho.ext e5⟩) eZ sZ
 ·obtain rfl:i=ids.length:=oZ
  repeat' (first|(refine yL ?_;first|refine a0A rfl ?_|(refine oD 13 ?_;refine alA rfl _ rfl rfl (HasI.val hv).c ?_)|refine yO ?_|(refine yC ?_ ?_<;>intro hc)|(refine yN hK ?_;clear hK K))|refine wG ?_|(refine yR ?_;intro K hK)|fail)
  exact aiA rfl rfl he (λ u w5 e5 hu=>by obtain rfl:u=_:=hu;exact OwnP.ext ho e5)
theorem znA {w:World} {v:Value} {ids:List Int} {n:Nat} (h:SlI .i64 w v ids) (hl:ids.length≤300) (hn:n≤100):Fc Tryz.prog 30 #[v,.int .i64 n] w (Ret w (.pred (b4A w.heap.size tB .u8 (buA (λ i=>erA (idP ids i)) n)))):=by
 have h8:∀ i:Nat,nk (idP ids i)≤8:=λ i=>id8 hl i
 have hlh:=h.len;refine Fc.of (args:=[_,_]) Tryz.func30 rfl rfl Tryz.ntmps30 nZ ?_
 repeat' (first|(refine yL ?_;first|refine a0A rfl ?_|refine yO ?_|(refine yC ?_ ?_<;>intro hc)|(refine yN hK ?_;clear hK K))|refine wG ?_|(refine yR ?_;intro K hK)|fail)
 refine acA (ι:=Nat × Value) (λ j=>[(0,.val v),(1,.val (.int .i64 n)),(5,.val j.2),(6,.val (.int .i64 j.1))])
  (λ j w'=>Ext w w'∧j.1≤n∧OwnI w.heap.size tB .u8 w' j.2 (buA (λ i=>erA (idP ids i)) j.1)) (λ j=>n-j.1)
  (λ w2 e2=>⟨(0,nilS),⟨e2,Nat.zero_le _,OwnI.nil⟩,sZ⟩) ?_
 rintro ⟨i,vb⟩ w1 ⟨he,hi,hB⟩;dsimp only at hi hB ⊢
 by_cases hil:i<n
 ·have hrw:∀ w',Ext w1 w'→Fc Tryz.prog 31 #[v,.int .i64 ((i:Int)),.int .i64 i] w' (Ret w' (.pred (kbA w'.heap.size tSp .u64 (spL (idP ids i) TOP)))):=λ w' e=>by
   have:=naA (h.ext (he.trans e)) ((i:Int)) i oZ;rw [ncA] at this;exact this
  have hwr:∀ w' u,SlP .u64 w' u (spL (idP ids i) TOP)→w.heap.size≤w'.heap.size→Fc Tryz.prog 19 #[u] w' (Ret w' (.pred (b4A w.heap.size tB .u8 (erA (idP ids i))))):=λ w' u hu hs=>(uyA hu (h8 i)).mono (a9A hs)
  have hl1:=jqA (ps:=λ i=>idP ids i) h8 i;have hl2:=nmA (h8 i);have hcat:buA (λ i=>erA (idP ids i)) (i+1)=buA (λ i=>erA (idP ids i)) i++erA (idP ids i):=rfl;obtain ⟨B,hBB⟩:∃ B,B=buA (λ i=>erA (idP ids i)) i:=⟨_,rfl⟩;obtain ⟨D,hD⟩:∃ D,D=erA (idP ids i):=⟨_,rfl⟩;rw [← hBB] at hB hcat hl1;rw [← hD] at hwr hcat hl2
  repeat' (first|(refine yL ?_;first|refine a0A rfl ?_|(refine oD 18 ?_;refine a3A (hK _ _ (ayA 17 rfl (λ vd wd ed hd=>?_)));clear hK K;replace hd:OwnI w.heap.size tB .u8 wd vd D:=hd;refine asA rfl nZ esA rfl (OwnI.ext hB ed) rfl (HasI.ownV hd).c c4A (by unfold maxLen;omega) oZ (λ v' wu wv eu ho hfr hlc=>?_);obtain ⟨x3,hn3⟩:=psA (OwnI.ext hB ed) (he.trans ed) eu ho hfr hlc;refine adA kZ (λ K hK=>?_))|refine yO ?_|(refine yC ?_ ?_<;>intro hc)|(refine yV ?_;first|(refine oC 31 ?_;refine b8A (f:=31) rfl rfl rfl rfl rfl  (.pred (kbA w.heap.size tSp .u64 (spL (idP ids i) TOP))) (by intro u1 u2 u3 w e hu1 hu2 hu3;(try obtain rfl:u1=_:=hu1);(try obtain rfl:u2=_:=hu2);(try obtain rfl:u3=_:=hu3);exact (hrw _ e).mono (enA (he.trans e).size rfl)) ?_)|(refine oC 19 ?_;refine a2A (f:=19) rfl rfl rfl  (.pred (b4A w.heap.size tB .u8 D)) (by intro u1 w e hu1;(try obtain rfl:u1=_:=hu1);exact hwr _ _ (OwnP.slP hu1) (he.trans e).size) ?_))|(refine yN hK ?_;clear hK K))|refine wG ?_|(refine yR ?_;intro K hK)|fail)
  exact a5A (i+1,v') (λ w5 e5=>⟨x3.trans e5,hil,by dsimp only;rw [hcat];exact OwnI.ext hn3 e5⟩) eZ sZ
 ·obtain rfl:i=n:=oZ
  repeat' (first|(refine yL ?_;first|refine a0A rfl ?_|refine yO ?_|(refine yC ?_ ?_<;>intro hc)|(refine yN hK ?_;clear hK K))|refine wG ?_|(refine yR ?_;intro K hK)|fail)
  exact aiA rfl rfl he (λ u w5 e5 hu=>by obtain rfl:u=_:=hu;exact OwnI.ext hB e5)
theorem y5A {w:World} {v:Value} {ids:List Int} (h:SlI .i64 w v ids) (many:Int) (hl:ids.length≤300) (hm:many≤60):Fc Tryz.prog 28 #[v,.int .i64 many] w (Ret w (.val (.bool (niA ids many)))):=by
 have hmx:=ldA ids many
 by_cases hn:many<0
 ·have hf:niA ids many=false:=Bool.eq_false_iff.2 λ h'=>by have:=(hmx.1 h').1;omega
  rw [hf];refine Fc.of (args:=[_,_]) Tryz.func28 rfl rfl Tryz.ntmps28 nZ ?_
  repeat' (first|(refine yL ?_;first|refine a0A rfl ?_|refine yO ?_|(refine yC ?_ ?_<;>intro hc)|(refine yN hK ?_;clear hK K))|refine wG ?_|(refine yR ?_;intro K hK)|fail)
  all_goals exact afA rfl rfl (Ext.refl _) rfl
 ·refine Fc.of (args:=[_,_]) Tryz.func28 rfl rfl Tryz.ntmps28 nZ ?_
  repeat' (first|(refine yL ?_;first|refine a0A rfl ?_|(refine cpA ?_;refine alA rfl _ rfl rfl (HasI.val h).c ?_)|refine yO ?_|(refine yC ?_ ?_<;>intro hc)|(refine yN hK ?_;clear hK K))|refine wG ?_|(refine yR ?_;intro K hK)|fail)
  refine acA (ι:=Nat) (λ i=>[(0,.val v),(1,.val (.int .i64 many)),(5,.val (.int .i64 i))]) (λ i w'=>i≤ids.length∧Ext w w'∧∀ j,j<i→0≤ids.getD j 0∧ids.getD j 0<many) (λ i=>ids.length-i)
   (λ w5 e5=>⟨0,⟨Nat.zero_le _,e5,λ j hj=>absurd hj (Nat.not_lt_zero _)⟩,sZ⟩) ?_
  rintro i w1 ⟨hi,he,hall⟩;have hv:=h.ext he
  by_cases hil:i<ids.length
  ·by_cases hin:0≤ids.getD i 0∧ids.getD i 0<many
   ·obtain ⟨X,hX⟩:∃ X,X=ids.getD i 0:=⟨_,rfl⟩
    have hin':=hin;rw [← hX] at hin';obtain ⟨g1,g2⟩:=hin'
    repeat' (first|(refine yL ?_;first|refine a0A rfl ?_|(refine cpA ?_;refine alA rfl _ rfl rfl (HasI.val hv).c ?_)|(refine oD 25 ?_;refine abA rfl _ rfl (λ _=>rfl) rfl (HasI.val hv) rfl hil ?_;rw [← hX])|(refine oD 31 ?_;refine abA rfl _ rfl (λ _=>rfl) rfl (HasI.val hv) rfl hil ?_;rw [← hX])|refine yO ?_|(refine yC ?_ ?_<;>intro hc)|(refine yN hK ?_;clear hK K))|refine wG ?_|(refine yR ?_;intro K hK)|fail)
    refine a5A (i+1) (λ w5 e5=>⟨hil,he.trans e5,λ j hj=>?_⟩) oZ sZ
    by_cases e:j=i
    ·rw [e];exact hin
    ·exact hall j oZ
   ·have hf:niA ids many=false:=Bool.eq_false_iff.2 λ h'=>hin ((hmx.1 h').2.2.2 _ (by rw [List.getD_eq_getElem?_getD,List.getElem?_eq_getElem hil];exact List.getElem_mem hil))
    rw [hf];obtain ⟨X,hX⟩:∃ X,X=ids.getD i 0:=⟨_,rfl⟩;rw [← hX] at hin;have hc:X<0∨(0≤X∧many≤X):=oZ
    rcases hc with hc|⟨hc,hc2⟩
    all_goals
     repeat' (first|(refine yL ?_;first|refine a0A rfl ?_|(refine cpA ?_;refine alA rfl _ rfl rfl (HasI.val hv).c ?_)|(refine oD 25 ?_;refine abA rfl _ rfl (λ _=>rfl) rfl (HasI.val hv) rfl hil ?_;rw [← hX])|(refine oD 31 ?_;refine abA rfl _ rfl (λ _=>rfl) rfl (HasI.val hv) rfl hil ?_;rw [← hX])|refine yO ?_|(refine yC ?_ ?_<;>intro hc)|(refine yN hK ?_;clear hK K))|refine wG ?_|(refine yR ?_;intro K hK)|fail)
     all_goals exact afA rfl rfl he rfl
  ·obtain rfl:i=ids.length:=oZ
   have ht:niA ids many=true:=hmx.2 ⟨by omega,by omega,by omega,λ x hx=>by
    obtain ⟨j,hj,rfl⟩:=List.getElem_of_mem hx;have:=hall j hj;rw [List.getD_eq_getElem?_getD,List.getElem?_eq_getElem hj] at this;exact this⟩
   rw [ht]
   repeat' (first|(refine yL ?_;first|refine a0A rfl ?_|(refine cpA ?_;refine alA rfl _ rfl rfl (HasI.val hv).c ?_)|refine yO ?_|(refine yC ?_ ?_<;>intro hc)|(refine yN hK ?_;clear hK K))|refine wG ?_|(refine yR ?_;intro K hK)|fail)
   all_goals exact afA rfl rfl he rfl
theorem appI {kd:IntKind} {e:Nat} {w w1 wu wv:World} {v v':Value} {a b:List Int} (h:OwnI w.heap.size e kd w1 v a) (x:Ext w w1) (eu:Ext w1 wu) (ho:LA.Own 0 e 1 wv v' (a.length+b.length) (a.map (Value.int kd)++b.map (Value.int kd))) (hfr:Fr (λ k=>v.ownBlock=some k) wu wv) (hlc:LocR wu v v') :
 Ext w wv∧OwnI w.heap.size e kd wv v' (a++b):=by
 have hx:=x.trans eu;refine ⟨Fr.ext hx hfr (λ k hk=>(Own.lt h k hk).1),?_⟩;unfold OwnI;rw [List.map_append,List.length_append];exact Own.rebase ho (hlc.ge (λ k hk=>(Own.lt h k hk).1) hx.size)
theorem IX.offG {R:Nat→Prop} {t n:Nat} {ps:Nat→Nat→Bool} {w w':World} {v:Value} (h:IX t n ps w v) (hf:Fr R w w') (hR:∀ k,R k→∃ cur e,w.heap[k]?=some (.cells cur e (0,0))∧OffT e∧t≠e∧tPs≠e):IX t n ps w' v:=by
 obtain ⟨b,sv,ptrs,h1,h2,h3⟩:=h;refine ⟨b,sv,ptrs,h1,hf.at h2 (λ hk=>?_),hf.own h3.own (λ k hk hr=>?_),λ i hi=>(h3.at_ i hi).off hf (λ k hk=>?_)⟩
 ·obtain ⟨cur,e,hc,-,h4,-⟩:=hR b hk
  rw [h2] at hc;cases hc;exact h4 rfl
 ·obtain ⟨cur,e,hc,-,-,h4⟩:=hR k hr
  exact Own.apart h3.own hc h4 hk
 ·obtain ⟨cur,e,hc,h4,-⟩:=hR k hk
  exact ⟨cur,e,hc,h4⟩
theorem Fr.one {w:World} {gb:Nat} {cs:Array Value}:Fr (λ k=>k=gb) w (w.setRow gb cs):=Fr.setRow (R:=λ k=>k=gb) (Fr.of (Ext.refl _)) rfl _
theorem sp_no (T:Nat):spL (λ _=>false) T=[]:=(egA (Nat.zero_le T) (λ _ _ _=>rfl)).trans rfl
end Go.Proofs.YtbokphkfojijoaaGreatDoor.Pt
end
