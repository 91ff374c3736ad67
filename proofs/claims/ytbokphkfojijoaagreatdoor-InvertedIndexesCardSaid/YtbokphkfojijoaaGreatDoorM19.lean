import Derived.Laws.StructEq
import Derived.Test.YtbokphkfojijoaaGreatDoorM13
import Derived.Test.YtbokphkfojijoaaGreatDoorM14
import Derived.Test.YtbokphkfojijoaaGreatDoorM16
import Derived.Test.YtbokphkfojijoaaGreatDoorM18
set_option linter.unusedSimpArgs false
set_option linter.unusedVariables false
set_option maxRecDepth 3000
set_option maxHeartbeats 16000000
section
namespace Go.Proofs.YtbokphkfojijoaaGreatDoor
open Go.LA Go.ArrP Go.RowKit
variable {A B:Nat→Prop}
def rng (p:Nat→Bool) (lo hi y:Nat):Bool:=p y || (decide (lo≤y) && decide (y<hi))
theorem ktA (p:Nat→Bool) {lo hi:Nat} (h:hi≤lo):rng p lo hi=p:=by
 funext y;unfold rng
 by_cases h1:lo≤y
 ·rw [decide_eq_false (show ¬ y<hi by omega),Bool.and_false,Bool.or_false]
 ·rw [decide_eq_false h1,Bool.false_and,Bool.or_false]
theorem ynA (p:Nat→Bool) {lo0 lo e k:Nat} (h0:lo0≤lo) (h1:lo<e) (hk1:k*65536≤lo) (hk2:e≤(k+1)*65536) {a c:Int} (ha:a=(lo:Int)-(k:Int)*65536) (hc:c=(e:Int)-(k:Int)*65536) :
 upd (rng p lo0 lo) k (two (λ x y=>x || y) (blk (rng p lo0 lo) k) (flp (λ _=>false) a c))=rng p lo0 e:=by
 funext y
 have hdm:=Nat.div_add_mod y 65536;have hml:=Nat.mod_lt y (show 0<65536 by decide);unfold upd
 by_cases hy:y / 65536=k
 ·rw [if_pos hy]
  have hyy:k*65536+y % 65536=y:=by rw [← hy,Nat.mul_comm];exact hdm
  have h2:blk (rng p lo0 lo) k (y % 65536)=rng p lo0 lo y:=by rw [cwA hml,hyy]
  have h3:flp (λ _=>false) a c (y % 65536)=(decide (lo≤y) && decide (y<e)):=by
   unfold flp two hvA ebA;rw [decide_eq_true hml,Bool.and_true];have e1:decide (a≤((y % 65536:Nat):Int))=decide (lo≤y):=decide_eq_decide.2 oZ;have e2:decide (((y % 65536:Nat):Int)<c)=decide (y<e):=decide_eq_decide.2 oZ;rw [e1,e2];cases decide (lo≤y) <;> cases decide (y<e) <;> rfl
  show (blk (rng p lo0 lo) k (y % 65536) || flp (λ _=>false) a c (y % 65536))=_
  rw [h2,h3];unfold rng;rw [Bool.or_assoc];congr 1;rw [Bool.eq_iff_iff];simp only [Bool.or_eq_true,Bool.and_eq_true,decide_eq_true_eq];omega
 ·rw [if_neg hy]
  unfold rng;congr 1;rw [Bool.eq_iff_iff];simp only [Bool.and_eq_true,decide_eq_true_eq];have hks:=feA k;omega
theorem a9B {p:Nat→Bool} {lo hi:Int} {i:Nat} (h1:lo≤(i:Int)) (h2:(i:Int)<hi) (h3:i<65536):flp p lo hi i=!p i:=by
 unfold flp two hvA ebA;rw [decide_eq_true h1,decide_eq_true h2,decide_eq_true h3];cases p i <;> rfl
theorem aiB {q:Nat→Bool} {r n:Nat} (h:r<n) (hr:q r=true):0<cnt q n:=by
 have h1:cnt q (r+1)=cnt q r+1:=by simp only [cnt,hr,if_true]
 have h2:=cnt_mono q (m:=r+1) n h;omega
theorem RS.fsh {w:World} {b:Nat} {kv lv:Value} {p:Nat→Bool} (h:RS A w b kv lv p) (hA:Fsh A w):Fsh (λ k=>A k∧kv.ownBlock≠some k) w:=λ k hk=>⟨hA k hk,λ hb=>by have:=h.lt (.inr (.inl hb));omega⟩
theorem RS.nset {w:World} {b:Nat} {kv lv:Value} {p:Nat→Bool} (h:RS A w b kv lv p):NSet TT (λ k=>A k∧kv.ownBlock≠some k) w (.pointer (some ⟨b,0,none⟩)) p:=.inr ⟨b,kv,lv,rfl,h.self,λ _ _=>trivial⟩
theorem Mut.from {w w1 w':World} {b:Nat} {kv lv:Value} {p':Nat→Bool} (e:Ext w w1) (h:Mut A w1 b kv lv p' w'):Mut A w b kv lv p' w':=by
 obtain ⟨kv',lv',h1,h2,h3,h4⟩:=h;exact ⟨kv',lv',h1,(Fr.of e).trans h2,h3.le e.size,h4.le e.size⟩
theorem Mut.ext {w w1 w':World} {b:Nat} {kv lv:Value} {p':Nat→Bool} (h:Mut A w b kv lv p' w1) (e:Ext w1 w'):Mut A w b kv lv p' w':=by
 obtain ⟨kv',lv',h1,h2,h3,h4⟩:=h;exact ⟨kv',lv',h1.ext e,h2.trans (Fr.of e),h3,h4⟩
theorem l2A {w:World} {b:Nat} {kv lv kv' lv':Value} {base:Nat} (hb:∀ k,onw b kv lv k→base≤k) (hs:base≤w.heap.size) (h1:LocR w kv kv') (h2:LocR w lv lv') (k:Nat) (hk:onw b kv' lv' k):base≤k:=by
 rcases hk with rfl|hk|hk
 ·exact hb _ (.inl rfl)
 ·exact h1.ge (λ k hk=>hb k (.inr (.inl hk))) hs k hk
 ·exact h2.ge (λ k hk=>hb k (.inr (.inr hk))) hs k hk
theorem Mut.then {w w1 w':World} {b:Nat} {kv lv kv1 lv1:Value} {p':Nat→Bool} (hf:Fr (onw b kv lv) w w1) (h1:LocR w kv kv1) (h2:LocR w lv lv1) (h:Mut A w1 b kv1 lv1 p' w'):Mut A w b kv lv p' w':=by
 obtain ⟨kv',lv',g1,g2,g3,g4⟩:=h;refine ⟨kv',lv',g1,⟨g2.os.trans hf.os,g2.tape.trans hf.tape,g2.output.trans hf.output,Nat.le_trans hf.size g2.size,λ k hk hn=>?_⟩,h1.trans g3 hf.size,h2.trans g4 hf.size⟩;rw [g2.block k (Nat.lt_of_lt_of_le hk hf.size) (λ h=>hn ?_),hf.block k hk hn]
 rcases h with h|h|h
 ·exact .inl h
 ·rcases h1 with h1|h1
  ·exact .inr (.inl (h1▸h))
  ·have:=h1 k h;omega
 ·rcases h2 with h2|h2
  ·exact .inr (.inr (h2▸h))
  ·have:=h2 k h;omega
theorem qlA {w0 w:World} {b:Nat} {kv lv:Value} {p:Nat→Bool} (h0:Ext w0 w) (hT:Tab w0) (hB:∀ k,onw b kv lv k→w0.heap.size≤k) (hS:RS A w b kv lv p) (hA:Fsh A w) {lo hi:Nat} (hlo:lo<18446744073709551616) (hhi:hi<18446744073709551616) :
 Fc Tryz.prog 33 #[.pointer (some ⟨b,0,none⟩),.int .u64 lo,.int .u64 hi] w (λ en w'=>en=.returned (.tuple #[])∧Mut A w b kv lv (rng p lo (min hi TOP)) w'):=by
 have htop:=epA;obtain ⟨H,hH⟩:∃ H,H=min hi TOP:=⟨_,rfl⟩;have hH2:min (hi:Int) 4294967296=(H:Int):=oZ;have hH3:H≤4294967296:=oZ;rw [← hH];clear hH htop;refine Fc.of (args:=[_,_,_]) Tryz.func33 rfl rfl Tryz.ntmps33 nZ ?_
 repeat' (first|(refine yL ?_;first|refine a0A rfl ?_|(refine dtA rfl rfl rfl ?_;rw [hH2])|refine yO ?_|(refine yC ?_ ?_<;>intro hc)|(refine yN hK ?_;clear hK K))|refine wG ?_|(refine yR ?_;intro K hK)|fail)
 refine abA (ι:=Nat) (λ i=>[(0,.val (.pointer (some ⟨b,0,none⟩))),(1,.val (.int .u64 i)),(2,.val (.int .u64 H))]) (λ i w'=>lo≤i∧(i=lo∨i≤H)∧Mut A w b kv lv (rng p lo i) w') (λ i=>H-i)
  (λ w2 e2=>⟨lo,⟨Nat.le_refl _,.inl rfl,by rw [ktA p (Nat.le_refl _)];exact ⟨kv,lv,hS.ext e2,Fr.of e2,LocR.refl,LocR.refl⟩⟩,sZ⟩) ?_
 rintro i w1 ⟨hi0,hi1,kv1,lv1,hS1,hF1,hl1,hl2⟩;have hB1:=l2A hB h0.size hl1 hl2;have h01:Ext w0 w1:=Fr.ext h0 hF1 hB;have hA1:Fsh A w1:=λ k hk=>hA k (Nat.le_trans hF1.size hk)
 have hF:=hS1.fsh hA1;have hT1:=hT.ext h01
 by_cases hlt:i<H
 ·obtain ⟨k,hk⟩:∃ k,k=i / 65536:=⟨_,rfl⟩
  obtain ⟨e0,he0⟩:∃ e0,e0=min H ((k+1)*65536):=⟨_,rfl⟩;have hks:=feA k;have k1:k*65536≤i:=oZ;have k2:i<k*65536+65536:=oZ;have k3:k<65536:=oZ;have e1:(i:Int) / 65536=(k:Int):=oZ;have e3:IntKind.u64.wrap ((((i:Int) / 65536)+1)*65536)=((k*65536+65536:Nat):Int):=by rw [e1,dbA .u64 _ fZ];omega
  have e4:IntKind.u64.wrap ((k:Int)*65536)=((k*65536:Nat):Int):=by rw [dbA .u64 _ fZ];omega
  have e5:min (H:Int) ((k*65536+65536:Nat):Int)=(e0:Int):=oZ;have hup:=ynA p (lo0:=lo) (lo:=i) (e:=e0) (k:=k) hi0 oZ k1 oZ (a:=(i:Int)-((k*65536:Nat):Int)) (c:=(e0:Int)-((k*65536:Nat):Int)) oZ oZ;obtain ⟨g,hg⟩:∃ g,g=flp (λ _=>false) ((i:Int)-((k*65536:Nat):Int)) ((e0:Int)-((k*65536:Nat):Int)):=⟨_,rfl⟩;obtain ⟨q,hq⟩:∃ q,q=two (λ x y=>x || y) (blk (rng p lo i) k) g:=⟨_,rfl⟩;rw [← hg,← hq] at hup;have f1:∀ w',Ext w1 w'→∀ u,Cn (λ k=>A k∧kv1.ownBlock≠some k) w' u (λ _=>false) 1→Fc Tryz.prog 78 #[u,.int .i64 ((i:Int)-((k*65536:Nat):Int)),.int .i64 ((e0:Int)-((k*65536:Nat):Int))] w' (Ret w' (.pred (cnP (λ k=>A k∧kv1.ownBlock≠some k) g (avA g)))) :=
   λ w' e u hu=>by rw [hg];exact crB hu (hT1.ext e) (hF.ext e) _ _ oZ oZ
  have f2:∀ w',Ext w1 w'→∀ u v,Cn (λ k=>A k∧kv1.ownBlock≠some k) w' u (blk (rng p lo i) k) (avA (blk (rng p lo i) k))→Cn (λ k=>A k∧kv1.ownBlock≠some k) w' v g (avA g)→Fc Tryz.prog 77 #[u,v] w' (Ret w' (.pred (cnP (λ k=>A k∧kv1.ownBlock≠some k) q (avA q)))) :=
   λ w' e u v hu hv=>by rw [hq];exact d4B hu hv (hT1.ext e) (hF.ext e)
  have hq1:∀ i,65536≤i→q i=false:=λ j hj=>by
   rw [hq,hg];unfold two flp two hvA ebA;rw [efA oZ,decide_eq_false (show ¬ j<65536 by omega),Bool.and_false];rfl
  have hq2:0<cnt q 65536:=by
   refine aiB (r:=i-k*65536) oZ ?_
   rw [hq,hg];unfold two;rw [a9B oZ oZ oZ];simp
  have f3:∀ w',Ext w1 w'→∀ u,Cn (λ k=>A k∧kv1.ownBlock≠some k) w' u q (avA q)→_:=λ w' (e:Ext w1 w') u hu=>put_s (hS1.ext e) (vc:=u) k3 hu hq1 hq2
  rw [hup] at f3;clear hg hup hq hq1 hq2
  repeat' (first|(refine yL ?_;first|refine a0A rfl ?_|(refine oEq ?_;refine bqA (c:=.bool true) rfl rfl rfl (λ _=>rfl) ?_)|(refine oB .shr ?_;refine g2A rfl rfl rfl dZ dZ ?_;rw [show (2:Int) ^ Int.toNat 16=65536 by decide])|(refine oD 23 ?_;refine gwA rfl rfl rfl dZ dZ ?_;rw [show (2:Int) ^ Int.toNat 16=65536 by decide,e3])|(refine oD 30 ?_;refine gwA rfl rfl rfl dZ dZ ?_;rw [show (2:Int) ^ Int.toNat 16=65536 by decide,e1,e4])|(refine oD 27 ?_;rw [e1];refine pxA (n:=(k:Int)) rfl rfl rfl rfl fZ ?_)|(refine dtA rfl rfl rfl ?_;rw [e5])|(refine oAl ?_;refine a2A (hK _ _ (jvA rfl dZ (λ _=>rfl) (λ b9 w9 x9 hb9 h9=>?_)));clear hK K;have c9:Cn (λ k=>A k∧kv1.ownBlock≠some k) w9 (.agg #[.int .u8 0,nilS,nilS,nilS]) (λ _=>false) 1:=Cn.zero;refine aeA kZ (λ K hK=>?_))|(refine oLd ?_;refine bwA (n:=4) rfl h9 rfl rfl (λ _=>rfl) (λ _=>rfl) ?_)|(refine oC 75 ?_;refine a2A (hK _ _ rfl (awA 46 rfl (λ v17 w17 e17 h17=>d5A rfl dZ rfl rfl rfl rfl (λ v w'=>v=.tuple #[]∧Mut A w b kv lv (rng p lo e0) w') (λ w8 e8=>(f3 _ (x9.trans (e17.trans e8)) _ (Cn.ext h17 e8)).mono λ en w' h=>⟨_,h.1,rfl,(h.2.from (x9.trans (e17.trans e8))).then hF1 hl1 hl2⟩) (λ v w2 hm=>?_))));clear hK K;obtain ⟨rfl,hm⟩:=hm)|refine yO ?_|(refine yC ?_ ?_<;>intro hc)|(refine yV ?_;first|(refine oC 76 ?_;refine a4A (f:=76) rfl rfl rfl rfl  (.pred (cnP (λ k=>A k∧kv1.ownBlock≠some k) (blk (rng p lo i) k) (avA (blk (rng p lo i) k)))) (by intro u1 u2 w e hu1 hu2;(try obtain rfl:u1=_:=hu1);(try obtain rfl:u2=_:=hu2);exact vzA (hS1.ext (x9.trans e)).nset k3) ?_)|(refine oC 78 ?_;refine b8A (f:=78) rfl rfl rfl rfl rfl  (.pred (cnP (λ k=>A k∧kv1.ownBlock≠some k) g (avA g))) (by intro u1 u2 u3 w e hu1 hu2 hu3;(try obtain rfl:u1=_:=hu1);(try obtain rfl:u2=_:=hu2);(try obtain rfl:u3=_:=hu3);exact f1 _ (x9.trans e) _ (c9.ext e)) ?_)|(refine oC 77 ?_;refine a4A (f:=77) rfl rfl rfl rfl  (.pred (cnP (λ k=>A k∧kv1.ownBlock≠some k) q (avA q))) (by intro u1 u2 w e hu1 hu2;(try obtain rfl:u1=_:=hu1);(try obtain rfl:u2=_:=hu2);exact f2 _ (x9.trans e) _ _ hu1 hu2) ?_))|(refine yN hK ?_;clear hK K))|(refine oCX ?_;first|refine cjA 16 kZ kZ kZ (λ K hK=>?_))|refine wG ?_|(refine yR ?_;intro K hK)|fail)
  exact a5A e0 (λ w5 e5=>⟨by omega,by omega,hm.ext e5⟩) oZ sZ
 ·have hmut:Mut A w b kv lv (rng p lo H) w1:=by
   by_cases e:i=H
   ·exact e▸⟨kv1,lv1,hS1,hF1,hl1,hl2⟩
   ·have:i=lo:=oZ
    rw [show rng p lo H=rng p lo i by rw [ktA p (show H≤lo by omega),ktA p (show i≤lo by omega)]];exact ⟨kv1,lv1,hS1,hF1,hl1,hl2⟩
  repeat' (first|(refine yL ?_;first|refine a0A rfl ?_|(refine oEq ?_;refine bqA (c:=.bool true) rfl rfl rfl (λ _=>rfl) ?_)|refine yO ?_|(refine yC ?_ ?_<;>intro hc)|(refine yN hK ?_;clear hK K))|refine wG ?_|(refine yR ?_;intro K hK)|fail)
  exact bnA rfl (λ w5 e5=>⟨rfl,hmut.ext e5⟩) (.inl rfl)
end Go.Proofs.YtbokphkfojijoaaGreatDoor
end
section
namespace Go.Proofs.YtbokphkfojijoaaGreatDoor
open Go.LA Go.ArrP Go.RowKit
theorem bsB {a b:List Sp} (hl:a.length=b.length) (h:∀ k,k<a.length→(a.getD k (0,0)).1=(b.getD k (0,0)).1∧(a.getD k (0,0)).2=(b.getD k (0,0)).2):a=b :=
 List.ext_getElem hl λ i h1 h2=>by
  obtain ⟨e1,e2⟩:=h i h1;have g1:a.getD i (0,0)=a[i]:=by simp [List.getD,h1]
  have g2:b.getD i (0,0)=b[i]:=by simp [List.getD,h2]
  rw [g1,g2] at e1 e2;exact Prod.ext e1 e2
theorem acB (f m f' m':Int) (w:World):(Op.equalIn 10000 68 (spV .u64 (f,m)) (spV .u64 (f',m'))).run Tryz.prog w=.ok (decide (f=f') && decide (m=m')) w:=by
 unfold spV;rw [run_equalIn_agg w 9999 68 _ _ kZ kZ];have hp:∀ (f m:Int) (w:World),(part 61 #[.int .u64 f,.int .u64 m] 0).run Tryz.prog w=.ok (.int .u64 f) w:=λ f m w=>by kernel_rfl
 have hq:∀ (f m:Int) (w:World),(part 61 #[.int .u64 f,.int .u64 m] 1).run Tryz.prog w=.ok (.int .u64 m) w:=λ f m w=>by kernel_rfl
 have he:∀ (a b:Int) (w:World),(Op.equalIn 9999 61 (.int .u64 a) (.int .u64 b)).run Tryz.prog w=.ok (a == b) w:=λ a b w=>run_equalIn_int w 9998 _ _ _ a b (by kernel_rfl:Tryz.prog.underlying 61=some (.int .u64))
 simp only [Program.fieldsOf,Tryz.underlying68];simp only [Op.eqFields,Sem.run_bind,Sem.run_ite,hp,hq,he,Result.andThen_ok,Sem.run_pure]
 by_cases h1:f=f' <;> by_cases h2:m=m' <;> simp [h1,h2]
theorem y2A (f m f' m':Int) (x y:Operand) (w:World):(do eqGuard .neq 68 x y (spV .u64 (f,m)) (spV .u64 (f',m'));binOp .neq 68 (spV .u64 (f,m)) (spV .u64 (f',m')):Sem Value).run Tryz.prog w=.ok (.bool (!(decide (f=f') && decide (m=m')))) w:=by
 have h:=acB f m f' m' w;unfold spV at h ⊢;rw [Sem.run_bind,run_eqGuard_agg w _ _ _ _ _ _ kZ];simp only [Result.andThen_ok,run_neq_struct,h]
theorem rjA (w:World) (v u:Value) (a b:List Sp) (h:SlP .u64 w v a) (h':SlP .u64 w u b):Fc Tryz.prog 16 #[v,u] w (Ret w (.val (.bool (decide (a=b))))):=by
 have hl:=h.len;have hl':=h'.len;refine Fc.of (args:=[_,_]) Tryz.func16 rfl rfl Tryz.ntmps16 nZ ?_
 by_cases hlen:a.length=b.length
 ·skip
  repeat' (first|(refine yL ?_;first|refine a0A rfl ?_|(refine oI ?_;refine buA rfl _ rfl (λ _=>rfl) rfl (by first|exact HasP.val (by assumption)|exact HasP.own|exact HasP.ownV (by assumption)) rfl oZ ?_)|(refine oLt 68 ?_;refine auA rfl (λ _=>rfl) (λ _=>rfl) rfl ?_)|(refine cnA ?_;refine ccA rfl _ rfl rfl (by first|exact HasP.val (by assumption)|exact HasP.own|exact HasP.ownV (by assumption)) ?_)|refine yO ?_|(refine yC ?_ ?_<;>intro hc)|(refine yN hK ?_;clear hK K))|refine wG ?_|(refine yR ?_;intro K hK)|fail)
  refine brA (ι:=Nat) (λ k=>[(0,.val v),(1,.val u),(5,.val (.int .i64 k))]) (λ k=>k≤a.length∧∀ i,i<k→(a.getD i (0,0)).1=(b.getD i (0,0)).1∧(a.getD i (0,0)).2=(b.getD i (0,0)).2) (λ k=>a.length-k) 0 ⟨Nat.zero_le _,λ i h1=>by omega⟩ sZ ?_
  rintro k ⟨hk,hin⟩
  by_cases hkl:k<a.length
  ·by_cases he:(a.getD k (0,0)).1=(b.getD k (0,0)).1∧(a.getD k (0,0)).2=(b.getD k (0,0)).2
   ·have hb:(!(decide ((a.getD k (0,0)).1=(b.getD k (0,0)).1) && decide ((a.getD k (0,0)).2=(b.getD k (0,0)).2)))=false:=by rw [decide_eq_true he.1,decide_eq_true he.2];rfl
    repeat' (first|(refine yL ?_;first|refine a0A rfl ?_|(refine bqA (c:=.bool false) rfl rfl rfl (λ w=>(y2A (a.getD k (0,0)).1 (a.getD k (0,0)).2 (b.getD k (0,0)).1 (b.getD k (0,0)).2 _ _ w).trans (by rw [hb])) ?_)|(refine oI ?_;refine buA rfl _ rfl (λ _=>rfl) rfl (by first|exact HasP.val (by assumption)|exact HasP.own|exact HasP.ownV (by assumption)) rfl oZ ?_)|(refine oLt 68 ?_;refine auA rfl (λ _=>rfl) (λ _=>rfl) rfl ?_)|(refine cnA ?_;refine ccA rfl _ rfl rfl (by first|exact HasP.val (by assumption)|exact HasP.own|exact HasP.ownV (by assumption)) ?_)|refine yO ?_|(refine yC ?_ ?_<;>intro hc)|(refine yN hK ?_;clear hK K))|refine wG ?_|(refine yR ?_;intro K hK)|fail)
    refine ceA (k+1) ⟨hkl,λ i h1=>?_⟩ oZ sZ
    by_cases e:i=k
    ·subst e;exact he
    ·exact hin i oZ
   ·have hb:(!(decide ((a.getD k (0,0)).1=(b.getD k (0,0)).1) && decide ((a.getD k (0,0)).2=(b.getD k (0,0)).2)))=true:=by
     by_cases h1:(a.getD k (0,0)).1=(b.getD k (0,0)).1
     ·rw [decide_eq_true h1,decide_eq_false (λ h2=>he ⟨h1,h2⟩)];rfl
     ·rw [decide_eq_false h1];rfl
    have hne:a≠b:=λ e=>he (by rw [e];exact ⟨rfl,rfl⟩)
    repeat' (first|(refine yL ?_;first|refine a0A rfl ?_|(refine bqA (c:=.bool true) rfl rfl rfl (λ w=>(y2A (a.getD k (0,0)).1 (a.getD k (0,0)).2 (b.getD k (0,0)).1 (b.getD k (0,0)).2 _ _ w).trans (by rw [hb])) ?_)|(refine oI ?_;refine buA rfl _ rfl (λ _=>rfl) rfl (by first|exact HasP.val (by assumption)|exact HasP.own|exact HasP.ownV (by assumption)) rfl oZ ?_)|(refine oLt 68 ?_;refine auA rfl (λ _=>rfl) (λ _=>rfl) rfl ?_)|(refine cnA ?_;refine ccA rfl _ rfl rfl (by first|exact HasP.val (by assumption)|exact HasP.own|exact HasP.ownV (by assumption)) ?_)|refine yO ?_|(refine yC ?_ ?_<;>intro hc)|(refine yN hK ?_;clear hK K))|refine wG ?_|(refine yR ?_;intro K hK)|fail)
    exact afA rfl rfl (Ext.refl _) (by rw [decide_eq_false hne])
  ·obtain rfl:k=a.length:=oZ
   have:a=b:=bsB hlen hin
   repeat' (first|(refine yL ?_;first|refine a0A rfl ?_|(refine oI ?_;refine buA rfl _ rfl (λ _=>rfl) rfl (by first|exact HasP.val (by assumption)|exact HasP.own|exact HasP.ownV (by assumption)) rfl oZ ?_)|(refine oLt 68 ?_;refine auA rfl (λ _=>rfl) (λ _=>rfl) rfl ?_)|(refine cnA ?_;refine ccA rfl _ rfl rfl (by first|exact HasP.val (by assumption)|exact HasP.own|exact HasP.ownV (by assumption)) ?_)|refine yO ?_|(refine yC ?_ ?_<;>intro hc)|(refine yN hK ?_;clear hK K))|refine wG ?_|(refine yR ?_;intro K hK)|fail)
   exact afA rfl rfl (Ext.refl _) (by rw [decide_eq_true this])
 ·have hne:a≠b:=λ e=>hlen (by rw [e])
  repeat' (first|(refine yL ?_;first|refine a0A rfl ?_|(refine oI ?_;refine buA rfl _ rfl (λ _=>rfl) rfl (by first|exact HasP.val (by assumption)|exact HasP.own|exact HasP.ownV (by assumption)) rfl oZ ?_)|(refine oLt 68 ?_;refine auA rfl (λ _=>rfl) (λ _=>rfl) rfl ?_)|(refine cnA ?_;refine ccA rfl _ rfl rfl (by first|exact HasP.val (by assumption)|exact HasP.own|exact HasP.ownV (by assumption)) ?_)|refine yO ?_|(refine yC ?_ ?_<;>intro hc)|(refine yN hK ?_;clear hK K))|refine wG ?_|(refine yR ?_;intro K hK)|fail)
  exact afA rfl rfl (Ext.refl _) (by rw [decide_eq_false hne])
end Go.Proofs.YtbokphkfojijoaaGreatDoor
end
section
namespace Go.Proofs.YtbokphkfojijoaaGreatDoor
open Go.LA Go.ArrP Go.RowKit
variable {A B:Nat→Prop}
theorem kpA:El Tryz.prog 22 68 (.agg #[.int .u64 0,.int .u64 0]) 2 16:=⟨rfl,rfl,rfl,by decide⟩
abbrev tSp:Nat:=68
theorem xrA {w:World} {v:Value} {p:Nat→Bool} (h:NSet B A w v p) (hT:Tab w):Fc Tryz.prog 17 #[v] w (Ret w (.pred (k6A w.heap.size tSp .u64 (spL p TOP)))):=by
 obtain ⟨lv,Q,hP,hL⟩:=m5A h;have hnk:=gqA p;have htop:=epA;refine Fc.of (args:=[_]) Tryz.func17 rfl rfl Tryz.ntmps17 nZ ?_
 repeat' (first|(refine yL ?_;first|refine a0A rfl ?_|(refine cnA ?_;refine akA rfl _ rfl rfl (HasC.ownV hP.own) ?_)|refine yO ?_|(refine yC ?_ ?_<;>intro hc)|(refine yV ?_;first|(refine oC 58 ?_;refine a3A (f:=58) rfl rfl rfl  (.val lv) (by intro u1 w e hu1;(try obtain rfl:u1=_:=hu1);exact hL _ e) ?_))|(refine yN hK ?_;clear hK K))|refine wG ?_|(refine yR ?_;intro K hK)|fail)
 refine abA (ι:=Nat × Value) (λ i=>[(0,.val v),(3,.val i.2),(13,.val lv),(14,.val (.int .i64 (nk p))),(15,.val (.int .i64 i.1))]) (λ i w'=>i.1≤nk p∧Ext w w'∧OwnP w.heap.size tSp .u64 w' i.2 (spL p (kp p i.1*65536))) (λ i=>nk p-i.1)
  (λ w2 e2=>⟨(0,.slice none 0 0),⟨Nat.zero_le _,e2,by dsimp only;rw [ecA (p:=p) (Nat.zero_le _) (λ x _ hx=>pbA hx),hmA];exact OwnP.nil⟩,sZ⟩) ?_
 rintro ⟨i,so⟩ w1 ⟨hi,he,ho⟩;dsimp only at hi ho ⊢;have hP1:=hP.ext he
 by_cases hil:i<nk p
 ·obtain ⟨hat,hcn,h1⟩:=hP1.at hil
  obtain ⟨b,kv,rfl,hb,hkv⟩:=hP1.set oZ;obtain ⟨k1,k2,k3,k4⟩:=hrA hil;have hkl:=bpA p;have hown:=hP1.own;have hru:∀ w',Ext w1 w'→_:=λ w' e=>lhA (hcn.ext e) ((hT.ext he).ext e)
  obtain ⟨gE,hE1,hE2,hE3⟩:=q1A hil;have hrun:=λ j hj=>bqB (p:=p) (i:=i) (j:=j) hj
  have hsl:=λ T=>Nat.le_trans (luA p T) (cnt_le p T)
  have hsb:=λ T=>sp_bd p T
  obtain ⟨rs,hrs⟩:∃ rs,rs=aqA (blk p (kp p i)):=⟨_,rfl⟩;have hrl:=dcA (blk p (kp p i));rw [← hrs] at hru hrun hE1 hrl;obtain ⟨K0,hK0⟩:∃ K0,K0=kp p i:=⟨_,rfl⟩;rw [← hK0] at k1 k4 hE3 hrun ho;have e4:IntKind.u64.wrap ((K0:Int)*65536)=((K0*65536:Nat):Int):=by rw [dbA .u64 _ fZ];omega
  repeat' (first|(refine yL ?_;first|refine a0A rfl ?_|(refine oNc ?_;refine a9A rfl rfl ?_)|(refine oF 0 ?_;refine a1A (a':=⟨b,0,none⟩) rfl rfl (λ _=>rfl) ?_)|(refine oF 1 ?_;refine a1A (a':=⟨b,1,none⟩) rfl rfl (λ _=>rfl) ?_)|(refine oLt 27 ?_;refine a6A (c:=kv) rfl (λ _=>rfl) rfl hb rfl ?_)|(refine oLt 92 ?_;refine a6A (c:=lv) rfl (λ _=>rfl) rfl hb rfl ?_)|(refine oI ?_;refine c1A (s:=4) rfl _ rfl (λ _=>rfl) rfl (HasC.ownV hown) rfl i rfl oZ ?_;rw [hat])|(refine oLt 96 ?_;refine auA (cs:=qcs _) rfl (λ _=>rfl) (λ _=>rfl) rfl ?_)|(refine oD 5 ?_;refine a2A (hK _ _ (lnA rfl rfl rfl dZ dZ (λ _=>rfl) (λ _=>rfl) rfl (λ _=>rfl) (λ _=>rfl) rfl h1 (λ bx wx ex hbx hbc=>?_)));clear hK K;replace hb:=ex.block hb;replace hkv:=hkv.ext ex;refine aeA kZ (λ K hK=>?_))|(refine oD 25 ?_;refine acA rfl _ rfl (λ _=>rfl) rfl (HasI.ownV hkv) rfl oZ ?_;rw [k4])|(refine oD 28 ?_;refine gwA rfl rfl rfl dZ dZ ?_;rw [show (2:Int) ^ Int.toNat 16=65536 by decide,e4])|(refine oLt 96 ?_;refine bwA (n:=4) rfl hbc rfl rfl (λ _=>rfl) (λ _=>rfl) ?_)|(refine cnA ?_;refine bvA rfl _ rfl rfl HasR.own ?_)|refine yO ?_|(refine yC ?_ ?_<;>intro hc)|(refine yV ?_;first|(refine oC 59 ?_;refine a3A (f:=59) rfl rfl rfl  (.pred (fdA w.heap.size 105 rs)) (by intro u1 w e hu1;(try obtain rfl:u1=_:=hu1);exact (hru _ (ex.trans e)).mono (b9A (Nat.le_trans he.size (Nat.le_trans ex.size e.size)) rfl)) ?_))|(refine yN hK ?_;clear hK K))|refine wG ?_|(refine yR ?_;intro K hK)|fail)
  refine c2A 30 rfl (λ vr w2 e2 hvr=>?_);have hvr:OwnR w.heap.size 105 w2 vr rs:=hvr;obtain ⟨KB,hKB⟩:∃ KB,KB=K0*65536:=⟨_,rfl⟩;rw [← hKB] at hE3 hrun ho;rw [show ((K0*65536:Nat):Int)=(KB:Int) by rw [hKB]];have hKB2:KB+65536≤4294967296:=oZ;clear hrs hK0 e4 hKB hat hcn h1 hb hkv hru hP1 hP hL h hown;have x12:=ex.trans e2
  refine abA (ι:=Nat × Value) (λ j=>[(0,.val (.pointer (some ⟨b,0,none⟩))),(3,.val j.2),(6,.val (.int .u64 KB)),(13,.val lv),(14,.val (.int .i64 (nk p))),(15,.val (.int .i64 i)),(30,.val vr),(31,.val (.int .i64 rs.length)),(32,.val (.int .i64 j.1))]) (λ j w'=>j.1≤rs.length∧Ext w w'∧OwnR w.heap.size 105 w' vr rs∧OwnP w.heap.size tSp .u64 w' j.2 (spL p (KB+(lfA rs j.1).toNat))) (λ j=>rs.length-j.1)
   (λ w3 e3=>⟨(0,so),⟨Nat.zero_le _,he.trans (x12.trans e3),hvr.ext e3,ho.ext (x12.trans e3)⟩,sZ⟩) ?_
  rintro ⟨j,so⟩ w3 ⟨hj,x03,hr3,ho⟩;dsimp only at hj ho ⊢
  by_cases hjl:j<rs.length
  ·obtain ⟨f,m,g,q1,q2,q3,q4,q5,q6,q7,q8⟩:=hrun j hjl
   rw [q3,Int.toNat_natCast,← q7] at ho;have hst:=mzA (p:=p) (a:=KB+f) (b:=KB+(f+m+1)) oZ (λ x h1 h2=>q8 x h1 h2);have hend:spL p (KB+(lfA rs (j+1)).toNat)=spL p (KB+(f+m+1)):=by rw [q4,Int.toNat_natCast]
   have hSl:=hsl (KB+f);obtain ⟨S,hS⟩:∃ S,S=spL p (KB+f):=⟨_,rfl⟩;rw [← hS] at ho hst hSl;clear hrun hsl hsb hS q3 q4 q7 q8 hE3
   rcases hst with ⟨s1,s2,s3⟩|⟨s1,s3⟩
   ·obtain ⟨gb,cap,cur,rfl,r1,r2,r3,r4,r5,r6⟩:=ho.row s1
    have hgl:S.getD (S.length-1) (0,0)=((S.getD (S.length-1) (0,0)).1,((KB+f:Nat):Int)):=by rw [← s2]
    repeat' (first|(refine yL ?_;first|refine a0A rfl ?_|(refine oD 34 ?_;refine baA rfl _ rfl (λ _=>rfl) rfl (HasR.ownV hr3) rfl hjl ?_;rw [q1,q2])|(refine oLt 105 ?_;refine auA (cs:=[.int .u16 f,.int .u16 m]) rfl (λ _=>rfl) (λ _=>rfl) rfl ?_)|(refine oD 8 ?_;refine a2A (hK _ _ (caA rfl rfl dZ (λ _=>rfl) (λ _=>rfl) (λ _=>rfl) rfl (by intro u hu;simp [Value.cells] at hu;rcases hu with rfl|rfl <;> rfl) (λ bx wx ex hbx hbc=>?_)));clear hK K;replace r2:=ex.block r2;replace ho:=ho.ext ex;refine aeA kZ (λ K hK=>?_))|(refine oD 37 ?_;refine a1A (a':=⟨bx,0,none⟩) rfl rfl (λ _=>rfl) ?_)|(refine oD 42 ?_;refine a1A (a':=⟨bx,0,none⟩) rfl rfl (λ _=>rfl) ?_)|(refine oD 46 ?_;refine a1A (a':=⟨bx,1,none⟩) rfl rfl (λ _=>rfl) ?_)|(refine oLt 31 ?_;refine a6A rfl (λ _=>rfl) rfl hbc rfl ?_)|(refine cnA ?_;refine ccA rfl _ rfl rfl (HasP.ownV ho) ?_)|(refine oD 58 ?_;refine adA rfl rfl rfl fZ ?_;rw [show ((S.length:Int)-1)=((S.length-1:Nat):Int) by omega])|(refine oD 60 ?_;refine ajA (o:=1) rfl rfl (λ _ _=>rfl) ?_)|(refine oD 61 ?_;refine boA rfl (λ _=>rfl) rfl rfl ?_)|(refine oD 67 ?_;refine adA rfl rfl rfl fZ ?_;rw [show ((S.length:Int)-1)=((S.length-1:Nat):Int) by omega])|(refine oD 59 ?_;refine buA rfl _ rfl (λ _=>rfl) rfl (HasP.ownV ho) rfl oZ ?_;rw [s2])|(refine oD 69 ?_;refine bjA (s:=2) rfl rfl (λ _=>rfl) rfl rfl oZ oZ ?_;rw [Int.toNat_natCast,Nat.zero_add])|(refine oD 70 ?_;refine a1A (a':=⟨gb,(S.length-1)*2+1,none⟩) rfl rfl (λ _=>rfl) ?_)|(refine oSt ?_;refine a2A (hK _ _ (bfA rfl rfl rfl r2 (λ _=>rfl) oZ rfl rfl (λ w7 e7=>?_)));clear hK K)|refine yO ?_|(refine yC ?_ ?_<;>intro hc)|(refine yN hK ?_;clear hK K))|refine wG ?_|(refine yR ?_;intro K hK)|fail)
    have hr7:=Own.setRow (hr3.ext (ex.trans e7)) (cur.setIfInBounds ((S.length-1)*2+1) (.int .u64 ((KB:Int)+f+m+1))) (Own.apart (hr3.ext (ex.trans e7)) (e7.block r2) dZ);have ho7:=OwnP.set2 r1 (e7.block r2) r3 r4 r5 r6 (S.length-1) ((KB:Int)+f+m+1);have x7:=(x03.trans (ex.trans e7)).setRow r1 (cur.setIfInBounds ((S.length-1)*2+1) (.int .u64 ((KB:Int)+f+m+1)));rw [show ((KB+(f+m+1):Nat):Int)=(KB:Int)+f+m+1 by omega] at s3;exact a5A (j+1,_) (λ w5 e5=>⟨hjl,x7.trans e5,Own.ext hr7 e5,by dsimp only;rw [hend,s3];exact ho7.ext e5⟩) eZ sZ
   ·have hpair:(((KB+f:Nat):Int),((KB+(f+m+1):Nat):Int))=((KB:Int)+f,(KB:Int)+f+m+1):=Prod.ext oZ eZ
    by_cases h0:S.length=0
    ·skip
     repeat' (first|(refine yL ?_;first|refine a0A rfl ?_|(refine oD 34 ?_;refine baA rfl _ rfl (λ _=>rfl) rfl (HasR.ownV hr3) rfl hjl ?_;rw [q1,q2])|(refine oLt 105 ?_;refine auA (cs:=[.int .u16 f,.int .u16 m]) rfl (λ _=>rfl) (λ _=>rfl) rfl ?_)|(refine oD 8 ?_;refine a2A (hK _ _ (caA rfl rfl dZ (λ _=>rfl) (λ _=>rfl) (λ _=>rfl) rfl (by intro u hu;simp [Value.cells] at hu;rcases hu with rfl|rfl <;> rfl) (λ bx wx ex hbx hbc=>?_)));clear hK K;replace ho:=ho.ext ex;refine aeA kZ (λ K hK=>?_))|(refine oD 37 ?_;refine a1A (a':=⟨bx,0,none⟩) rfl rfl (λ _=>rfl) ?_)|(refine oD 42 ?_;refine a1A (a':=⟨bx,0,none⟩) rfl rfl (λ _=>rfl) ?_)|(refine oD 46 ?_;refine a1A (a':=⟨bx,1,none⟩) rfl rfl (λ _=>rfl) ?_)|(refine oLt 31 ?_;refine a6A rfl (λ _=>rfl) rfl hbc rfl ?_)|(refine cnA ?_;refine ccA rfl _ rfl rfl (HasP.ownV ho) ?_)|(refine oD 58 ?_;refine adA rfl rfl rfl fZ ?_;rw [show ((S.length:Int)-1)=((S.length-1:Nat):Int) by omega])|(refine oD 60 ?_;refine ajA (o:=1) rfl rfl (λ _ _=>rfl) ?_)|(refine oD 61 ?_;refine boA rfl (λ _=>rfl) rfl rfl ?_)|(refine oD 74 ?_;refine dnA (c:=spV .u64 ((KB:Int)+f,(KB:Int)+f+m+1)) rfl rfl rfl (λ w=>run_build w _ _ _ kZ) ?_)|(refine oD 75 ?_;refine ehA rfl kpA rfl rfl dZ ?_)|(refine oD 76 ?_;refine a2A (hK _ _ (arA (n:=S.length) (cs:=e3A .u64 S) rfl dZ kpA rfl ho rfl HasC.own (by intro u hu;simp [spV,Value.cells] at hu;rcases hu with rfl|rfl <;> rfl) (by unfold maxLen;omega) oZ (λ v' wa wb' e' ho' hf hl=>?_)));clear hK K;refine aeA kZ (λ K hK=>?_))|refine yO ?_|(refine yC ?_ ?_<;>intro hc)|(refine yN hK ?_;clear hK K))|refine wG ?_|(refine yR ?_;intro K hK)|fail)
     have x4:=x03.trans (ex.trans e');have ho'':OwnP w.heap.size tSp .u64 wb' v' (S++[((KB:Int)+f,(KB:Int)+f+m+1)]):=by
      unfold OwnP;rw [gnA,List.length_append,List.length_singleton];exact Own.rebase ho' (hl.ge (λ k hk=>(Own.lt ho k hk).1) x4.size)
     have hr':=hf.own (hr3.ext (ex.trans e')) (λ k h1 h2=>by
      obtain ⟨cur,hcur⟩:=azA (hr3.ext (ex.trans e')) h1;exact Own.apart (ho.ext e') hcur dZ h2)
     exact a5A (j+1,v') (λ w5 e5=>⟨hjl,(Fr.ext x4 hf (λ k hk=>(Own.lt ho k hk).1)).trans e5,Own.ext hr' e5,by dsimp only;rw [hend,s3,hpair];exact ho''.ext e5⟩) eZ sZ
    ·have s1':(S.getD (S.length-1) (0,0)).2≠((KB+f:Nat):Int):=s1.resolve_left h0
     repeat' (first|(refine yL ?_;first|refine a0A rfl ?_|(refine oD 59 ?_;refine buA rfl _ rfl (λ _=>rfl) rfl (HasP.ownV ho) rfl oZ ?_)|(refine oD 34 ?_;refine baA rfl _ rfl (λ _=>rfl) rfl (HasR.ownV hr3) rfl hjl ?_;rw [q1,q2])|(refine oLt 105 ?_;refine auA (cs:=[.int .u16 f,.int .u16 m]) rfl (λ _=>rfl) (λ _=>rfl) rfl ?_)|(refine oD 8 ?_;refine a2A (hK _ _ (caA rfl rfl dZ (λ _=>rfl) (λ _=>rfl) (λ _=>rfl) rfl (by intro u hu;simp [Value.cells] at hu;rcases hu with rfl|rfl <;> rfl) (λ bx wx ex hbx hbc=>?_)));clear hK K;replace ho:=ho.ext ex;refine aeA kZ (λ K hK=>?_))|(refine oD 37 ?_;refine a1A (a':=⟨bx,0,none⟩) rfl rfl (λ _=>rfl) ?_)|(refine oD 42 ?_;refine a1A (a':=⟨bx,0,none⟩) rfl rfl (λ _=>rfl) ?_)|(refine oD 46 ?_;refine a1A (a':=⟨bx,1,none⟩) rfl rfl (λ _=>rfl) ?_)|(refine oLt 31 ?_;refine a6A rfl (λ _=>rfl) rfl hbc rfl ?_)|(refine cnA ?_;refine ccA rfl _ rfl rfl (HasP.ownV ho) ?_)|(refine oD 58 ?_;refine adA rfl rfl rfl fZ ?_;rw [show ((S.length:Int)-1)=((S.length-1:Nat):Int) by omega])|(refine oD 60 ?_;refine ajA (o:=1) rfl rfl (λ _ _=>rfl) ?_)|(refine oD 61 ?_;refine boA rfl (λ _=>rfl) rfl rfl ?_)|(refine oD 74 ?_;refine dnA (c:=spV .u64 ((KB:Int)+f,(KB:Int)+f+m+1)) rfl rfl rfl (λ w=>run_build w _ _ _ kZ) ?_)|(refine oD 75 ?_;refine ehA rfl kpA rfl rfl dZ ?_)|(refine oD 76 ?_;refine a2A (hK _ _ (arA (n:=S.length) (cs:=e3A .u64 S) rfl dZ kpA rfl ho rfl HasC.own (by intro u hu;simp [spV,Value.cells] at hu;rcases hu with rfl|rfl <;> rfl) (by unfold maxLen;omega) oZ (λ v' wa wb' e' ho' hf hl=>?_)));clear hK K;refine aeA kZ (λ K hK=>?_))|refine yO ?_|(refine yC ?_ ?_<;>intro hc)|(refine yN hK ?_;clear hK K))|refine wG ?_|(refine yR ?_;intro K hK)|fail)
     have x4:=x03.trans (ex.trans e');have ho'':OwnP w.heap.size tSp .u64 wb' v' (S++[((KB:Int)+f,(KB:Int)+f+m+1)]):=by
      unfold OwnP;rw [gnA,List.length_append,List.length_singleton];exact Own.rebase ho' (hl.ge (λ k hk=>(Own.lt ho k hk).1) x4.size)
     have hr':=hf.own (hr3.ext (ex.trans e')) (λ k h1 h2=>by
      obtain ⟨cur,hcur⟩:=azA (hr3.ext (ex.trans e')) h1;exact Own.apart (ho.ext e') hcur dZ h2)
     exact a5A (j+1,v') (λ w5 e5=>⟨hjl,(Fr.ext x4 hf (λ k hk=>(Own.lt ho k hk).1)).trans e5,Own.ext hr' e5,by dsimp only;rw [hend,s3,hpair];exact ho''.ext e5⟩) eZ sZ
  ·obtain rfl:j=rs.length:=oZ
   rw [hE1,Int.toNat_natCast,← hE3] at ho
   repeat' (first|(refine yL ?_;first|refine a0A rfl ?_|refine yO ?_|(refine yC ?_ ?_<;>intro hc)|(refine yN hK ?_;clear hK K))|refine wG ?_|(refine yR ?_;intro K hK)|fail)
   exact a5A (i+1,so) (λ w5 e5=>⟨hil,x03.trans e5,ho.ext e5⟩) eZ sZ
 ·obtain rfl:i=nk p:=oZ
  rw [ngA] at ho
  repeat' (first|(refine yL ?_;first|refine a0A rfl ?_|refine yO ?_|(refine yC ?_ ?_<;>intro hc)|(refine yN hK ?_;clear hK K))|refine wG ?_|(refine yR ?_;intro K hK)|fail)
  exact aiA rfl rfl he (λ u w5 e5 hu=>by obtain rfl:u=_:=hu;exact ho.ext e5)
end Go.Proofs.YtbokphkfojijoaaGreatDoor
end
section
namespace Go.Proofs.YtbokphkfojijoaaGreatDoor
open Go.LA Go.ArrP Go.RowKit
variable {A B:Nat→Prop}
theorem coB (w:World) (n:Nat) (hn:n≤1000000):Fc Tryz.prog 182 #[nilS,.int .i64 n] w (Ret w (.pred (b4A w.heap.size tK .u16 []))):=by
 by_cases h0:n=0
 ·subst h0
  refine Fc.of (args:=[_,_]) Tryz.func182 rfl rfl Tryz.ntmps182 nZ ?_
  repeat' (first|(refine yL ?_;first|refine a0A rfl ?_|(refine oD 10 ?_;refine jxA rfl rfl rfl ?_)|(refine cnA ?_;refine akA (n:=0) (s:=1) (cs:=[]) rfl _ rfl rfl (HasC.ownV (base:=0) (e:=0) Own.nil) ?_)|refine yO ?_|(refine yC ?_ ?_<;>intro hc)|(refine yN hK ?_;clear hK K))|refine wG ?_|(refine yR ?_;intro K hK)|fail)
  exact aiA rfl rfl (Ext.refl _) (λ v _ _ hv=>by obtain rfl:v=_:=hv;exact OwnI.nil)
 ·refine Fc.of (args:=[_,_]) Tryz.func182 rfl rfl Tryz.ntmps182 nZ ?_
  repeat' (first|(refine yL ?_;first|refine a0A rfl ?_|(refine oD 10 ?_;refine jxA rfl rfl rfl ?_)|(refine oD 19 ?_;refine jxA rfl rfl rfl ?_)|(refine cnA ?_;refine akA (n:=0) (s:=1) (cs:=[]) rfl _ rfl rfl (HasC.ownV (base:=0) (e:=0) Own.nil) ?_)|(refine oD 20 ?_;refine hiA (n:=0) (s:=1) (cs:=[]) rfl _ rfl rfl (HasC.ownV (base:=0) (e:=0) Own.nil) rfl dZ dZ (λ _=>rfl) ?_)|(refine oD 22 ?_;refine a2A (hK _ _ (fwA (n:=0) (kn:=n) (cs:=[]) (cap:=0) (a:=none) rfl dZ c8A rfl rfl rfl (Own.nil (base:=0) (e:=0)).slC oZ oZ oZ dZ oZ oZ (λ v' w1 w2 zs e1 hz1 hz2 ho e2=>?_)));clear hK K;refine aeA kZ (λ K hK=>?_))|refine yO ?_|(refine yC ?_ ?_<;>intro hc)|(refine yN hK ?_;clear hK K))|refine wG ?_|(refine yR ?_;intro K hK)|fail)
  refine aiA rfl rfl (e1.trans e2) (λ v w3 e3 hv=>?_);obtain rfl:v=_:=hv
  rcases ho.2 with ⟨_,h1⟩|⟨gb,cap,cur,rfl,hx⟩
  ·omega
  ·have h2:=kzA ho 0 (Nat.zero_le _)
   have hcap:0<cap:=by have:=hx.2.2.1;omega
   have h3:fcA (.slice (some ⟨gb,0,none⟩) (0+n) cap) 0 0 Tryz.prog.types[31].size=.slice (some ⟨gb,0,none⟩) 0 cap:=gxA hcap;rw [h3];exact Own.base (h2.ext e3) e1.size
def rl2 (xs ys:List Int) (i:Nat):List Int:=if i=0 then [] else if i=1 then xs else xs++ys
theorem wcA {w:World} {v ka kb:Value} {xs ys:List Int} (hv:SlC w v 2 1 [ka,kb]) (ha:SlI .u16 w ka xs) (hb:SlI .u16 w kb ys) (hx:xs.length≤65536) (hy:ys.length≤65536) :
 Fc Tryz.prog 137 #[v] w (Ret w (.pred (b4A w.heap.size tK .u16 (xs++ys)))):=by
 have hgr:∀ w',Ext w w'→_:=λ w' e=>coB w' (xs.length+ys.length) oZ
 refine Fc.of (args:=[_]) Tryz.func137 rfl rfl Tryz.ntmps137 nZ ?_
 repeat' (first|(refine yL ?_;first|refine a0A rfl ?_|(refine cnA ?_;refine akA rfl _ rfl rfl (HasC.val hv) ?_)|refine yO ?_|(refine yC ?_ ?_<;>intro hc)|(refine yN hK ?_;clear hK K))|refine wG ?_|(refine yR ?_;intro K hK)|fail)
 refine brA (ι:=Nat) (λ i=>[(0,.val v),(3,.val (.int .i64 ((rl2 xs ys i).length:Nat))),(9,.val v),(10,.val (.int .i64 2)),(11,.val (.int .i64 i))]) (λ i=>i≤2) (λ i=>2-i) 0 dZ sZ ?_
 intro i hi;obtain rfl|rfl|rfl:i=0∨i=1∨i=2:=oZ
 ·skip
  repeat' (first|(refine yL ?_;first|refine a0A rfl ?_|(refine oD 13 ?_;refine c1A (s:=1) rfl _ rfl (λ _=>rfl) rfl (HasC.val hv) rfl 0 rfl dZ ?_)|(refine oD 14 ?_;refine fyA (c:=ka) rfl (λ _=>rfl) rfl ?_)|(refine cnA ?_;refine akA rfl _ rfl rfl (HasI.val ha).c ?_)|(refine oD 18 ?_;refine b3A rfl rfl rfl (by show -9223372036854775808≤(0:Int)+xs.length∧(0:Int)+xs.length≤9223372036854775807;omega) ?_)|(refine oD 20 ?_;refine i3A rfl rfl rfl rfl (by show ¬ ((0:Int)+xs.length<0);omega) ?_)|refine yO ?_|(refine yC ?_ ?_<;>intro hc)|(refine yN hK ?_;clear hK K))|refine wG ?_|(refine yR ?_;intro K hK)|fail)
  exact ceA 1 dZ dZ (Sub.same rfl (Sub.val rfl (by show Value.int .i64 ((0:Int)+xs.length)=.int .i64 xs.length;rw [Int.zero_add]) (Sub.same rfl (Sub.same rfl (Sub.same rfl Sub.nil)))))
 ·skip
  repeat' (first|(refine yL ?_;first|refine a0A rfl ?_|(refine oD 13 ?_;refine c1A (s:=1) rfl _ rfl (λ _=>rfl) rfl (HasC.val hv) rfl 1 rfl dZ ?_)|(refine oD 14 ?_;refine fyA (c:=kb) rfl (λ _=>rfl) rfl ?_)|(refine cnA ?_;refine akA rfl _ rfl rfl (HasI.val hb).c ?_)|(refine oD 18 ?_;refine b3A (a:=(xs.length:Int)) rfl rfl rfl fZ ?_)|refine yO ?_|(refine yC ?_ ?_<;>intro hc)|(refine yN hK ?_;clear hK K))|refine wG ?_|(refine yR ?_;intro K hK)|fail)
  exact ceA 2 dZ dZ (Sub.same rfl (Sub.val rfl (by show Value.int .i64 ((xs.length:Int)+ys.length)=.int .i64 ((xs++ys).length:Nat);rw [List.length_append,Int.natCast_add]) (Sub.same rfl (Sub.same rfl (Sub.same rfl Sub.nil)))))
 ·skip
  repeat' (first|(refine yL ?_;first|refine a0A rfl ?_|(refine oD 23 ?_;refine cvA (c:=.int .i64 ((xs.length+ys.length:Nat):Int)) rfl (by show AD.val (Value.int .i64 ((xs++ys).length:Nat))=_;rw [List.length_append]) ?_)|(refine cnA ?_;refine akA rfl _ rfl rfl (HasC.val hv) ?_)|refine yO ?_|(refine yC ?_ ?_<;>intro hc)|(refine yV ?_;first|(refine oC 182 ?_;refine a4A (f:=182) rfl rfl rfl rfl  (.pred (b4A w.heap.size tK .u16 [])) (by intro u1 u2 w e hu1 hu2;(try obtain rfl:u1=_:=hu1);(try obtain rfl:u2=_:=hu2);exact (hgr _ e).mono (a8A e.size)) ?_))|(refine yN hK ?_;clear hK K))|refine wG ?_|(refine yR ?_;intro K hK)|fail)
  refine c2A 6 rfl (λ v6 w6 e6 h6=>?_)
  refine abA (ι:=Nat × Value) (λ i=>[(6,.val i.2),(25,.val v),(26,.val (.int .i64 2)),(27,.val (.int .i64 i.1))]) (λ i w'=>i.1≤2∧Ext w w'∧OwnI w.heap.size tK .u16 w' i.2 (rl2 xs ys i.1)) (λ i=>2-i.1)
   (λ w2 e2=>⟨(0,v6),⟨Nat.zero_le 2,e6.trans e2,OwnI.ext h6 e2⟩,sZ⟩) ?_
  rintro ⟨i,so⟩ w1 ⟨hi,he,ho⟩;dsimp only at hi ho ⊢;have ha1:=ha.ext he;have hb1:=hb.ext he;have hv1:=hv.ext he;obtain rfl|rfl|rfl:i=0∨i=1∨i=2:=oZ
  ·skip
   repeat' (first|(refine yL ?_;first|refine a0A rfl ?_|(refine oD 29 ?_;refine c1A (s:=1) rfl _ rfl (λ _=>rfl) rfl (HasC.val hv1) rfl 0 rfl dZ ?_)|(refine oD 30 ?_;refine fyA (c:=ka) rfl (λ _=>rfl) rfl ?_)|(refine oD 33 ?_;refine a2A (hK _ _ (cyA (n:=0) (cs:=[]) rfl dZ c8A rfl ho rfl (HasI.val ha1).c (by intro u hu;obtain ⟨z,_,rfl⟩:=List.mem_map.1 hu;rfl) (by unfold maxLen;omega) oZ he.size (λ v' wa wb' e' ho' hg'=>?_)));clear hK K;refine aeA kZ (λ K hK=>?_))|refine yO ?_|(refine yC ?_ ?_<;>intro hc)|(refine yN hK ?_;clear hK K))|refine wG ?_|(refine yR ?_;intro K hK)|fail)
   have ho2:OwnI w.heap.size tK .u16 wb' v' (rl2 xs ys 1):=by
    show Own _ _ _ _ _ xs.length (xs.map _)
    simpa using ho'
   exact a5A (1,v') (λ w5 e5=>⟨(by decide:1≤2),((he.trans e').grown hg' (λ q hq=>(Own.lt ho q hq).1)).trans e5,ho2.ext e5⟩) eZ sZ
  ·skip
   repeat' (first|(refine yL ?_;first|refine a0A rfl ?_|(refine oD 29 ?_;refine c1A (s:=1) rfl _ rfl (λ _=>rfl) rfl (HasC.val hv1) rfl 1 rfl dZ ?_)|(refine oD 30 ?_;refine fyA (c:=kb) rfl (λ _=>rfl) rfl ?_)|(refine oD 33 ?_;refine a2A (hK _ _ (cyA (n:=xs.length) (cs:=xs.map (Value.int .u16)) rfl dZ c8A rfl ho rfl (HasI.val hb1).c (by intro u hu;obtain ⟨z,_,rfl⟩:=List.mem_map.1 hu;rfl) (by unfold maxLen;omega) oZ he.size (λ v' wa wb' e' ho' hg'=>?_)));clear hK K;refine aeA kZ (λ K hK=>?_))|refine yO ?_|(refine yC ?_ ?_<;>intro hc)|(refine yN hK ?_;clear hK K))|refine wG ?_|(refine yR ?_;intro K hK)|fail)
   have ho2:OwnI w.heap.size tK .u16 wb' v' (rl2 xs ys 2):=by
    show Own _ _ _ _ _ (xs++ys).length ((xs++ys).map _)
    rw [List.length_append,List.map_append];exact ho'
   exact a5A (2,v') (λ w5 e5=>⟨(by decide:2≤2),((he.trans e').grown hg' (λ q hq=>(Own.lt ho q hq).1)).trans e5,ho2.ext e5⟩) eZ sZ
  ·skip
   repeat' (first|(refine yL ?_;first|refine a0A rfl ?_|refine yO ?_|(refine yC ?_ ?_<;>intro hc)|(refine yN hK ?_;clear hK K))|refine wG ?_|(refine yR ?_;intro K hK)|fail)
   exact aiA rfl rfl he (λ u w5 e5 hu=>by obtain rfl:u=_:=hu;exact OwnI.ext (xs:=xs++ys) ho e5)
end Go.Proofs.YtbokphkfojijoaaGreatDoor
end
section
namespace Go.Proofs.YtbokphkfojijoaaGreatDoor
open Go.LA Go.ArrP Go.RowKit
variable {A B:Nat→Prop}
theorem getD_drop {xs:List Int} {k i:Nat}:(xs.drop k).getD i 0=xs.getD (k+i) 0:=by
 rw [List.getD_eq_getElem?_getD,List.getD_eq_getElem?_getD,List.getElem?_drop]
theorem nrA {xs:List Int} {k:Nat} (h:k<xs.length):xs.take (k+1)=xs.take k++[xs.getD k 0]:=by
 rw [List.getD_eq_getElem?_getD,List.getElem?_eq_getElem h,List.take_add_one,List.getElem?_eq_getElem h];rfl
structure MidD (xs ys:List Int) (k j:Nat):Prop where
 len:ys.length=xs.length
 lo:0<k
 le:k<j
 hi:j≤xs.length
 pre:ys.take k=ddN xs j
 rest:∀ i,j≤i+1→ys.getD i 0=xs.getD i 0
theorem MidD.skip {xs ys:List Int} {k j:Nat} (h:MidD xs ys k j) (hj:j<xs.length) (he:xs.getD j 0=xs.getD (j-1) 0):MidD xs ys k (j+1) :=
 ⟨h.len,h.lo,by have:=h.le;omega,hj,by rw [nsA (by have:=h.le;omega) he];exact h.pre,λ i hi=>h.rest i oZ⟩
theorem MidD.put {xs ys:List Int} {k j:Nat} (h:MidD xs ys k j) (hj:j<xs.length) (he:xs.getD j 0≠xs.getD (j-1) 0):MidD xs (ys.set k (xs.getD j 0)) (k+1) (j+1):=by
 have h1:=h.le;have h2:=h.len;refine ⟨by rw [List.length_set];exact h.len,by omega,by omega,hj,?_,λ i hi=>?_⟩
 ·rw [ntA he,← h.pre,nrA (by rw [List.length_set];omega),List.take_set_of_le (Nat.le_refl _)]
  congr 2;rw [List.getD_eq_getElem?_getD,List.getElem?_set_self oZ];rfl
 ·rw [List.getD_eq_getElem?_getD,List.getElem?_set_ne oZ,← List.getD_eq_getElem?_getD]
  exact h.rest i oZ
theorem t1A {w0 w:World} {v:Value} {xs:List Int} (he0:Ext w0 w) (ho0:OwnI w0.heap.size tK .u16 w v xs) (hx:xs.length≤1000000) :
 Fc Tryz.prog 139 #[v] w (λ en w'=>∃ v',en=.returned v'∧Ext w0 w'∧OwnI w0.heap.size tK .u16 w' v' (ddN xs xs.length)):=by
 by_cases hlt:xs.length<2
 ·have hd:ddN xs xs.length=xs:=by
   rcases xs with _|⟨a,_|⟨b,r⟩⟩
   ·rfl
   ·rfl
   ·simp at hlt;omega
  rw [hd];refine Fc.of (args:=[_]) Tryz.func139 rfl rfl Tryz.ntmps139 nZ ?_
  repeat' (first|(refine yL ?_;first|refine a0A rfl ?_|(refine cnA ?_;refine akA rfl _ rfl rfl (HasI.ownV ho0).c ?_)|refine yO ?_|(refine yC ?_ ?_<;>intro hc)|(refine yN hK ?_;clear hK K))|refine wG ?_|(refine yR ?_;intro K hK)|fail)
  exact c0A rfl (λ u w5 e5 hu=>by obtain rfl:u=_:=hu;exact ⟨_,rfl,he0.trans e5,ho0.ext e5⟩)
 ·obtain ⟨b,cap,cur,rfl,hb,hg,hnc,hm,hsz,ht⟩:=ho0.row oZ
  refine Fc.of (args:=[_]) Tryz.func139 rfl rfl Tryz.ntmps139 nZ ?_
  repeat' (first|(refine yL ?_;first|refine a0A rfl ?_|(refine cnA ?_;refine akA rfl _ rfl rfl (HasI.ownV ho0).c ?_)|refine yO ?_|(refine yC ?_ ?_<;>intro hc)|(refine yN hK ?_;clear hK K))|refine wG ?_|(refine yR ?_;intro K hK)|fail)
  refine brA (ι:=Nat) (λ k=>[(0,.val (.slice (some ⟨b,0,none⟩) xs.length cap)),(3,.val (.int .i64 k))]) (λ k=>1≤k∧k≤xs.length∧ddN xs k=xs.take k) (λ k=>xs.length-k) 1 ⟨Nat.le_refl _,by omega,by rw [szA,nrA oZ];rfl⟩ sZ ?_
  rintro k ⟨hk1,hk2,hkd⟩
  by_cases hkl:k<xs.length
  ·by_cases heq:xs.getD k 0=xs.getD (k-1) 0
   ·skip
    repeat' (first|(refine yL ?_;first|refine a0A rfl ?_|(refine cnA ?_;refine akA rfl _ rfl rfl (HasI.ownV ho0).c ?_)|(refine oD 18 ?_;refine acA rfl _ rfl (λ _=>rfl) rfl (HasI.ownV ho0) rfl hkl ?_)|(refine oD 22 ?_;refine adA rfl rfl rfl fZ ?_;rw [show ((k:Int)-1)=((k-1:Nat):Int) by omega])|(refine oD 23 ?_;refine acA rfl _ rfl (λ _=>rfl) rfl (HasI.ownV ho0) rfl oZ ?_;rw [← heq])|(refine oD 28 ?_;refine deA rfl _ rfl rfl (HasC.ownV ho0) rfl oZ oZ (by exact λ _=>rfl) ?_;rw [Int.toNat_natCast,gxA (show k<cap by omega)])|refine yO ?_|(refine yC ?_ ?_<;>intro hc)|(refine yN hK ?_;clear hK K))|refine wG ?_|(refine yR ?_;intro K hK)|fail)
    have hm0:MidD xs xs k (k+1):=⟨rfl,hk1,Nat.lt_succ_self k,hkl,by rw [nsA hk1 heq];exact hkd.symm,λ _ _=>rfl⟩
    refine abA (ι:=Nat × Nat × List Int) (λ i=>[(0,.val (.slice (some ⟨b,0,none⟩) xs.length cap)),(3,.val (.int .i64 i.1)),(4,.val (.slice (some ⟨b,k*1,none⟩) (xs.length-k) (cap-k))),(5,.val (.int .i64 i.2.1))]) (λ i w'=>Ext w0 w'∧1≤i.2.1∧MidD xs i.2.2 i.1 (k+i.2.1)∧OwnI w0.heap.size tK .u16 w' (.slice (some ⟨b,0,none⟩) xs.length cap) i.2.2) (λ i=>xs.length-i.2.1)
     (λ w2 e2=>⟨(k,1,xs),⟨he0.trans e2,Nat.le_refl _,hm0,ho0.ext e2⟩,sZ⟩) ?_
    rintro ⟨k',k2,ys⟩ w1 ⟨he,h1,hM,ho⟩;dsimp only at h1 hM ho ⊢;have hyl:=hM.len;have hle:=hM.le;have hhi:=hM.hi;have hs4:SlI .u16 w1 (.slice (some ⟨b,k*1,none⟩) (xs.length-k) (cap-k)) (ys.drop k):=by
     have:=SlI.drop ho.slI (l:=k) oZ;rwa [gxA (show k<cap by omega),hyl] at this
    have hdl:(ys.drop k).length=xs.length-k:=by rw [List.length_drop,hyl]
    by_cases h2:k2<xs.length-k
    ·have g1:(ys.drop k).getD k2 0=xs.getD (k+k2) 0:=by rw [getD_drop];exact hM.rest _ oZ
     have g2:(ys.drop k).getD (k2-1) 0=xs.getD (k+k2-1) 0:=by
      rw [getD_drop,show k+(k2-1)=k+k2-1 by omega];exact hM.rest _ oZ
     by_cases he2:xs.getD (k+k2) 0=xs.getD (k+k2-1) 0
     ·skip
      repeat' (first|(refine yL ?_;first|refine a0A rfl ?_|(refine cnA ?_;refine akA rfl _ rfl rfl (HasI.val hs4).c ?_;rw [hdl])|(refine oD 37 ?_;refine acA rfl _ rfl (λ _=>rfl) rfl (HasI.val hs4) rfl oZ ?_;rw [g1])|(refine oD 41 ?_;refine adA rfl rfl rfl fZ ?_;rw [show ((k2:Int)-1)=((k2-1:Nat):Int) by omega])|(refine oD 42 ?_;refine acA rfl _ rfl (λ _=>rfl) rfl (HasI.val hs4) rfl oZ ?_;rw [g2,← he2])|refine yO ?_|(refine yC ?_ ?_<;>intro hc)|(refine yN hK ?_;clear hK K))|refine wG ?_|(refine yR ?_;intro K hK)|fail)
      exact a5A (k',k2+1,ys) (λ w5 e5=>⟨he.trans e5,by dsimp only;omega,hM.skip oZ he2,ho.ext e5⟩) eZ sZ
     ·obtain ⟨b',cap',cur',hv',hb',hg',hnc',hm',hsz',ht'⟩:=ho.row oZ
      injection hv' with h5 h6 h7
      injection h5 with h5
      injection h5 with h5
      subst h5;subst h7;have hlk:k'<ys.length:=oZ
      repeat' (first|(refine yL ?_;first|refine a0A rfl ?_|(refine cnA ?_;refine akA rfl _ rfl rfl (HasI.val hs4).c ?_;rw [hdl])|(refine oD 37 ?_;refine acA rfl _ rfl (λ _=>rfl) rfl (HasI.val hs4) rfl oZ ?_;rw [g1])|(refine oD 41 ?_;refine adA rfl rfl rfl fZ ?_;rw [show ((k2:Int)-1)=((k2-1:Nat):Int) by omega])|(refine oD 42 ?_;refine acA rfl _ rfl (λ _=>rfl) rfl (HasI.val hs4) rfl oZ ?_;rw [g2])|(refine oD 44 ?_;refine o5A rfl rfl rfl rfl he2 ?_)|(refine oD 49 ?_;refine acA rfl _ rfl (λ _=>rfl) rfl (HasI.val hs4) rfl oZ ?_;rw [g1])|(refine oD 51 ?_;refine bjA (s:=1) rfl rfl (λ _=>rfl) rfl rfl oZ oZ ?_;rw [Int.toNat_natCast,Nat.zero_add,Nat.mul_one])|(refine oSt ?_;refine a2A (hK _ _ (bfA rfl rfl rfl hg' (λ _=>rfl) oZ rfl rfl (λ w7 e7=>?_)));clear hK K)|refine yO ?_|(refine yC ?_ ?_<;>intro hc)|(refine yN hK ?_;clear hK K))|refine wG ?_|(refine yR ?_;intro K hK)|fail)
      have hset:=OwnI.set hb' (e7.block hg') hnc' hm' hsz' ht' k' hlk (xs.getD (k+k2) 0);rw [hyl] at hset;have x7:=(he.trans e7).setRow hb' (cur'.setIfInBounds k' (.int .u16 (xs.getD (k+k2) 0)));exact a5A (k'+1,k2+1,ys.set k' (xs.getD (k+k2) 0)) (λ w5 e5=>⟨x7.trans e5,by dsimp only;omega,hM.put oZ he2,hset.ext e5⟩) eZ sZ
    ·obtain ⟨b',cap',cur',hv',hb',hg',hnc',hm',hsz',ht'⟩:=ho.row oZ
     injection hv' with h5 h6 h7
     injection h5 with h5
     injection h5 with h5
     subst h5;subst h7;have hkc:k'<cap:=oZ
     repeat' (first|(refine yL ?_;first|refine a0A rfl ?_|(refine cnA ?_;refine akA rfl _ rfl rfl (HasI.val hs4).c ?_;rw [hdl])|(refine oD 56 ?_;refine deA (s:=1) rfl _ rfl rfl (HasC.ownV ho) rfl oZ oZ (by exact λ _=>rfl) ?_;rw [Int.toNat_natCast,hyl,gxA hkc])|(refine a2A (hK _ _ (wtA rfl rfl (λ _=>rfl) rfl rfl rfl hg' oZ (λ w7 cur2 e7 hs2 ht2=>?_)));clear hK K)|(refine oD 59 ?_;refine ggA (s:=1) rfl _ rfl rfl rfl oZ oZ oZ (λ _=>rfl) ?_;rw [Int.toNat_natCast])|refine yO ?_|(refine yC ?_ ?_<;>intro hc)|(refine yN hK ?_;clear hK K))|refine wG ?_|(refine yR ?_;intro K hK)|fail)
     have hown:OwnI w0.heap.size tK .u16 (w7.setRow b cur2) (.slice (some ⟨b,0,none⟩) k' cap) (ys.take k'):=by
      have hl:(ys.take k').length=k':=by rw [List.length_take];omega
      refine ⟨by rw [List.length_map,hl,Nat.mul_one],.inr ⟨b,cap,cur2,by rw [hl],hb',setRow_heap w7 b cur' _ tK _ (e7.block hg'),by rw [hl];omega,hm',by rw [hs2];omega,?_⟩⟩;rw [hl,Nat.mul_one,List.map_take,← ht',List.take_take,Nat.min_eq_left oZ];rwa [Nat.mul_one] at ht2
     rw [hM.pre,show k+k2=xs.length by omega] at hown;exact c0A rfl (λ u w5 e5 hu=>by obtain rfl:u=_:=hu;exact ⟨_,rfl,((he.trans e7).setRow hb' cur2).trans e5,hown.ext e5⟩)
   ·skip
    repeat' (first|(refine yL ?_;first|refine a0A rfl ?_|(refine cnA ?_;refine akA rfl _ rfl rfl (HasI.ownV ho0).c ?_)|(refine oD 18 ?_;refine acA rfl _ rfl (λ _=>rfl) rfl (HasI.ownV ho0) rfl hkl ?_)|(refine oD 22 ?_;refine adA rfl rfl rfl fZ ?_;rw [show ((k:Int)-1)=((k-1:Nat):Int) by omega])|(refine oD 23 ?_;refine acA rfl _ rfl (λ _=>rfl) rfl (HasI.ownV ho0) rfl oZ ?_)|(refine oD 25 ?_;refine i3A rfl rfl rfl rfl heq ?_)|refine yO ?_|(refine yC ?_ ?_<;>intro hc)|(refine yN hK ?_;clear hK K))|refine wG ?_|(refine yR ?_;intro K hK)|fail)
    exact ceA (k+1) ⟨by omega,hkl,by rw [ntA heq,hkd,nrA hkl]⟩ oZ sZ
  ·obtain rfl:k=xs.length:=oZ
   repeat' (first|(refine yL ?_;first|refine a0A rfl ?_|(refine cnA ?_;refine akA rfl _ rfl rfl (HasI.ownV ho0).c ?_)|refine yO ?_|(refine yC ?_ ?_<;>intro hc)|(refine yN hK ?_;clear hK K))|refine wG ?_|(refine yR ?_;intro K hK)|fail)
   exact c0A rfl (λ u w5 e5 hu=>by obtain rfl:u=_:=hu;exact ⟨_,rfl,he0.trans e5,by rw [hkd,List.take_length];exact ho0.ext e5⟩)
end Go.Proofs.YtbokphkfojijoaaGreatDoor
end
section
namespace Go.Proofs.YtbokphkfojijoaaGreatDoor
open Go.LA Go.ArrP Go.RowKit
variable {A B:Nat→Prop}
def RowCn (base:Nat) (A:Nat→Prop) (p:Nat→Bool) (kk:Int) (v:Value) (w:World):Prop:=∃ qc:Qd,Own base tC 4 w v 1 (qcs qc)∧Cn A w (qv qc) p kk∧∀ u ∈ qcs qc,u.oneCell'=true
def z0A (base:Nat) (A:Nat→Prop) (p:Nat→Bool) (kk:Int):AV:=⟨λ v w=>RowCn base A p kk v w,λ _ _ _ e ⟨qc,h1,h2,h3⟩=>⟨qc,h1.ext e,h2.ext e,h3⟩⟩
section
variable {P:Program} {l:List Oper} {N:Nn} {wb:World} {K:List Oper→Env→Prop} {rest:List Oper} {E:Env} {Q:Exit→Act→World→Prop}
variable {d:Tmp} {ty t:TypeId} {pos:String} {after:Array Edge} {g:Option (Nat × Bool)} {x y z:Operand}
theorem ewA {z0:Value} {b base:Nat} {r:AD} {p:Nat→Bool} {kk:Int} (hbase:base≤wb.heap.size) (hg:bkA l E g=some true) (hel:El P t tC z0 4 b) (hx:opE E x=r) (hr:∀ v w,Ext wb w→r.ok v w→Cn A w v p kk) (h:LA P l wb K rest ((d,.pred (z0A base A p kk))::E)) :
 LA P l wb K (⟨some d,.buildSlice t 1 #[(0,x)],ty,pos,after,g⟩::rest) E:=by
 refine bcA (.pred (z0A base A p kk)) hg (λ a w he hh=>?_) h;have h1:=hh x (by simp [Op.operands]);rw [hx] at h1;have hcn:=hr _ _ he h1;obtain ⟨qc,hqc,h1c⟩:=hcn.qd;have hc:(a.eval x).cells=(qcs qc).toArray:=by rw [hqc];rfl
 have hcz:(a.eval x).cells.size=4:=by rw [hc];rfl
 have hrun:(Instr.buildSlice t 1 #[(0,a.eval x)]).run P w=.ok (.slice (some ⟨w.heap.size,0,none⟩) 1 1) (w.alloc (.cells (a.eval x).cells tC)):=by
  have hf:=jfA (c:=a.eval x) (z:=z0.cells) (s:=4) hcz;simp only [Instr.buildSlice,Sem.run_bind,run_underlying hel.ht,Result.andThen_ok,hel.sizeOf,Nat.one_mul,gt_iff_lt,show ¬ (2 ^ 24<4) by omega,if_false,show ¬ (4=0) by omega,Sem.run_pure,hel.zero];simp only [Nat.one_mul] at hf;rw [hf];rfl
 simp only [execOp,List.map_toArray,List.map_cons,List.map_nil,Sem.run_bind,hrun,Result.andThen_ok,Sem.run_pure];have x1:Ext w (w.alloc (.cells (a.eval x).cells tC)):=Ext.alloc _ _;refine ⟨x1,qc,⟨by simp [qcs],.inr ⟨w.heap.size,1,(a.eval x).cells,rfl,Nat.le_trans hbase he.size,heap_alloc_new w _,Nat.le_refl _,by decide,by rw [hcz],?_⟩⟩,(hqc▸hcn).ext x1,h1c⟩;rw [hc];rfl
end
theorem RowCn.fr {base:Nat} {A R:Nat→Prop} {p:Nat→Bool} {kk:Int} {v:Value} {w w':World} (h:RowCn base A p kk v w) (hf:Fr R w w') (hR:Plain A R w) (hb:∀ k,base≤k→¬ R k):RowCn base A p kk v w':=by
 obtain ⟨qc,h1,h2,h3⟩:=h;exact ⟨qc,hf.own h1 (λ k hk=>hb k (Own.lt h1 k hk).1),h2.fr hf hR,h3⟩
theorem RS.app {w w':World} {b:Nat} {kv lv kv' lv':Value} {p:Nat→Bool} (hS:RS A w b kv lv p) {k:Nat} (hk:k<65536) (hlast:∀ j,k≤j→ne p j=false) {q:Nat→Bool} (hq:∀ i,65536≤i→q i=false) (hq0:0<cnt q 65536) {Q:List Qd} {qc:Qd} (q1:Q.length=nk p)
 (q3:∀ i,i<nk p→Cn (λ k=>A k∧kv.ownBlock≠some k) w (qv (Q.getD i q0)) (blk p (kp p i)) (avA (blk p (kp p i)))) (hc:Cn (λ j=>A j∧kv'.ownBlock≠some j) w' (qv qc) q (avA q))
 (hf:Fr (onw b kv lv) w w') (hb:w'.heap[b]?=some (.cells #[kv',lv'] tS (0,0))) (hkk:OwnI 0 tK .u16 w' kv' (b2A p++[(k:Int)])) (hl:Own 0 tC 4 w' lv' (nk p+1) (bdA Q++qcs qc)) (hk1:LocR w kv kv') (hl1:LocR w lv lv'):Mut A w b kv lv (upd p k q) w':=by
 have hn:=hlast k (Nat.le_refl _);have hcn:cnt (ne p) k=nk p:=(gmA 65536 (Nat.le_of_lt hk) (λ x h1 _=>hlast x h1)).symm;have hkeys:=ivA p hk hq hq0 hn;have hkl:=bpA p;have hnk:=r5A p hk hq hq0 hn;rw [hcn,List.take_of_length_le oZ,List.drop_of_length_le oZ,List.append_nil] at hkeys;have hcells:bdA (Q++[qc])=bdA Q++qcs qc:=by rw [dfA];rfl
 refine ⟨kv',lv',⟨hb,by rw [hkeys];exact hkk,muA hS.top hk,Q++[qc],by rw [List.length_append,List.length_singleton,q1,hnk],by rw [hnk,hcells];exact hl,λ i hi=>?_⟩,hf,hk1,hl1⟩;rw [hnk] at hi;rw [xoA p hk hq hq0 hn hi,hcn];have hne:∀ j,j<nk p→kp p j≠k:=λ j hj h=>by
  have:=(hrA hj).2.1;rw [h,hn] at this;cases this
 split
 ·rename_i h1
  rw [h6A p q (hne i h1),fiA oZ];refine Cn.fr ((q3 i h1).mono (A':=λ k=>A k∧kv'.ownBlock≠some k∧kv.ownBlock≠some k) λ j hlt ha=>⟨ha.1,λ h=>?_,ha.2⟩) hf (hS.plainA λ k h1 h2=>h2.2.2 h1) |>.mono λ k _ h=>⟨h.1,h.2.1⟩
  rcases hk1 with h' | h'
  ·exact ha.2 (h'▸h)
  ·have:=h' j h;omega
 ·have hi':i=nk p:=oZ
  rw [if_pos hi',klA p k hq,e2A oZ,show i-Q.length=0 by omega];exact hc
theorem Cn.loc {w w1 w':World} {kv kv' v:Value} {p:Nat→Bool} {kk:Int} (hl:LocR w1 kv kv') (hs:w.heap.size≤w1.heap.size) (h:Cn (λ j=>A j∧kv.ownBlock≠some j∧j<w.heap.size) w' v p kk):Cn (λ j=>A j∧kv'.ownBlock≠some j) w' v p kk :=
 h.mono λ j _ ha=>⟨ha.1,λ h=>by
  rcases hl with h' | h'
  ·exact ha.2.1 (h'▸h)
  ·have h9:=h' j h
   have h10:=ha.2.2;omega⟩
theorem Cn.loc3 {w w1 w':World} {kv kv' v:Value} {p:Nat→Bool} {kk:Int} (hl:LocR w1 kv kv') (hs:w.heap.size≤w1.heap.size) (h:Cn (λ j=>A j∧kv.ownBlock≠some j∧j<w.heap.size) w' v p kk):Cn (λ j=>A j∧kv.ownBlock≠some j∧kv'.ownBlock≠some j) w' v p kk :=
 h.mono λ j _ ha=>⟨ha.1,ha.2.1,λ h=>by
  rcases hl with h' | h'
  ·exact ha.2.1 (h'▸h)
  ·have h9:=h' j h
   have h10:=ha.2.2;omega⟩
end Go.Proofs.YtbokphkfojijoaaGreatDoor
end
section
namespace Go.Proofs.YtbokphkfojijoaaGreatDoor
open Go.LA Go.ArrP Go.RowKit
variable {A B:Nat→Prop}
theorem ccB (w:World):Fc Tryz.prog 40 #[] w (Ret w (.pred (xxA w.heap.size #[nilS,nilS] tS))):=by
 refine Fc.of (args:=[]) Tryz.func40 rfl rfl Tryz.ntmps40 nZ ?_
 repeat' (first|(refine yL ?_;first|refine a0A rfl ?_|refine fnA (c:=.agg #[nilS,nilS]) rfl (λ _=>by kernel_rfl) ?_|refine ghA rfl rfl ?_|refine yO ?_|(refine yC ?_ ?_<;>intro hc)|(refine yN hK ?_;clear hK K))|refine wG ?_|(refine yR ?_;intro K hK)|fail)
 exact aiA rfl rfl (Ext.refl _) (λ v w' e hv=>hv)
theorem oqA {w:World} {base base':Nat} {cs:Array Value} {e:TypeId} (hb:base'≤base) (en:Ending) (w':World) (h:Ret w (.pred (xxA base cs e)) en w'):Ret w (.pred (xxA base' cs e)) en w':=by
 obtain ⟨v,h1,h2,b,h3,h4⟩:=h;exact ⟨v,h1,h2,b,Nat.le_trans hb h3,h4⟩
theorem rxA {w:World} {v:Value} {p:Nat→Bool} (h:NSet B A w v p):NSet B (λ k=>A k∧k<w.heap.size) w v p:=h.imp id (λ h=>h.mono (λ _ _ h=>h) (λ k hk ha=>⟨ha,hk⟩))
theorem el_ss:El Tryz.prog 210 27 (.slice none 0 0) 1 24:=⟨rfl,rfl,rfl,by decide⟩
theorem d2B {w:World} {va vb fv:Value} {p q:Nat→Bool} {F:Bool→Bool→Bool} {B1 B2:Nat→Prop} (ha:NSet B1 A w va p) (hb:NSet B2 A w vb q) (hF:F false false=false)
 (hfv:∀ w' A' u v' kp kq p' q',Ext w w'→Cn A' w' u p' kp→Cn A' w' v' q' kq→Fsh A' w'→Clb Tryz.prog fv [u,v'] w' (Ret w' (.pred (cnP A' (two F p' q') (avA (two F p' q'))))))
 (hT:Tab w) (hB:Fsh B w) (hA:Fsh A w):Fc Tryz.prog 106 #[va,vb,fv] w (Ret w (.pred (rsP B A (two F p q)))):=by
 have hk1:∀ w',Ext w w'→_:=λ w' e=>m9A (ha.ext e)
 have hk2:∀ w',Ext w w'→_:=λ w' e=>m9A (hb.ext e)
 have hl1:=bpA p;have hl2:=bpA q;have hn1:=gqA p;have hn2:=gqA q;have hdd:=afB p q;obtain ⟨xs,hxs⟩:∃ xs,xs=(b2A p++b2A q).mergeSort (λ x y=>decide (x≤y)):=⟨_,rfl⟩;have hxl:xs.length≤131072:=by rw [hxs,List.length_mergeSort,List.length_append];omega
 obtain ⟨e,he⟩:∃ e,e=λ k=>ne p k || ne q k:=⟨_,rfl⟩
 obtain ⟨U,hU⟩:∃ U,U=ahA e 65536:=⟨_,rfl⟩;rw [← he,← hU,← hxs] at hdd;have hUl:U.length=cnt e 65536:=by rw [hU,b1A]
 have hUle:cnt e 65536≤65536:=cnt_le _ _;refine Fc.of (args:=[_,_,_]) Tryz.func106 rfl rfl Tryz.ntmps106 nZ ?_
 repeat' (first|(refine yL ?_;first|refine a0A rfl ?_|(refine oD 13 ?_;refine a2A (hK _ _ (awA 7 rfl (λ v7 w7 e7 h7=>?_)));clear hK K;obtain ⟨b,hbb,rfl,h7⟩:=h7;refine aeA kZ (λ K hK=>cvA rfl rfl ?_))|(refine oD 14 ?_;refine oC 64 ?_;refine a3A (f:=64) rfl rfl rfl  (.pred (b4A w.heap.size tK .u16 (b2A p))) (by intro u1 w e hu1;(try obtain rfl:u1=_:=hu1);exact (hk1 _ (e7.trans e)).mono (a8A (e7.trans e).size)) ?_)|(refine oD 16 ?_;refine oC 64 ?_;refine a3A (f:=64) rfl rfl rfl  (.pred (b4A w.heap.size tK .u16 (b2A q))) (by intro u1 w e hu1;(try obtain rfl:u1=_:=hu1);exact (hk2 _ (e7.trans e)).mono (a8A (e7.trans e).size)) ?_)|refine yO ?_|(refine yC ?_ ?_<;>intro hc)|(refine yV ?_;first|(refine oC 40 ?_;refine dqA (f:=40) rfl rfl  (.pred (xxA w.heap.size #[nilS,nilS] tS)) (by intro w e;exact (ccB _).mono (oqA e.size)) ?_))|(refine yN hK ?_;clear hK K))|refine wG ?_|(refine yR ?_;intro K hK)|fail)
 refine a2A (hK _ _ (awA 16 rfl (λ v16 w16 e16 h16=>awA 14 rfl (λ v14 w14 e14 h14=>?_))));clear hK K;replace h16:OwnI w.heap.size tK .u16 w14 v16 (b2A q):=OwnI.ext h16 e14;replace h14:OwnI w.heap.size tK .u16 w14 v14 (b2A p):=h14;have x14:=e7.trans (e16.trans e14);replace h7:=(e16.trans e14).block h7;have hcc:∀ w',Ext w14 w'→∀ u,Own w14.heap.size 27 1 w' u 2 [v14,v16]→_:=λ w' x u hu=>wcA (Own.slC hu) (h14.ext x).slI (h16.ext x).slI oZ oZ
 refine aeA kZ (λ K hK=>ptA rfl el_ss rfl rfl (OwnI.cells h14) (OwnI.cells h16) ?_)
 repeat' (first|(refine yL ?_;first|refine a0A rfl ?_|(refine oD 19 ?_;refine a2A (hK _ _ (awA 8 rfl (λ v8 w8 e8 h8=>?_)));clear hK K;replace h8:OwnI w14.heap.size tK .u16 w8 v8 (b2A p++b2A q):=h8;refine aeA kZ (λ K hK=>cvA rfl rfl ?_))|(refine oD 20 ?_;refine a2A (hK _ _ (cmA rfl dZ rfl rfl (λ v w'=>v=.tuple #[]∧Ext w14 w'∧OwnI w14.heap.size tK .u16 w' v8 xs) (λ w1 e1=>(Srt.sort16_c (e8.trans e1) (h8.ext e1) (by rw [List.length_append];omega)).mono (λ en w' h=>⟨_,h.1,rfl,h.2.1,hxs▸h.2.2⟩)) (λ v w20 hm=>?_)));clear hK K;obtain ⟨rfl,x20,h20⟩:=hm)|(refine oD 22 ?_;refine a2A (hK _ _ (cmA rfl dZ rfl rfl (λ v w'=>Ext w14 w'∧OwnI w14.heap.size tK .u16 w' v U) (λ w1 e1=>(t1A (x20.trans e1) (h20.ext e1) oZ).mono (λ en w' h=>by obtain ⟨v',h1,h2,h3⟩:=h;exact ⟨v',h1,h2,hdd▸h3⟩)) (λ v22 w22 hm=>?_)));clear hK K;obtain ⟨x22,h22⟩:=hm;refine aeA kZ (λ K hK=>?_))|(refine cnA ?_;refine akA rfl _ rfl rfl (HasI.ownV h22).c ?_)|refine yO ?_|(refine yC ?_ ?_<;>intro hc)|(refine yV ?_;first|(refine oC 137 ?_;refine a3A (f:=137) rfl rfl rfl  (.pred (b4A w14.heap.size tK .u16 (b2A p++b2A q))) (by intro u1 w e hu1;(try obtain rfl:u1=_:=hu1);exact (hcc _ e _ hu1).mono (a8A e.size)) ?_))|(refine yN hK ?_;clear hK K))|refine wG ?_|(refine yR ?_;intro K hK)|fail)
 clear hdd hcc hk1 hk2 h20 h8 hxs;replace h7:=x22.block h7;have lt22:∀ k,v22.ownBlock=some k→k<w22.heap.size:=λ k hk=>(Own.lt h22 k hk).2
 have nb22:v22.ownBlock≠some b:=Own.apart h22 h7 dZ;have x022:Ext w w22:=x14.trans x22;obtain ⟨R,hR⟩:∃ R,R=two F p q:=⟨_,rfl⟩;have hRe:∀ k,e k=false→ne R k=false:=λ k hk=>by rw [hR];exact boB hF (by rw [he] at hk;exact hk)
 have hRtop:∀ x,TOP≤x→R x=false:=λ x hx=>by rw [hR];unfold two;rw [l4A ha x hx,l4A hb x hx,hF]
 have hRb:∀ k,blk R k=two F (blk p k) (blk q k):=λ k=>by rw [hR];exact awB hF p q k
 rw [← hR]
 refine abA (ι:=Nat) (λ i=>[(0,.val va),(1,.val vb),(2,.val fv),(7,.val (.pointer (some ⟨b,0,none⟩))),(22,.val v22),(23,.val (.int .i64 U.length)),(24,.val (.int .i64 i))]) (λ i w'=>i≤U.length∧Ext w w'∧w22.heap.size≤w'.heap.size∧OwnI w.heap.size tK .u16 w' v22 U∧∃ kv lv,RS A w' b kv lv (ikA R (kq e i))∧∀ k,onw b kv lv k→k=b∨w22.heap.size≤k) (λ i=>U.length-i)
  (λ w2 e2=>⟨0,⟨Nat.zero_le _,x022.trans e2,e2.size,Own.base (h22.ext e2) x14.size,nilS,nilS,by rw [waA (λ j hj=>hRe j (vnA hj))];exact RS.new (e2.block h7),λ k hk=>by
   rcases hk with rfl|hk|hk
   ·exact .inl rfl
   ·cases hk
   ·cases hk⟩,sZ⟩) ?_
 rintro i w1 ⟨hi,hx1,hs1,hu1,kv,lv,hS,hon⟩;have honw:∀ k,onw b kv lv k→w.heap.size≤k:=λ k hk=>by
  rcases hon k hk with rfl|h
  ·exact hbb
  ·exact Nat.le_trans x022.size h
 by_cases hil:i<U.length
 ·obtain ⟨k1,k2,k3,k4⟩:=voA (e:=e) (i:=i) oZ
  rw [← hU] at k4;have hst:=w8A hRe (i:=i) oZ;obtain ⟨k,hk⟩:∃ k,k=kq e i:=⟨_,rfl⟩;rw [← hk] at k1 k2 k4 hst hS;have hA1:Fsh A w1:=hA.ext hx1;have hF1:=hS.fsh hA1;have g1:∀ w',Ext w1 w'→_:=λ w' x=>vzA ((rxA ha).ext (hx1.trans x)) k1
  have g2:∀ w',Ext w1 w'→_:=λ w' x=>vzA ((rxA hb).ext (hx1.trans x)) k1
  have hmn:∀ w' v' p' kk,Cn (λ k=>A k∧k<w.heap.size) w' v' p' kk→Cn (λ k=>A k∧kv.ownBlock≠some k) w' v' p' kk:=λ w' v' p' kk h=>h.mono λ j _ hj=>⟨hj.1,λ hkv=>by
   have:=honw j (.inr (.inl hkv));omega⟩
  have hof:∀ w',Ext w1 w'→∀ u v',Cn (λ k=>A k∧k<w.heap.size) w' u (blk p k) (avA (blk p k))→Cn (λ k=>A k∧k<w.heap.size) w' v' (blk q k) (avA (blk q k))→Clb Tryz.prog fv [u,v'] w' (Ret w' (.pred (cnP (λ k=>A k∧kv.ownBlock≠some k) (blk R k) (avA (blk R k))))) :=
   λ w' x u v' h1 h2=>by rw [hRb];exact hfv w' _ u v' _ _ _ _ (hx1.trans x) (hmn _ _ _ _ h1) (hmn _ _ _ _ h2) (hF1.ext x)
  have hlen:∀ w' u,Cn (λ k=>A k∧kv.ownBlock≠some k) w' u (blk R k) (avA (blk R k))→_:=λ w' u h=>gzA h
  have hne:ne R k=true↔0<cnt (blk R k) 65536:=ne_cnt;obtain ⟨c,hc⟩:∃ c,c=cnt (blk R k) 65536:=⟨_,rfl⟩;have hcl:=cnt_le (blk R k) 65536;rw [← hc] at hlen hne hcl
  by_cases hc0:c=0
  ·have hnf:ne R k=false:=by
    cases h:ne R k
    ·rfl
    ·have:=hne.1 h;omega
   rw [w9A hnf] at hst;clear hc hne
   repeat' (first|(refine yL ?_;first|refine a0A rfl ?_|(refine oD 26 ?_;refine acA rfl _ rfl (λ _=>rfl) rfl (HasI.ownV hu1) rfl hil ?_;rw [k4])|(refine oD 31 ?_;refine oC 76 ?_;refine a4A (f:=76) rfl rfl rfl rfl  (.pred (cnP (λ k=>A k∧k<w.heap.size) (blk p k) (avA (blk p k)))) (by intro u1 u2 w e hu1 hu2;(try obtain rfl:u1=_:=hu1);(try obtain rfl:u2=_:=hu2);exact g1 _ e) ?_)|(refine oD 34 ?_;refine oC 76 ?_;refine a4A (f:=76) rfl rfl rfl rfl  (.pred (cnP (λ k=>A k∧k<w.heap.size) (blk q k) (avA (blk q k)))) (by intro u1 u2 w e hu1 hu2;(try obtain rfl:u1=_:=hu1);(try obtain rfl:u2=_:=hu2);exact g2 _ e) ?_)|(refine oD 11 ?_;refine a2A (hK _ _ (jsA (q:=35) (φ:=cnP (λ k=>A k∧kv.ownBlock≠some k) (blk R k) (avA (blk R k))) (n:=4) rfl rfl dZ rfl rfl beA (λ _=>rfl) rfl (λ _=>rfl) (λ b11 c11 w11 e11 hb11 hh11 hn11 hc11=>?_)));clear hK K)|(refine oD 36 ?_;refine bwA rfl hh11 hn11 rfl (λ _=>rfl) (λ _=>rfl) ?_)|(refine oD 37 ?_;refine oC 65 ?_;refine a3A (f:=65) rfl rfl rfl  (.val (.int .i64 c)) (by intro u1 w e hu1;(try obtain rfl:u1=_:=hu1);exact hlen _ _ (Cn.ext hc11 e)) ?_)|refine yO ?_|(refine yC ?_ ?_<;>intro hc)|(refine yV ?_;first|(refine oD 35 ?_;refine moA rfl rfl rfl rfl (.pred (cnP (λ k=>A k∧kv.ownBlock≠some k) (blk R k) (avA (blk R k)))) (by intro vf u1 u2 w' e hf hu1 hu2;obtain rfl:vf=_:=hf;exact hof _ e _ _ hu1 hu2) ?_))|(refine yN hK ?_;clear hK K))|refine wG ?_|(refine yR ?_;intro K hK)|fail)
   exact a5A (i+1) (λ w5 e5=>⟨hil,hx1.trans (e11.trans e5),Nat.le_trans hs1 (e11.trans e5).size,hu1.ext (e11.trans e5),kv,lv,by rw [hst];exact hS.ext (e11.trans e5),hon⟩) oZ sZ
  ·clear hne
   have hq1:∀ i,65536≤i→blk R k i=false:=λ i hi=>efA oZ
   have hq0:0<cnt (blk R k) 65536:=by rw [← hc];exact Nat.pos_of_ne_zero hc0
   have hlast:∀ j,k≤j→ne (ikA R k) j=false:=λ j hj=>pgA R hj
   have hnkc:=gqA (ikA R k);clear hc
   repeat' (first|(refine yL ?_;first|refine yB ?_|(refine oD 26 ?_;refine acA rfl _ rfl (λ _=>rfl) rfl (HasI.ownV hu1) rfl hil ?_;rw [k4])|(refine oD 31 ?_;refine oC 76 ?_;refine a4A (f:=76) rfl rfl rfl rfl  (.pred (cnP (λ k=>A k∧k<w.heap.size) (blk p k) (avA (blk p k)))) (by intro u1 u2 w e hu1 hu2;(try obtain rfl:u1=_:=hu1);(try obtain rfl:u2=_:=hu2);exact g1 _ e) ?_)|(refine oD 34 ?_;refine oC 76 ?_;refine a4A (f:=76) rfl rfl rfl rfl  (.pred (cnP (λ k=>A k∧k<w.heap.size) (blk q k) (avA (blk q k)))) (by intro u1 u2 w e hu1 hu2;(try obtain rfl:u1=_:=hu1);(try obtain rfl:u2=_:=hu2);exact g2 _ e) ?_)|(refine oD 11 ?_;refine a2A (hK _ _ (jsA (q:=35) (φ:=cnP (λ k=>A k∧kv.ownBlock≠some k) (blk R k) (avA (blk R k))) (n:=4) rfl rfl dZ rfl rfl beA (λ _=>rfl) rfl (λ _=>rfl) (λ b11 c11 w11 e11 hb11 hh11 hn11 hc11=>?_)));clear hK K)|(refine oD 36 ?_;refine bwA rfl hh11 hn11 rfl (λ _=>rfl) (λ _=>rfl) ?_)|(refine oD 37 ?_;refine oC 65 ?_;refine a3A (f:=65) rfl rfl rfl  (.val (.int .i64 c)) (by intro u1 w e hu1;(try obtain rfl:u1=_:=hu1);exact hlen _ _ (Cn.ext hc11 e)) ?_)|(refine oD 39 ?_;refine cvA rfl rfl ?_;have hS11:=hS.ext e11;have hcA:Cn (λ j=>A j∧kv.ownBlock≠some j∧j<w11.heap.size) w11 (.agg c11) (blk R k) (avA (blk R k)):=Cn.mono hc11 λ j hj ha=>⟨ha.1,ha.2,hj⟩)|(refine oNc ?_;refine a9A rfl rfl ?_)|(refine oF 0 ?_;refine a1A (a':=⟨b,0,none⟩) rfl rfl (λ _=>rfl) ?_)|(refine oF 1 ?_;refine a1A (a':=⟨b,1,none⟩) rfl rfl (λ _=>rfl) ?_)|(refine oLt 27 ?_;refine a6A (c:=kv) rfl (λ _=>rfl) rfl hS11.hb rfl ?_)|(refine oLt 92 ?_;refine a6A (c:=lv) rfl (λ _=>rfl) rfl hS11.hb rfl ?_)|(refine oD 46 ?_;refine e6A rfl c8A rfl rfl ?_)|(refine oD 52 ?_;refine bwA rfl hh11 hn11 rfl (λ _=>rfl) (λ _=>rfl) ?_)|(refine oD 53 ?_;refine ewA (base:=w11.heap.size) (Nat.le_refl _) rfl daA rfl (λ v w e h=>by obtain rfl:v=_:=h;exact hcA.ext e) ?_)|refine yO ?_|(refine yC ?_ ?_<;>intro hc)|(refine yV ?_;first|(refine oD 35 ?_;refine moA rfl rfl rfl rfl (.pred (cnP (λ k=>A k∧kv.ownBlock≠some k) (blk R k) (avA (blk R k)))) (by intro vf u1 u2 w' e hf hu1 hu2;obtain rfl:vf=_:=hf;exact hof _ e _ _ hu1 hu2) ?_))|(refine yN hK ?_;clear hK K))|(refine oCX ?_;first|refine anA (id:=9) [8,15,18,21] kZ kZ kZ (a7A ?_))|refine wG ?_|(refine yR ?_;intro K hK)|refine wPh ?_|fail)
   have hplK:∀ w',Ext w11 w'→Plain (λ j=>A j∧kv.ownBlock≠some j∧j<w11.heap.size) (λ j=>kv.ownBlock=some j) w':=λ w' x j hj=>by
    obtain ⟨cur,hcur⟩:=azA (hS11.hk.ext x) hj;exact ⟨cur,_,_,hcur,by decide,by decide,λ ha=>absurd hj ha.2.1⟩
   have hplL:∀ (AA:Nat→Prop) w' n cs,Own 0 tC 4 w' lv n cs→Plain AA (λ j=>lv.ownBlock=some j) w':=λ AA w' n cs ho j hj=>by
    obtain ⟨cur,hcur⟩:=azA ho hj;exact ⟨cur,_,_,hcur,by decide,by decide,λ _=>by decide⟩
   have lkv:∀ k,kv.ownBlock=some k→k<w11.heap.size:=λ k h=>hS11.lt (.inr (.inl h))
   have llv:∀ k,lv.ownBlock=some k→k<w11.heap.size:=λ k h=>hS11.lt (.inr (.inr h))
   have hsn:=slot_ne hS11;obtain ⟨Q,q1,q2,q3⟩:=hS11.hl;have hklen:=bpA (ikA R k);have hnkl:=gqA (ikA R k);refine dwA rfl c8A rfl hS11.hk rfl HasC.own (λ u hu=>by rw [List.mem_singleton] at hu;subst hu;rfl) (by unfold maxLen;omega) oZ (λ kv' w1' w2 e1 ho' hf hl=>⟨(53,.pred (z0A w11.heap.size (λ j=>A j∧kv.ownBlock≠some j∧j<w11.heap.size) (blk R k) (avA (blk R k))))::_,λ t u _ hu=>mbA (λ u hu=>?_) bsA t u hu,a7A ?_⟩)
   ·exact RowCn.fr hu hf (hplK _ e1) (λ j hj h=>by have:=lkv j h;omega)
   have hb2:=hf.at (e1.block hS11.hb) (λ h=>hsn.1 h);have hh2:=hf.at (e1.block hh11) (λ h=>Own.apart hS11.hk hh11 dZ h);have q22:Own 0 tC 4 w2 lv (nk (ikA R k)) (bdA Q):=hf.own (q2.ext e1) (λ k h1 h2=>hsn.2.2 k h2 h1);have hc2:=(hcA.ext e1).fr hf (hplK _ e1);have sz2:=Nat.le_trans e1.size hf.size
   repeat' (first|(refine yL ?_;first|refine yB ?_|(refine oNc ?_;refine a9A rfl rfl ?_)|(refine oF 0 ?_;refine a1A (a':=⟨b,0,none⟩) rfl rfl (λ _=>rfl) ?_)|(refine oF 1 ?_;refine a1A (a':=⟨b,1,none⟩) rfl rfl (λ _=>rfl) ?_)|(refine oLt 27 ?_;refine a6A (c:=kv) rfl (λ _=>rfl) rfl hb2 rfl ?_)|(refine oLt 92 ?_;refine a6A (c:=lv) rfl (λ _=>rfl) rfl hb2 rfl ?_)|(refine oLt 96 ?_;refine bwA (n:=4) rfl hh2 hn11 rfl (λ _=>rfl) (λ _=>rfl) ?_)|(refine oD 53 ?_;refine ewA (base:=w11.heap.size) sz2 rfl daA rfl (λ v w e h=>by obtain rfl:v=_:=h;exact hc2.ext e) ?_)|refine yO ?_|(refine yC ?_ ?_<;>intro hc)|(refine yN hK ?_;clear hK K))|refine wG ?_|(refine yR ?_;intro K hK)|refine wPh ?_|fail)
   refine jrA 53 rfl dZ rfl (λ v53 w3 e3 h53=>?_);obtain ⟨qc,r1,r2,r3⟩:=h53;refine dwA rfl daA rfl (q22.ext e3) rfl (HasC.ownV r1) r3 (by unfold maxLen;omega) oZ (λ lv' w3' w4 e3' hol hfl hll=>⟨_,λ t u _ hu=>bsA t u hu,a7A ?_⟩);have x23:=e3.trans e3';have hb4:=hfl.at (x23.block hb2) (λ h=>hsn.2.1 h);have r14:=hfl.own (ho'.ext x23) (λ k h1 h2=>by
    obtain ⟨cur,hcur⟩:=azA (ho'.ext x23) h1;exact Own.apart (q22.ext x23) hcur dZ h2)
   have rc4:=(r2.ext e3').fr hfl (hplL _ _ _ _ (q22.ext x23));obtain ⟨ck1,ck2⟩:=ddA r14;obtain ⟨cl1,cl2⟩:=ddA hol;have hF4:Fr (onw b kv lv) w11 w4:=(((Fr.of e1).trans (hf.mono λ k h=>.inr (.inl h))).trans (Fr.of x23)).trans (hfl.mono λ k h=>.inr (.inr h))
   repeat' (first|(refine yL ?_;first|refine yB ?_|(refine oNc ?_;refine a9A rfl rfl ?_)|(refine oF 0 ?_;refine a1A (a':=⟨b,0,none⟩) rfl rfl (λ _=>rfl) ?_)|(refine oF 1 ?_;refine a1A (a':=⟨b,1,none⟩) rfl rfl (λ _=>rfl) ?_)|(refine oLt 27 ?_;refine a6A (c:=kv) rfl (λ _=>rfl) rfl hb4 rfl ?_)|(refine oLt 92 ?_;refine a6A (c:=lv) rfl (λ _=>rfl) rfl hb4 rfl ?_)|refine yO ?_|(refine yC ?_ ?_<;>intro hc)|(refine yN hK ?_;clear hK K))|refine wG ?_|(refine yR ?_;intro K hK)|refine wPh ?_|fail)
   refine e4A (news:=[kv']) rfl rfl rfl hb4 ck1 (λ _=>rfl) nZ (λ u hu=>by rw [List.mem_singleton] at hu;subst hu;exact ck2) (λ w6 e6=>⟨_,λ t u hu=>bsA t u hu,a7A ?_⟩);have hb6:(w6.setRow b #[kv',lv]).heap[b]?=_:=setRow_heap w6 b _ _ _ _ (e6.block hb4);have rc7:=(rc4.ext e6).setRow (e6.block hb4) ⟨by decide,by decide,by decide⟩ #[kv',lv];obtain ⟨w7,hw7⟩:∃ w7,w7=w6.setRow b #[kv',lv]:=⟨_,rfl⟩;have hF7:Fr (onw b kv lv) w11 w7:=hw7▸((hF4.trans (Fr.of e6)).setRow (.inl rfl) _);have r17:Own 0 tK 1 w7 kv' _ _:=hw7▸Own.setRow (r14.ext e6) _ (Own.apart (r14.ext e6) (e6.block hb4) dZ);have s17:Own 0 tC 4 w7 lv' _ _:=hw7▸Own.setRow (hol.ext e6) _ (Own.apart (hol.ext e6) (e6.block hb4) dZ);rw [show (#[kv,lv].toList.take 0++[kv']++#[kv,lv].toList.drop (0+[kv'].length)).toArray=#[kv',lv] from rfl];rw [← hw7] at hb6 rc7 ⊢;clear hw7
   repeat' (first|(refine yL ?_;first|refine yB ?_|(refine oNc ?_;refine a9A rfl rfl ?_)|(refine oF 0 ?_;refine a1A (a':=⟨b,0,none⟩) rfl rfl (λ _=>rfl) ?_)|(refine oF 1 ?_;refine a1A (a':=⟨b,1,none⟩) rfl rfl (λ _=>rfl) ?_)|(refine oLt 27 ?_;refine a6A (c:=kv) rfl (λ _=>rfl) rfl hb6 rfl ?_)|(refine oLt 92 ?_;refine a6A (c:=lv) rfl (λ _=>rfl) rfl hb6 rfl ?_)|refine yO ?_|(refine yC ?_ ?_<;>intro hc)|(refine yN hK ?_;clear hK K))|refine wG ?_|(refine yR ?_;intro K hK)|refine wPh ?_|fail)
   refine e4A (news:=[lv']) rfl rfl rfl hb6 cl1 (λ _=>rfl) nZ (λ u hu=>by rw [List.mem_singleton] at hu;subst hu;exact cl2) (λ w8 e8=>⟨_,λ t u hu=>bsA t u hu,amA ?_⟩);have hb8:(w8.setRow b #[kv',lv']).heap[b]?=_:=setRow_heap w8 b _ _ _ _ (e8.block hb6);have rc9:=(rc7.ext e8).setRow (e8.block hb6) ⟨by decide,by decide,by decide⟩ #[kv',lv'];obtain ⟨w9,hw9⟩:∃ w9,w9=w8.setRow b #[kv',lv']:=⟨_,rfl⟩;have hF9:Fr (onw b kv lv) w11 w9:=hw9▸((hF7.trans (Fr.of e8)).setRow (.inl rfl) _);have r19:Own 0 tK 1 w9 kv' _ _:=hw9▸Own.setRow (r17.ext e8) _ (Own.apart (r17.ext e8) (e8.block hb6) dZ);have s19:Own 0 tC 4 w9 lv' _ _:=hw9▸Own.setRow (s17.ext e8) _ (Own.apart (s17.ext e8) (e8.block hb6) dZ);rw [show (#[kv',lv].toList.take 1++[lv']++#[kv',lv].toList.drop (1+[lv'].length)).toArray=#[kv',lv'] from rfl];rw [← hw9] at hb8 rc9 ⊢;clear hw9;have hkk9:OwnI 0 tK .u16 w9 kv' (b2A (ikA R k)++[(k:Int)]):=by unfold OwnI;rw [List.map_append,List.length_append,List.length_singleton];exact r19
   have hmut:Mut A w11 b kv lv _ w9:=hS11.app k1 hlast hq1 hq0 q1 q3 (Cn.loc hl e1.size rc9) hF9 hb8 hkk9 s19 (hl.le e1.size) (hll.le (by have:=x23.size;omega))
   repeat' (first|(refine yL ?_;first|refine yB ?_|(refine oNc ?_;refine a9A rfl rfl ?_)|(refine oF 0 ?_;refine a1A (a':=⟨b,0,none⟩) rfl rfl (λ _=>rfl) ?_)|(refine oF 1 ?_;refine a1A (a':=⟨b,1,none⟩) rfl rfl (λ _=>rfl) ?_)|(refine oLt 27 ?_;refine a6A (c:=kv) rfl (λ _=>rfl) rfl hb8 rfl ?_)|(refine oLt 92 ?_;refine a6A (c:=lv) rfl (λ _=>rfl) rfl hb8 rfl ?_)|refine yO ?_|(refine yC ?_ ?_<;>intro hc)|(refine yN hK ?_;clear hK K))|refine wG ?_|(refine yR ?_;intro K hK)|refine wPh ?_|fail)
   obtain ⟨kv9,lv9,m1,m2,m3,m4⟩:=hmut;have hu9:=m2.own (hu1.ext e11) (λ j h1 h2=>by
    rcases hon j h2 with rfl|h3
    ·exact nb22 h1
    ·have:=lt22 j h1;omega)
   have hon9:∀ j,onw b kv9 lv9 j→j=b∨w22.heap.size≤j:=λ j hj=>by
    have hs11:=e11.size
    rcases hj with rfl|hj|hj
    ·exact .inl rfl
    ·rcases m3 with m3|m3
     ·exact hon j (.inr (.inl (m3▸hj)))
     ·have:=m3 j hj;exact .inr oZ
    ·rcases m4 with m4|m4
     ·exact hon j (.inr (.inr (m4▸hj)))
     ·have:=m4 j hj;exact .inr oZ
   have x9:=Fr.ext (hx1.trans e11) m2 honw;have sz9:=Nat.le_trans (Nat.le_trans hs1 e11.size) m2.size;exact a5A (i+1) (λ w5 e5=>⟨hil,x9.trans e5,Nat.le_trans sz9 e5.size,Own.ext hu9 e5,kv9,lv9,by rw [hst];exact m1.ext e5,hon9⟩) oZ sZ
 ·have hie:i=U.length:=oZ
  rw [hie,hUl,y6A (Nat.le_refl _),agB hRtop] at hS
  repeat' (first|(refine yL ?_;first|refine a0A rfl ?_|refine yO ?_|(refine yC ?_ ?_<;>intro hc)|(refine yN hK ?_;clear hK K))|refine wG ?_|(refine yR ?_;intro K hK)|fail)
  exact aiA rfl rfl hx1 (λ u w5 e5 hu=>by obtain rfl:u=_:=hu;exact ⟨b,kv,lv,rfl,hS.ext e5,λ k hk=>hB k (honw k hk)⟩)
end Go.Proofs.YtbokphkfojijoaaGreatDoor
end
section
namespace Go.Proofs.YtbokphkfojijoaaGreatDoor
open Go.LA Go.ArrP Go.RowKit
variable {A B:Nat→Prop}
theorem or_s {w:World} {va vb:Value} {p q:Nat→Bool} {B1 B2:Nat→Prop} (ha:NSet B1 A w va p) (hb:NSet B2 A w vb q) (hT:Tab w) (hB:Fsh B w) (hA:Fsh A w) :
 Fc Tryz.prog 71 #[va,vb] w (Ret w (.pred (rsP B A (two (λ x y=>x || y) p q)))):=by
 refine Fc.of (args:=[_,_]) Tryz.func71 rfl rfl Tryz.ntmps71 nZ ?_
 repeat' (first|(refine yL ?_;first|refine a0A rfl ?_|refine yO ?_|(refine yC ?_ ?_<;>intro hc)|(refine yV ?_;first|(refine oC 106 ?_;refine b8A (f:=106) rfl rfl rfl rfl rfl  (.pred (rsP B A (two (λ x y=>x || y) p q))) (by intro u1 u2 u3 w e hu1 hu2 hu3;(try obtain rfl:u1=_:=hu1);(try obtain rfl:u2=_:=hu2);(try obtain rfl:u3=_:=hu3);exact d2B (ha.ext e) (hb.ext e) rfl (λ w' A' u v' kp kq p' q' x h1 h2 hF=>Clb.of (d4B h1 h2 ((hT.ext e).ext x) hF)) (hT.ext e) (hB.ext e) (hA.ext e)) ?_))|(refine yN hK ?_;clear hK K))|refine wG ?_|(refine yR ?_;intro K hK)|fail)
 exact aiA rfl rfl (Ext.refl _) (λ _ _ _ hv=>hv)
end Go.Proofs.YtbokphkfojijoaaGreatDoor
end
