import Derived.Test.YtbokphkfojijoaaGreatDoorJ13
import Derived.Test.YtbokphkfojijoaaGreatDoorJ14
import Derived.Test.YtbokphkfojijoaaGreatDoorJ15
import Derived.Test.YtbokphkfojijoaaGreatDoorJ16
import Derived.Test.YtbokphkfojijoaaGreatDoorJ17
set_option linter.unusedSimpArgs false
set_option linter.unusedVariables false
set_option maxRecDepth 3000
set_option maxHeartbeats 16000000
section
namespace Go.Proofs.YtbokphkfojijoaaGreatDoor
open Go.LA Go.ArrP Go.RowKit
variable {A B:Nat→Prop}
theorem jzA:El Tryz.prog 22 68 (.agg #[.int .u64 0,.int .u64 0]) 2 16:=⟨rfl,rfl,rfl,by decide⟩
abbrev tSp:Nat:=68
theorem ysA {w:World} {v:Value} {p:Nat→Bool} (h:NSet B A w v p) (hT:Tab w):Fc Tryz.prog 17 #[v] w (Ret w (.pred (l7A w.heap.size tSp .u64 (spL p TOP)))):=by
 obtain ⟨lv,Q,hP,hL⟩:=qjA h;have hnk:=jdA p;have htop:=enA;refine Fc.of (args:=[_]) Tryz.func17 rfl rfl Tryz.ntmps17 nZ ?_
 repeat' (first|(refine yL ?_;first|refine a0A rfl ?_|(refine d3A ?_;refine azA rfl _ rfl rfl (HasC.ownV hP.own) ?_)|refine yO ?_|(refine yC ?_ ?_<;>intro hc)|(refine yV ?_;first|(refine oC 58 ?_;refine a1A (f:=58) rfl rfl rfl  (.val lv) (by intro u1 w e hu1;(try obtain rfl:u1=_:=hu1);exact hL _ e) ?_))|(refine yN hK ?_;clear hK K))|refine wG ?_|(refine yR ?_;intro K hK)|fail)
 refine aaA (ι:=Nat × Value) (λ i=>[(0,.val v),(3,.val i.2),(13,.val lv),(14,.val (.int .i64 (nk p))),(15,.val (.int .i64 i.1))]) (λ i w'=>i.1≤nk p∧Ext w w'∧OwnP w.heap.size tSp .u64 w' i.2 (spL p (kp p i.1*65536))) (λ i=>nk p-i.1)
  (λ w2 e2=>⟨(0,.slice none 0 0),⟨Nat.zero_le _,e2,by dsimp only;rw [edA (p:=p) (Nat.zero_le _) (λ x _ hx=>nvA hx),gwA];exact OwnP.nil⟩,sZ⟩) ?_
 rintro ⟨i,so⟩ w1 ⟨hi,he,ho⟩;dsimp only at hi ho ⊢;have hP1:=hP.ext he
 by_cases hil:i<nk p
 ·obtain ⟨hat,hcn,h1⟩:=hP1.at hil
  obtain ⟨b,kv,rfl,hb,hkv⟩:=hP1.set oZ;obtain ⟨k1,k2,k3,k4⟩:=gjA hil;have hkl:=bfA p;have hown:=hP1.own;have hru:∀ w',Ext w1 w'→_:=λ w' e=>kjA (hcn.ext e) ((hT.ext he).ext e)
  obtain ⟨gE,hE1,hE2,hE3⟩:=omA hil;have hrun:=λ j hj=>ypA (p:=p) (i:=i) (j:=j) hj
  have hsl:=λ T=>Nat.le_trans (n2A p T) (cnt_le p T)
  have hsb:=λ T=>sp_bd p T
  obtain ⟨rs,hrs⟩:∃ rs,rs=alA (blk p (kp p i)):=⟨_,rfl⟩;have hrl:=ddA (blk p (kp p i));rw [← hrs] at hru hrun hE1 hrl;obtain ⟨K0,hK0⟩:∃ K0,K0=kp p i:=⟨_,rfl⟩;rw [← hK0] at k1 k4 hE3 hrun ho;have e4:IntKind.u64.wrap ((K0:Int)*65536)=((K0*65536:Nat):Int):=by rw [ctA .u64 _ fZ];omega
  repeat' (first|(refine yL ?_;first|refine a0A rfl ?_|(refine oNc ?_;refine a8A rfl rfl ?_)|(refine oF 0 ?_;refine a2A (a':=⟨b,0,none⟩) rfl rfl (λ _=>rfl) ?_)|(refine oF 1 ?_;refine a2A (a':=⟨b,1,none⟩) rfl rfl (λ _=>rfl) ?_)|(refine oLt 27 ?_;refine a7A (c:=kv) rfl (λ _=>rfl) rfl hb rfl ?_)|(refine oLt 92 ?_;refine a7A (c:=lv) rfl (λ _=>rfl) rfl hb rfl ?_)|(refine oI ?_;refine c9A (s:=4) rfl _ rfl (λ _=>rfl) rfl (HasC.ownV hown) rfl i rfl oZ ?_;rw [hat])|(refine oLt 96 ?_;refine atA (cs:=qcs _) rfl (λ _=>rfl) (λ _=>rfl) rfl ?_)|(refine oD 5 ?_;refine a3A (hK _ _ (mrA rfl rfl rfl dZ dZ (λ _=>rfl) (λ _=>rfl) rfl (λ _=>rfl) (λ _=>rfl) rfl h1 (λ bx wx ex hbx hbc=>?_)));clear hK K;replace hb:=ex.block hb;replace hkv:=hkv.ext ex;refine abA kZ (λ K hK=>?_))|(refine oD 25 ?_;refine agA rfl _ rfl (λ _=>rfl) rfl (HasI.ownV hkv) rfl oZ ?_;rw [k4])|(refine oD 28 ?_;refine gqA rfl rfl rfl dZ dZ ?_;rw [show (2:Int) ^ Int.toNat 16=65536 by decide,e4])|(refine oLt 96 ?_;refine brA (n:=4) rfl hbc rfl rfl (λ _=>rfl) (λ _=>rfl) ?_)|(refine d3A ?_;refine c8A rfl _ rfl rfl HasR.own ?_)|refine yO ?_|(refine yC ?_ ?_<;>intro hc)|(refine yV ?_;first|(refine oC 59 ?_;refine a1A (f:=59) rfl rfl rfl  (.pred (euA w.heap.size 105 rs)) (by intro u1 w e hu1;(try obtain rfl:u1=_:=hu1);exact (hru _ (ex.trans e)).mono (avA (Nat.le_trans he.size (Nat.le_trans ex.size e.size)) rfl)) ?_))|(refine yN hK ?_;clear hK K))|refine wG ?_|(refine yR ?_;intro K hK)|fail)
  refine bwA 30 rfl (λ vr w2 e2 hvr=>?_);have hvr:OwnR w.heap.size 105 w2 vr rs:=hvr;obtain ⟨KB,hKB⟩:∃ KB,KB=K0*65536:=⟨_,rfl⟩;rw [← hKB] at hE3 hrun ho;rw [show ((K0*65536:Nat):Int)=(KB:Int) by rw [hKB]];have hKB2:KB+65536≤4294967296:=oZ;clear hrs hK0 e4 hKB hat hcn h1 hb hkv hru hP1 hP hL h hown;have x12:=ex.trans e2
  refine aaA (ι:=Nat × Value) (λ j=>[(0,.val (.pointer (some ⟨b,0,none⟩))),(3,.val j.2),(6,.val (.int .u64 KB)),(13,.val lv),(14,.val (.int .i64 (nk p))),(15,.val (.int .i64 i)),(30,.val vr),(31,.val (.int .i64 rs.length)),(32,.val (.int .i64 j.1))]) (λ j w'=>j.1≤rs.length∧Ext w w'∧OwnR w.heap.size 105 w' vr rs∧OwnP w.heap.size tSp .u64 w' j.2 (spL p (KB+(khA rs j.1).toNat))) (λ j=>rs.length-j.1)
   (λ w3 e3=>⟨(0,so),⟨Nat.zero_le _,he.trans (x12.trans e3),hvr.ext e3,ho.ext (x12.trans e3)⟩,sZ⟩) ?_
  rintro ⟨j,so⟩ w3 ⟨hj,x03,hr3,ho⟩;dsimp only at hj ho ⊢
  by_cases hjl:j<rs.length
  ·obtain ⟨f,m,g,q1,q2,q3,q4,q5,q6,q7,q8⟩:=hrun j hjl
   rw [q3,Int.toNat_natCast,← q7] at ho;have hst:=pmA (p:=p) (a:=KB+f) (b:=KB+(f+m+1)) oZ (λ x h1 h2=>q8 x h1 h2);have hend:spL p (KB+(khA rs (j+1)).toNat)=spL p (KB+(f+m+1)):=by rw [q4,Int.toNat_natCast]
   have hSl:=hsl (KB+f);obtain ⟨S,hS⟩:∃ S,S=spL p (KB+f):=⟨_,rfl⟩;rw [← hS] at ho hst hSl;clear hrun hsl hsb hS q3 q4 q7 q8 hE3
   rcases hst with ⟨s1,s2,s3⟩|⟨s1,s3⟩
   ·obtain ⟨gb,cap,cur,rfl,r1,r2,r3,r4,r5,r6⟩:=ho.row s1
    have hgl:S.getD (S.length-1) (0,0)=((S.getD (S.length-1) (0,0)).1,((KB+f:Nat):Int)):=by rw [← s2]
    repeat' (first|(refine yL ?_;first|refine a0A rfl ?_|(refine oD 34 ?_;refine boA rfl _ rfl (λ _=>rfl) rfl (HasR.ownV hr3) rfl hjl ?_;rw [q1,q2])|(refine oLt 105 ?_;refine atA (cs:=[.int .u16 f,.int .u16 m]) rfl (λ _=>rfl) (λ _=>rfl) rfl ?_)|(refine oD 8 ?_;refine a3A (hK _ _ (crA rfl rfl dZ (λ _=>rfl) (λ _=>rfl) (λ _=>rfl) rfl (by intro u hu;simp [Value.cells] at hu;rcases hu with rfl|rfl <;> rfl) (λ bx wx ex hbx hbc=>?_)));clear hK K;replace r2:=ex.block r2;replace ho:=ho.ext ex;refine abA kZ (λ K hK=>?_))|(refine oD 37 ?_;refine a2A (a':=⟨bx,0,none⟩) rfl rfl (λ _=>rfl) ?_)|(refine oD 42 ?_;refine a2A (a':=⟨bx,0,none⟩) rfl rfl (λ _=>rfl) ?_)|(refine oD 46 ?_;refine a2A (a':=⟨bx,1,none⟩) rfl rfl (λ _=>rfl) ?_)|(refine oLt 31 ?_;refine a7A rfl (λ _=>rfl) rfl hbc rfl ?_)|(refine d3A ?_;refine bjA rfl _ rfl rfl (HasP.ownV ho) ?_)|(refine oD 58 ?_;refine afA rfl rfl rfl fZ ?_;rw [show ((S.length:Int)-1)=((S.length-1:Nat):Int) by omega])|(refine oD 60 ?_;refine adA (o:=1) rfl rfl (λ _ _=>rfl) ?_)|(refine oD 61 ?_;refine b9A rfl (λ _=>rfl) rfl rfl ?_)|(refine oD 67 ?_;refine afA rfl rfl rfl fZ ?_;rw [show ((S.length:Int)-1)=((S.length-1:Nat):Int) by omega])|(refine oD 59 ?_;refine baA rfl _ rfl (λ _=>rfl) rfl (HasP.ownV ho) rfl oZ ?_;rw [s2])|(refine oD 69 ?_;refine biA (s:=2) rfl rfl (λ _=>rfl) rfl rfl oZ oZ ?_;rw [Int.toNat_natCast,Nat.zero_add])|(refine oD 70 ?_;refine a2A (a':=⟨gb,(S.length-1)*2+1,none⟩) rfl rfl (λ _=>rfl) ?_)|(refine oSt ?_;refine a3A (hK _ _ (bhA rfl rfl rfl r2 (λ _=>rfl) oZ rfl rfl (λ w7 e7=>?_)));clear hK K)|refine yO ?_|(refine yC ?_ ?_<;>intro hc)|(refine yN hK ?_;clear hK K))|refine wG ?_|(refine yR ?_;intro K hK)|fail)
    have hr7:=Own.setRow (hr3.ext (ex.trans e7)) (cur.setIfInBounds ((S.length-1)*2+1) (.int .u64 ((KB:Int)+f+m+1))) (Own.apart (hr3.ext (ex.trans e7)) (e7.block r2) dZ);have ho7:=OwnP.set2 r1 (e7.block r2) r3 r4 r5 r6 (S.length-1) ((KB:Int)+f+m+1);have x7:=(x03.trans (ex.trans e7)).setRow r1 (cur.setIfInBounds ((S.length-1)*2+1) (.int .u64 ((KB:Int)+f+m+1)));rw [show ((KB+(f+m+1):Nat):Int)=(KB:Int)+f+m+1 by omega] at s3;exact a4A (j+1,_) (λ w5 e5=>⟨hjl,x7.trans e5,Own.ext hr7 e5,by dsimp only;rw [hend,s3];exact ho7.ext e5⟩) eZ sZ
   ·have hpair:(((KB+f:Nat):Int),((KB+(f+m+1):Nat):Int))=((KB:Int)+f,(KB:Int)+f+m+1):=Prod.ext oZ eZ
    by_cases h0:S.length=0
    ·skip
     repeat' (first|(refine yL ?_;first|refine a0A rfl ?_|(refine oD 34 ?_;refine boA rfl _ rfl (λ _=>rfl) rfl (HasR.ownV hr3) rfl hjl ?_;rw [q1,q2])|(refine oLt 105 ?_;refine atA (cs:=[.int .u16 f,.int .u16 m]) rfl (λ _=>rfl) (λ _=>rfl) rfl ?_)|(refine oD 8 ?_;refine a3A (hK _ _ (crA rfl rfl dZ (λ _=>rfl) (λ _=>rfl) (λ _=>rfl) rfl (by intro u hu;simp [Value.cells] at hu;rcases hu with rfl|rfl <;> rfl) (λ bx wx ex hbx hbc=>?_)));clear hK K;replace ho:=ho.ext ex;refine abA kZ (λ K hK=>?_))|(refine oD 37 ?_;refine a2A (a':=⟨bx,0,none⟩) rfl rfl (λ _=>rfl) ?_)|(refine oD 42 ?_;refine a2A (a':=⟨bx,0,none⟩) rfl rfl (λ _=>rfl) ?_)|(refine oD 46 ?_;refine a2A (a':=⟨bx,1,none⟩) rfl rfl (λ _=>rfl) ?_)|(refine oLt 31 ?_;refine a7A rfl (λ _=>rfl) rfl hbc rfl ?_)|(refine d3A ?_;refine bjA rfl _ rfl rfl (HasP.ownV ho) ?_)|(refine oD 58 ?_;refine afA rfl rfl rfl fZ ?_;rw [show ((S.length:Int)-1)=((S.length-1:Nat):Int) by omega])|(refine oD 60 ?_;refine adA (o:=1) rfl rfl (λ _ _=>rfl) ?_)|(refine oD 61 ?_;refine b9A rfl (λ _=>rfl) rfl rfl ?_)|(refine oD 74 ?_;refine e4A (c:=spV .u64 ((KB:Int)+f,(KB:Int)+f+m+1)) rfl rfl rfl (λ w=>run_build w _ _ _ kZ) ?_)|(refine oD 75 ?_;refine e6A rfl jzA rfl rfl dZ ?_)|(refine oD 76 ?_;refine a3A (hK _ _ (anA (n:=S.length) (cs:=dgA .u64 S) rfl dZ jzA rfl ho rfl HasC.own (by intro u hu;simp [spV,Value.cells] at hu;rcases hu with rfl|rfl <;> rfl) (by unfold maxLen;omega) oZ (λ v' wa wb' e' ho' hf hl=>?_)));clear hK K;refine abA kZ (λ K hK=>?_))|refine yO ?_|(refine yC ?_ ?_<;>intro hc)|(refine yN hK ?_;clear hK K))|refine wG ?_|(refine yR ?_;intro K hK)|fail)
     have x4:=x03.trans (ex.trans e');have ho'':OwnP w.heap.size tSp .u64 wb' v' (S++[((KB:Int)+f,(KB:Int)+f+m+1)]):=by
      unfold OwnP;rw [fyA,List.length_append,List.length_singleton];exact Own.rebase ho' (hl.ge (λ k hk=>(Own.lt ho k hk).1) x4.size)
     have hr':=hf.own (hr3.ext (ex.trans e')) (λ k h1 h2=>by
      obtain ⟨cur,hcur⟩:=asA (hr3.ext (ex.trans e')) h1;exact Own.apart (ho.ext e') hcur dZ h2)
     exact a4A (j+1,v') (λ w5 e5=>⟨hjl,(Fr.ext x4 hf (λ k hk=>(Own.lt ho k hk).1)).trans e5,Own.ext hr' e5,by dsimp only;rw [hend,s3,hpair];exact ho''.ext e5⟩) eZ sZ
    ·have s1':(S.getD (S.length-1) (0,0)).2≠((KB+f:Nat):Int):=s1.resolve_left h0
     repeat' (first|(refine yL ?_;first|refine a0A rfl ?_|(refine oD 59 ?_;refine baA rfl _ rfl (λ _=>rfl) rfl (HasP.ownV ho) rfl oZ ?_)|(refine oD 34 ?_;refine boA rfl _ rfl (λ _=>rfl) rfl (HasR.ownV hr3) rfl hjl ?_;rw [q1,q2])|(refine oLt 105 ?_;refine atA (cs:=[.int .u16 f,.int .u16 m]) rfl (λ _=>rfl) (λ _=>rfl) rfl ?_)|(refine oD 8 ?_;refine a3A (hK _ _ (crA rfl rfl dZ (λ _=>rfl) (λ _=>rfl) (λ _=>rfl) rfl (by intro u hu;simp [Value.cells] at hu;rcases hu with rfl|rfl <;> rfl) (λ bx wx ex hbx hbc=>?_)));clear hK K;replace ho:=ho.ext ex;refine abA kZ (λ K hK=>?_))|(refine oD 37 ?_;refine a2A (a':=⟨bx,0,none⟩) rfl rfl (λ _=>rfl) ?_)|(refine oD 42 ?_;refine a2A (a':=⟨bx,0,none⟩) rfl rfl (λ _=>rfl) ?_)|(refine oD 46 ?_;refine a2A (a':=⟨bx,1,none⟩) rfl rfl (λ _=>rfl) ?_)|(refine oLt 31 ?_;refine a7A rfl (λ _=>rfl) rfl hbc rfl ?_)|(refine d3A ?_;refine bjA rfl _ rfl rfl (HasP.ownV ho) ?_)|(refine oD 58 ?_;refine afA rfl rfl rfl fZ ?_;rw [show ((S.length:Int)-1)=((S.length-1:Nat):Int) by omega])|(refine oD 60 ?_;refine adA (o:=1) rfl rfl (λ _ _=>rfl) ?_)|(refine oD 61 ?_;refine b9A rfl (λ _=>rfl) rfl rfl ?_)|(refine oD 74 ?_;refine e4A (c:=spV .u64 ((KB:Int)+f,(KB:Int)+f+m+1)) rfl rfl rfl (λ w=>run_build w _ _ _ kZ) ?_)|(refine oD 75 ?_;refine e6A rfl jzA rfl rfl dZ ?_)|(refine oD 76 ?_;refine a3A (hK _ _ (anA (n:=S.length) (cs:=dgA .u64 S) rfl dZ jzA rfl ho rfl HasC.own (by intro u hu;simp [spV,Value.cells] at hu;rcases hu with rfl|rfl <;> rfl) (by unfold maxLen;omega) oZ (λ v' wa wb' e' ho' hf hl=>?_)));clear hK K;refine abA kZ (λ K hK=>?_))|refine yO ?_|(refine yC ?_ ?_<;>intro hc)|(refine yN hK ?_;clear hK K))|refine wG ?_|(refine yR ?_;intro K hK)|fail)
     have x4:=x03.trans (ex.trans e');have ho'':OwnP w.heap.size tSp .u64 wb' v' (S++[((KB:Int)+f,(KB:Int)+f+m+1)]):=by
      unfold OwnP;rw [fyA,List.length_append,List.length_singleton];exact Own.rebase ho' (hl.ge (λ k hk=>(Own.lt ho k hk).1) x4.size)
     have hr':=hf.own (hr3.ext (ex.trans e')) (λ k h1 h2=>by
      obtain ⟨cur,hcur⟩:=asA (hr3.ext (ex.trans e')) h1;exact Own.apart (ho.ext e') hcur dZ h2)
     exact a4A (j+1,v') (λ w5 e5=>⟨hjl,(Fr.ext x4 hf (λ k hk=>(Own.lt ho k hk).1)).trans e5,Own.ext hr' e5,by dsimp only;rw [hend,s3,hpair];exact ho''.ext e5⟩) eZ sZ
  ·obtain rfl:j=rs.length:=oZ
   rw [hE1,Int.toNat_natCast,← hE3] at ho
   repeat' (first|(refine yL ?_;first|refine a0A rfl ?_|refine yO ?_|(refine yC ?_ ?_<;>intro hc)|(refine yN hK ?_;clear hK K))|refine wG ?_|(refine yR ?_;intro K hK)|fail)
   exact a4A (i+1,so) (λ w5 e5=>⟨hil,x03.trans e5,ho.ext e5⟩) eZ sZ
 ·obtain rfl:i=nk p:=oZ
  rw [qoA] at ho
  repeat' (first|(refine yL ?_;first|refine a0A rfl ?_|refine yO ?_|(refine yC ?_ ?_<;>intro hc)|(refine yN hK ?_;clear hK K))|refine wG ?_|(refine yR ?_;intro K hK)|fail)
  exact aiA rfl rfl he (λ u w5 e5 hu=>by obtain rfl:u=_:=hu;exact ho.ext e5)
end Go.Proofs.YtbokphkfojijoaaGreatDoor
end
section
namespace Go.Proofs.YtbokphkfojijoaaGreatDoor
open Go.LA Go.ArrP Go.RowKit
variable {A B:Nat→Prop}
structure MidD (xs ys:List Int) (k j:Nat):Prop where
 len:ys.length=xs.length
 lo:0<k
 le:k<j
 hi:j≤xs.length
 pre:ys.take k=ddN xs j
 rest:∀ i,j≤i+1→ys.getD i 0=xs.getD i 0
end Go.Proofs.YtbokphkfojijoaaGreatDoor
end
section
namespace Go.Proofs.YtbokphkfojijoaaGreatDoor
open Go.LA Go.ArrP Go.RowKit
variable {A B:Nat→Prop}
def RowCn (base:Nat) (A:Nat→Prop) (p:Nat→Bool) (kk:Int) (v:Value) (w:World):Prop:=∃ qc:Qd,Own base tC 4 w v 1 (qcs qc)∧Cn A w (qv qc) p kk∧∀ u ∈ qcs qc,u.oneCell'=true
def ywA (base:Nat) (A:Nat→Prop) (p:Nat→Bool) (kk:Int):AV:=⟨λ v w=>RowCn base A p kk v w,λ _ _ _ e ⟨qc,h1,h2,h3⟩=>⟨qc,h1.ext e,h2.ext e,h3⟩⟩
section
variable {P:Program} {l:List Oper} {N:Nn} {wb:World} {K:List Oper→Env→Prop} {rest:List Oper} {E:Env} {Q:Exit→Act→World→Prop}
variable {d:Tmp} {ty t:TypeId} {pos:String} {after:Array Edge} {g:Option (Nat × Bool)} {x y z:Operand}
theorem f9A {z0:Value} {b base:Nat} {r:AD} {p:Nat→Bool} {kk:Int} (hbase:base≤wb.heap.size) (hg:b8A l E g=some true) (hel:El P t tC z0 4 b) (hx:opE E x=r) (hr:∀ v w,Ext wb w→r.ok v w→Cn A w v p kk) (h:LA P l wb K rest ((d,.pred (ywA base A p kk))::E)) :
 LA P l wb K (⟨some d,.buildSlice t 1 #[(0,x)],ty,pos,after,g⟩::rest) E:=by
 refine b1A (.pred (ywA base A p kk)) hg (λ a w he hh=>?_) h;have h1:=hh x (by simp [Op.operands]);rw [hx] at h1;have hcn:=hr _ _ he h1;obtain ⟨qc,hqc,h1c⟩:=hcn.qd;have hc:(a.eval x).cells=(qcs qc).toArray:=by rw [hqc];rfl
 have hcz:(a.eval x).cells.size=4:=by rw [hc];rfl
 have hrun:(Instr.buildSlice t 1 #[(0,a.eval x)]).run P w=.ok (.slice (some ⟨w.heap.size,0,none⟩) 1 1) (w.alloc (.cells (a.eval x).cells tC)):=by
  have hf:=ilA (c:=a.eval x) (z:=z0.cells) (s:=4) hcz;simp only [Instr.buildSlice,Sem.run_bind,run_underlying hel.ht,Result.andThen_ok,hel.sizeOf,Nat.one_mul,gt_iff_lt,show ¬ (2 ^ 24<4) by omega,if_false,show ¬ (4=0) by omega,Sem.run_pure,hel.zero];simp only [Nat.one_mul] at hf;rw [hf];rfl
 simp only [execOp,List.map_toArray,List.map_cons,List.map_nil,Sem.run_bind,hrun,Result.andThen_ok,Sem.run_pure];have x1:Ext w (w.alloc (.cells (a.eval x).cells tC)):=Ext.alloc _ _;refine ⟨x1,qc,⟨by simp [qcs],.inr ⟨w.heap.size,1,(a.eval x).cells,rfl,Nat.le_trans hbase he.size,heap_alloc_new w _,Nat.le_refl _,by decide,by rw [hcz],?_⟩⟩,(hqc▸hcn).ext x1,h1c⟩;rw [hc];rfl
end
theorem RS.app {w w':World} {b:Nat} {kv lv kv' lv':Value} {p:Nat→Bool} (hS:RS A w b kv lv p) {k:Nat} (hk:k<65536) (hlast:∀ j,k≤j→ne p j=false) {q:Nat→Bool} (hq:∀ i,65536≤i→q i=false) (hq0:0<cnt q 65536) {Q:List Qd} {qc:Qd} (q1:Q.length=nk p)
 (q3:∀ i,i<nk p→Cn (λ k=>A k∧kv.ownBlock≠some k) w (qv (Q.getD i q0)) (blk p (kp p i)) (apA (blk p (kp p i)))) (hc:Cn (λ j=>A j∧kv'.ownBlock≠some j) w' (qv qc) q (apA q))
 (hf:Fr (onw b kv lv) w w') (hb:w'.heap[b]?=some (.cells #[kv',lv'] tS (0,0))) (hkk:OwnI 0 tK .u16 w' kv' (b7A p++[(k:Int)])) (hl:Own 0 tC 4 w' lv' (nk p+1) (b5A Q++qcs qc)) (hk1:LocR w kv kv') (hl1:LocR w lv lv'):Mut A w b kv lv (upd p k q) w':=by
 have hn:=hlast k (Nat.le_refl _);have hcn:cnt (ne p) k=nk p:=(kkA 65536 (Nat.le_of_lt hk) (λ x h1 _=>hlast x h1)).symm;have hkeys:=i1A p hk hq hq0 hn;have hkl:=bfA p;have hnk:=pjA p hk hq hq0 hn;rw [hcn,List.take_of_length_le oZ,List.drop_of_length_le oZ,List.append_nil] at hkeys;have hcells:b5A (Q++[qc])=b5A Q++qcs qc:=by rw [cwA];rfl
 refine ⟨kv',lv',⟨hb,by rw [hkeys];exact hkk,lxA hS.top hk,Q++[qc],by rw [List.length_append,List.length_singleton,q1,hnk],by rw [hnk,hcells];exact hl,λ i hi=>?_⟩,hf,hk1,hl1⟩;rw [hnk] at hi;rw [vbA p hk hq hq0 hn hi,hcn];have hne:∀ j,j<nk p→kp p j≠k:=λ j hj h=>by
  have:=(gjA hj).2.1;rw [h,hn] at this;cases this
 split
 ·rename_i h1
  rw [gdA p q (hne i h1),exA oZ];refine Cn.fr ((q3 i h1).mono (A':=λ k=>A k∧kv'.ownBlock≠some k∧kv.ownBlock≠some k) λ j hlt ha=>⟨ha.1,λ h=>?_,ha.2⟩) hf (hS.plainA λ k h1 h2=>h2.2.2 h1) |>.mono λ k _ h=>⟨h.1,h.2.1⟩
  rcases hk1 with h' | h'
  ·exact ha.2 (h'▸h)
  ·have:=h' j h;omega
 ·have hi':i=nk p:=oZ
  rw [if_pos hi',jwA p k hq,dfA oZ,show i-Q.length=0 by omega];exact hc
theorem Cn.loc3 {w w1 w':World} {kv kv' v:Value} {p:Nat→Bool} {kk:Int} (hl:LocR w1 kv kv') (hs:w.heap.size≤w1.heap.size) (h:Cn (λ j=>A j∧kv.ownBlock≠some j∧j<w.heap.size) w' v p kk):Cn (λ j=>A j∧kv.ownBlock≠some j∧kv'.ownBlock≠some j) w' v p kk :=
 h.mono λ j _ ha=>⟨ha.1,ha.2.1,λ h=>by
  rcases hl with h' | h'
  ·exact ha.2.1 (h'▸h)
  ·have h9:=h' j h
   have h10:=ha.2.2;omega⟩
end Go.Proofs.YtbokphkfojijoaaGreatDoor
end
section
namespace Go.Proofs.YtbokphkfojijoaaGreatDoor
open Go.LA Go.ArrP Go.RowKit
variable {A B:Nat→Prop}
theorem new_x (w:World):Fc Tryz.prog 40 #[] w (Ret w (.pred (woA w.heap.size #[nilS,nilS] tS))):=by
 refine Fc.of (args:=[]) Tryz.func40 rfl rfl Tryz.ntmps40 nZ ?_
 repeat' (first|(refine yL ?_;first|refine a0A rfl ?_|refine guA (c:=.agg #[nilS,nilS]) rfl (λ _=>by kernel_rfl) ?_|refine j3A rfl rfl ?_|refine yO ?_|(refine yC ?_ ?_<;>intro hc)|(refine yN hK ?_;clear hK K))|refine wG ?_|(refine yR ?_;intro K hK)|fail)
 exact aiA rfl rfl (Ext.refl _) (λ v w' e hv=>hv)
theorem t7A {w:World} {base base':Nat} {cs:Array Value} {e:TypeId} (hb:base'≤base) (en:Ending) (w':World) (h:Ret w (.pred (woA base cs e)) en w'):Ret w (.pred (woA base' cs e)) en w':=by
 obtain ⟨v,h1,h2,b,h3,h4⟩:=h;exact ⟨v,h1,h2,b,Nat.le_trans hb h3,h4⟩
end Go.Proofs.YtbokphkfojijoaaGreatDoor
end
section
namespace Go.Proofs.YtbokphkfojijoaaGreatDoor
open Go.LA Go.ArrP Go.RowKit
variable {A B:Nat→Prop}
theorem viA {w0 w:World} {b:Nat} {kv lv va:Value} {p:Nat→Bool} {xs:List Int} {k:Nat} (hx0:Ext w0 w) (hT:Tab w0) (hB:∀ k,onw b kv lv k→w0.heap.size≤k) (hS:RS A w b kv lv p) (hA:Fsh A w) (hk:k<65536) (hlast:∀ j,k≤j→ne p j=false) (ha:SlI .u16 w va xs) (hi:Inc xs) (hlo:Low xs) (h0:0<xs.length) :
 Fc Tryz.prog 83 #[.pointer (some ⟨b,0,none⟩),.int .u16 k,va] w (λ en w'=>en=.returned (.tuple #[])∧Mut A w b kv lv (upd p k (bxA xs)) w'):=by
 have hF:=hS.fsh hA;have hq1:∀ i,65536≤i→bxA xs i=false:=λ i hi'=>by
  unfold bxA;exact decide_eq_false λ h=>by have:=hlo _ h;omega
 have hq0:0<cnt (bxA xs) 65536:=by
  rw [← ayA,jlA hi hlo];exact h0
 have hnkc:=jdA p;obtain ⟨q,hq⟩:∃ q,q=bxA xs:=⟨_,rfl⟩;have hof:∀ w',Ext w w'→_:=λ w' e=>q4A (ha.ext e) hi hlo (hF.ext e)
 rw [← hq] at hq1 hq0 hof ⊢;clear hq;refine Fc.of (args:=[_,_,_]) Tryz.func83 rfl rfl Tryz.ntmps83 nZ ?_
 repeat' (first|(refine yL ?_;first|refine yB ?_|(refine oD 6 ?_;refine a3A (hK _ _ (mqA (q:=11) (φ:=cnP (λ k=>A k∧kv.ownBlock≠some k) q 1) (n:=4) rfl rfl dZ rfl rfl b2A (λ _=>rfl) rfl (λ _=>rfl) (λ b11 c11 w11 e11 hb11 hh11 hn11 hc11=>?_)));clear hK K;refine abA kZ (λ K hK=>?_))|(refine oD 13 ?_;refine dzA rfl rfl ?_;have hS11:=hS.ext e11;have hcA:Cn (λ j=>A j∧kv.ownBlock≠some j∧j<w11.heap.size) w11 (.agg c11) q 1:=Cn.mono hc11 λ j hj ha=>⟨ha.1,ha.2,hj⟩)|(refine oNc ?_;refine a8A rfl rfl ?_)|(refine oF 0 ?_;refine a2A (a':=⟨b,0,none⟩) rfl rfl (λ _=>rfl) ?_)|(refine oF 1 ?_;refine a2A (a':=⟨b,1,none⟩) rfl rfl (λ _=>rfl) ?_)|(refine oLt 27 ?_;refine a7A (c:=kv) rfl (λ _=>rfl) rfl hS11.hb rfl ?_)|(refine oLt 92 ?_;refine a7A (c:=lv) rfl (λ _=>rfl) rfl hS11.hb rfl ?_)|(refine oD 20 ?_;refine e7A rfl c5A rfl rfl ?_)|(refine oD 26 ?_;refine brA rfl hh11 hn11 rfl (λ _=>rfl) (λ _=>rfl) ?_)|refine yO ?_|(refine yC ?_ ?_<;>intro hc)|(refine yV ?_;first|(refine oC 121 ?_;refine a1A (f:=121) rfl rfl rfl  (.tup2 (.pred (cnP (λ k=>A k∧kv.ownBlock≠some k) q 1)) (.val (.bool true))) (by intro u1 w e hu1;(try obtain rfl:u1=_:=hu1);exact hof _ e) ?_))|(refine yN hK ?_;clear hK K))|(refine oCX ?_;first|refine b4A (id:=1) [8,16,19,22] kZ kZ kZ (a9A ?_))|refine wG ?_|(refine yR ?_;intro K hK)|refine wPh ?_|fail)
 have hplK:∀ w',Ext w11 w'→Plain (λ j=>A j∧kv.ownBlock≠some j∧j<w11.heap.size) (λ j=>kv.ownBlock=some j) w':=λ w' x j hj=>by
  obtain ⟨cur,hcur⟩:=asA (hS11.hk.ext x) hj;exact ⟨cur,_,_,hcur,by decide,by decide,λ ha=>absurd hj ha.2.1⟩
 have hplL:∀ (AA:Nat→Prop) w' n cs,Own 0 tC 4 w' lv n cs→Plain AA (λ j=>lv.ownBlock=some j) w':=λ AA w' n cs ho j hj=>by
  obtain ⟨cur,hcur⟩:=asA ho hj;exact ⟨cur,_,_,hcur,by decide,by decide,λ _=>by decide⟩
 have lkv:∀ k,kv.ownBlock=some k→k<w11.heap.size:=λ k h=>hS11.lt (.inr (.inl h))
 have llv:∀ k,lv.ownBlock=some k→k<w11.heap.size:=λ k h=>hS11.lt (.inr (.inr h))
 have hsn:=slot_ne hS11;obtain ⟨Q,q1,q2,q3⟩:=hS11.hl;have hklen:=bfA p;have hnkl:=jdA p;refine daA rfl c5A rfl hS11.hk rfl HasC.own (λ u hu=>by rw [List.mem_singleton] at hu;subst hu;rfl) (by unfold maxLen;omega) oZ (λ kv' w1' w2 e1 ho' hf hl=>⟨_,λ t u _ hu=>bkA t u hu,a9A ?_⟩);have hT2:=hT.ext (Fr.ext (hx0.trans (e11.trans e1)) hf (λ j h=>hB j (.inr (.inl h))));have hF3:Fsh (λ j=>A j∧kv.ownBlock≠some j∧kv'.ownBlock≠some j) w2:=λ j hj=>⟨hA j (Nat.le_trans (Nat.le_trans e11.size e1.size) (Nat.le_trans hf.size hj)),λ h=>by have h1:=lkv j h;have h2:=e1.size;have h3:=hf.size;omega,λ h=>by have h1:=(Own.lt ho' j h).2;omega⟩
 have hb2:=hf.at (e1.block hS11.hb) (λ h=>hsn.1 h);have hh2:=hf.at (e1.block hh11) (λ h=>Own.apart hS11.hk hh11 dZ h);have q22:Own 0 tC 4 w2 lv (nk p) (b5A Q):=hf.own (q2.ext e1) (λ k h1 h2=>hsn.2.2 k h2 h1);have hc2:=(hcA.ext e1).fr hf (hplK _ e1);have sz2:=Nat.le_trans e1.size hf.size
 repeat' (first|(refine yL ?_;first|refine yB ?_|(refine oNc ?_;refine a8A rfl rfl ?_)|(refine oF 0 ?_;refine a2A (a':=⟨b,0,none⟩) rfl rfl (λ _=>rfl) ?_)|(refine oF 1 ?_;refine a2A (a':=⟨b,1,none⟩) rfl rfl (λ _=>rfl) ?_)|(refine oLt 27 ?_;refine a7A (c:=kv) rfl (λ _=>rfl) rfl hb2 rfl ?_)|(refine oLt 92 ?_;refine a7A (c:=lv) rfl (λ _=>rfl) rfl hb2 rfl ?_)|(refine oLt 96 ?_;refine brA (n:=4) rfl hh2 hn11 rfl (λ _=>rfl) (λ _=>rfl) ?_)|(first|(refine oD 27 ?_;refine oC 93 ?_;refine a1A (f:=93) rfl rfl rfl  (.pred (cnP (λ j=>A j∧kv.ownBlock≠some j∧kv'.ownBlock≠some j) q (apA q))) (by intro u1 w e hu1;(try obtain rfl:u1=_:=hu1);exact d1A ((Cn.loc3 hl e1.size hc2).ext e) (hT2.ext e) (hF3.ext e)) ?_)|(refine oD 28 ?_;refine f9A (base:=w11.heap.size) sz2 rfl d8A rfl (λ v w e h=>h) ?_))|refine yO ?_|(refine yC ?_ ?_<;>intro hc)|(refine yN hK ?_;clear hK K))|refine wG ?_|(refine yR ?_;intro K hK)|refine wPh ?_|fail)
 refine koA 28 rfl dZ rfl (λ v53 w3 e3 h53=>?_);obtain ⟨qc,r1,r2,r3⟩:=h53;refine daA rfl d8A rfl (q22.ext e3) rfl (HasC.ownV r1) r3 (by unfold maxLen;omega) oZ (λ lv' w3' w4 e3' hol hfl hll=>⟨_,λ t u _ hu=>bkA t u hu,a9A ?_⟩);have x23:=e3.trans e3';have hb4:=hfl.at (x23.block hb2) (λ h=>hsn.2.1 h);have r14:=hfl.own (ho'.ext x23) (λ k h1 h2=>by
  obtain ⟨cur,hcur⟩:=asA (ho'.ext x23) h1;exact Own.apart (q22.ext x23) hcur dZ h2)
 have rc4:=(r2.ext e3').fr hfl (hplL _ _ _ _ (q22.ext x23));obtain ⟨ck1,ck2⟩:=etA r14;obtain ⟨cl1,cl2⟩:=etA hol;have hF4:Fr (onw b kv lv) w11 w4:=(((Fr.of e1).trans (hf.mono λ k h=>.inr (.inl h))).trans (Fr.of x23)).trans (hfl.mono λ k h=>.inr (.inr h))
 repeat' (first|(refine yL ?_;first|refine yB ?_|(refine oNc ?_;refine a8A rfl rfl ?_)|(refine oF 0 ?_;refine a2A (a':=⟨b,0,none⟩) rfl rfl (λ _=>rfl) ?_)|(refine oF 1 ?_;refine a2A (a':=⟨b,1,none⟩) rfl rfl (λ _=>rfl) ?_)|(refine oLt 27 ?_;refine a7A (c:=kv) rfl (λ _=>rfl) rfl hb4 rfl ?_)|(refine oLt 92 ?_;refine a7A (c:=lv) rfl (λ _=>rfl) rfl hb4 rfl ?_)|refine yO ?_|(refine yC ?_ ?_<;>intro hc)|(refine yN hK ?_;clear hK K))|refine wG ?_|(refine yR ?_;intro K hK)|refine wPh ?_|fail)
 refine eoA (news:=[kv']) rfl rfl rfl hb4 ck1 (λ _=>rfl) nZ (λ u hu=>by rw [List.mem_singleton] at hu;subst hu;exact ck2) (λ w6 e6=>⟨_,λ t u hu=>bkA t u hu,a9A ?_⟩);have hb6:(w6.setRow b #[kv',lv]).heap[b]?=_:=setRow_heap w6 b _ _ _ _ (e6.block hb4);have rc7:=(rc4.ext e6).setRow (e6.block hb4) ⟨by decide,by decide,by decide⟩ #[kv',lv];obtain ⟨w7,hw7⟩:∃ w7,w7=w6.setRow b #[kv',lv]:=⟨_,rfl⟩;have hF7:Fr (onw b kv lv) w11 w7:=hw7▸((hF4.trans (Fr.of e6)).setRow (.inl rfl) _);have r17:Own 0 tK 1 w7 kv' _ _:=hw7▸Own.setRow (r14.ext e6) _ (Own.apart (r14.ext e6) (e6.block hb4) dZ);have s17:Own 0 tC 4 w7 lv' _ _:=hw7▸Own.setRow (hol.ext e6) _ (Own.apart (hol.ext e6) (e6.block hb4) dZ);rw [show (#[kv,lv].toList.take 0++[kv']++#[kv,lv].toList.drop (0+[kv'].length)).toArray=#[kv',lv] from rfl];rw [← hw7] at hb6 rc7 ⊢;clear hw7
 repeat' (first|(refine yL ?_;first|refine yB ?_|(refine oNc ?_;refine a8A rfl rfl ?_)|(refine oF 0 ?_;refine a2A (a':=⟨b,0,none⟩) rfl rfl (λ _=>rfl) ?_)|(refine oF 1 ?_;refine a2A (a':=⟨b,1,none⟩) rfl rfl (λ _=>rfl) ?_)|(refine oLt 27 ?_;refine a7A (c:=kv) rfl (λ _=>rfl) rfl hb6 rfl ?_)|(refine oLt 92 ?_;refine a7A (c:=lv) rfl (λ _=>rfl) rfl hb6 rfl ?_)|refine yO ?_|(refine yC ?_ ?_<;>intro hc)|(refine yN hK ?_;clear hK K))|refine wG ?_|(refine yR ?_;intro K hK)|refine wPh ?_|fail)
 refine eoA (news:=[lv']) rfl rfl rfl hb6 cl1 (λ _=>rfl) nZ (λ u hu=>by rw [List.mem_singleton] at hu;subst hu;exact cl2) (λ w8 e8=>⟨_,λ t u hu=>bkA t u hu,b3A ?_⟩);have hb8:(w8.setRow b #[kv',lv']).heap[b]?=_:=setRow_heap w8 b _ _ _ _ (e8.block hb6);have rc9:=(rc7.ext e8).setRow (e8.block hb6) ⟨by decide,by decide,by decide⟩ #[kv',lv'];obtain ⟨w9,hw9⟩:∃ w9,w9=w8.setRow b #[kv',lv']:=⟨_,rfl⟩;have hF9:Fr (onw b kv lv) w11 w9:=hw9▸((hF7.trans (Fr.of e8)).setRow (.inl rfl) _);have r19:Own 0 tK 1 w9 kv' _ _:=hw9▸Own.setRow (r17.ext e8) _ (Own.apart (r17.ext e8) (e8.block hb6) dZ);have s19:Own 0 tC 4 w9 lv' _ _:=hw9▸Own.setRow (s17.ext e8) _ (Own.apart (s17.ext e8) (e8.block hb6) dZ);rw [show (#[kv',lv].toList.take 1++[lv']++#[kv',lv].toList.drop (1+[lv'].length)).toArray=#[kv',lv'] from rfl];rw [← hw9] at hb8 rc9 ⊢;clear hw9;have hkk9:OwnI 0 tK .u16 w9 kv' (b7A p++[(k:Int)]):=by unfold OwnI;rw [List.map_append,List.length_append,List.length_singleton];exact r19
 have hmut:Mut A w11 b kv lv _ w9:=hS11.app hk hlast hq1 hq0 q1 q3 (rc9.mono λ j _ ha=>⟨ha.1,ha.2.2⟩) hF9 hb8 hkk9 s19 (hl.le e1.size) (hll.le (by have:=x23.size;omega))
 repeat' (first|(refine yL ?_;first|refine yB ?_|(refine oNc ?_;refine a8A rfl rfl ?_)|(refine oF 0 ?_;refine a2A (a':=⟨b,0,none⟩) rfl rfl (λ _=>rfl) ?_)|(refine oF 1 ?_;refine a2A (a':=⟨b,1,none⟩) rfl rfl (λ _=>rfl) ?_)|(refine oLt 27 ?_;refine a7A (c:=kv) rfl (λ _=>rfl) rfl hb8 rfl ?_)|(refine oLt 92 ?_;refine a7A (c:=lv) rfl (λ _=>rfl) rfl hb8 rfl ?_)|refine yO ?_|(refine yC ?_ ?_<;>intro hc)|(refine yN hK ?_;clear hK K))|refine wG ?_|(refine yR ?_;intro K hK)|refine wPh ?_|fail)
 exact clA rfl (λ w5 e5=>⟨rfl,(hmut.from e11).ext e5⟩) (.inl rfl)
end Go.Proofs.YtbokphkfojijoaaGreatDoor
end
section
namespace Go.Proofs.YtbokphkfojijoaaGreatDoor
open Go.LA Go.ArrP Go.RowKit
variable {A B:Nat→Prop}
theorem znA:El Tryz.prog 72 71 (.int .u32 0) 1 4:=⟨rfl,rfl,rfl,by decide⟩
theorem rgA (w:World) (v:Value) (n:Nat) (cs:List Value) (h:SlC w v n 1 cs) (h1:∀ u ∈ cs,u.oneCell'=true) (hb:n*4≤140737488355328):Fc Tryz.prog 81 #[v] w (Ret w (.pred (j6A w.heap.size 71 1 n cs))):=by
 obtain ⟨h0,a,cap,rfl,hc,hm,hn,hcs⟩:=id h;have hlen:=h.len;cases a with
 | none =>
   obtain rfl:=hn rfl;obtain rfl:n=0:=oZ;obtain rfl:cs=[]:=List.eq_nil_of_length_eq_zero oZ;refine Fc.of (args:=[_]) Tryz.func81 rfl rfl Tryz.ntmps81 nZ ?_
   repeat' (first|(refine yL ?_;first|refine a0A rfl ?_|refine bsA (c:=.bool true) rfl rfl rfl (λ _=>rfl) ?_|refine yO ?_|(refine yC ?_ ?_<;>intro hc)|(refine yN hK ?_;clear hK K))|refine wG ?_|(refine yR ?_;intro K hK)|(refine oPX ?_;first|exact aiA rfl rfl (Ext.refl _) (λ u w2 e2 hu=>by obtain rfl:u=_:=hu;exact Own.nil))|fail)
 | some a =>
   refine Fc.of (args:=[_]) Tryz.func81 rfl rfl Tryz.ntmps81 nZ ?_
   repeat' (first|(refine yL ?_;first|refine a0A rfl ?_|refine bsA (c:=.bool false) rfl rfl rfl (λ _=>rfl) ?_|refine ksA 71 (s:=1) rfl (λ _=>by kernel_rfl) ?_|(refine a3A (hK _ _ (awA 5 rfl (λ v5 w5 e5 h5=>?_)));clear hK K;have h6:=h.ext e5;have ho:Own w.heap.size _ _ w5 v5 0 []:=h5;refine abA kZ (λ K hK=>?_))|(refine a3A (hK _ _ (d4A rfl dZ znA rfl ho rfl (HasC.val h6) h1 (by rw [Nat.zero_add];unfold maxLen;omega) (by rw [Nat.zero_add];exact hb) e5.size (λ v' w2 w3 he2 ho3 hg3=>?_)));clear hK K;dsimp only [vals];refine abA kZ (λ K hK=>?_))|refine yO ?_|(refine yC ?_ ?_<;>intro hc)|(refine yN hK ?_;clear hK K))|refine wG ?_|(refine yR ?_;intro K hK)|fail)
   exact aiA rfl rfl ((e5.trans he2).grown hg3 (λ q hq=>(Own.lt ho q hq).1)) (λ u w4 e4 hu=>by
    obtain rfl:u=_:=hu;have h9:Own w.heap.size 71 1 w3 u n cs:=by simpa using ho3
    exact h9.ext e4)
theorem RS.beside {w1 wa wb:World} {b:Nat} {kv lv va va':Value} {p:Nat→Bool} {base n:Nat} {cs:List Value} (hS:RS (λ j=>A j∧va.ownBlock≠some j) w1 b kv lv p) (hn:∀ k,va.ownBlock=some k→¬ onw b kv lv k) (hva:Own base tK 1 w1 va n cs) (e:Ext w1 wa) (hf:Fr (λ k=>va.ownBlock=some k) wa wb) (hl:LocR wa va va') :
 RS (λ j=>A j∧va'.ownBlock≠some j) wb b kv lv p∧∀ k,va'.ownBlock=some k→¬ onw b kv lv k:=by
 have hSa:=hS.ext e;have h1:RS (λ j=>(A j∧va.ownBlock≠some j)∧va'.ownBlock≠some j) wa b kv lv p:=hSa.mono λ k hk ha _=>⟨ha,λ h=>by
  rcases hl with h' | h'
  ·exact ha.2 (h'▸h)
  ·have:=h' k h;omega⟩
 have h2:Plain (λ j=>(A j∧va.ownBlock≠some j)∧va'.ownBlock≠some j) (λ k=>va.ownBlock=some k) wa:=λ k hk=>by
  obtain ⟨cur,hc⟩:=asA (hva.ext e) hk;exact ⟨cur,_,_,hc,by decide,by decide,λ ha=>absurd hk ha.1.2⟩
 refine ⟨(h1.fr hf h2 (λ k hk h=>hn k h hk)).mono λ k _ ha _=>⟨ha.1.1,ha.2⟩,λ k hk ho=>?_⟩
 rcases hl with h' | h'
 ·exact hn k (h'▸hk) ho
 ·have h3:=h' k hk
  have h4:=hSa.lt ho;omega
theorem RS.off {w:World} {b:Nat} {kv lv v:Value} {p:Nat→Bool} {base e s n:Nat} {cs:List Value} (hS:RS A w b kv lv p) (ho:Own base e s w v n cs) (he:e≠tS∧e≠tK∧e≠tC) (k:Nat) (hk:v.ownBlock=some k):¬ onw b kv lv k:=by
 obtain ⟨Q,h1,h2,h3⟩:=hS.hl;rintro (rfl|h|h)
 ·exact Own.apart ho hS.hb he.1 hk
 ·obtain ⟨cur,hc⟩:=asA hS.hk h
  exact Own.apart ho hc he.2.1 hk
 ·obtain ⟨cur,hc⟩:=asA h2 h
  exact Own.apart ho hc he.2.2 hk
theorem voA {q:Nat→Bool} (hq:∀ i,65536≤i→q i=false):bxA (aeA q 65536)=q:=by
 funext i
 by_cases h:i<65536
 ·exact cvA q h
 ·rw [hq i oZ]
  unfold bxA;exact decide_eq_false λ hm=>by
   obtain ⟨j,h1,_,h3⟩:=(byA _ _ _).1 hm;omega
theorem of_s {w:World} {v:Value} {ys:List Int} (h:SlI .u32 w v ys) (hu0:∀ x ∈ ys,0≤x∧x<4294967296) (hn:ys.length≤1000000000) (hT:Tab w) (hB:Fsh B w) (hA:Fsh A w):Fc Tryz.prog 41 #[v] w (Ret w (.pred (rsP B A (bxA ys)))):=by
 have hcl:∀ w',Ext w w'→Fc Tryz.prog 81 #[v] w' (Ret w' (.pred (axA w'.heap.size 71 .u32 ys))):=λ w' e=>rgA w' v ys.length (ys.map (Value.int .u32)) (h.ext e) (λ u hu=>by obtain ⟨z,_,rfl⟩:=List.mem_map.1 hu;rfl) oZ
 obtain ⟨xs,hxs⟩:∃ xs,xs=ys.mergeSort (λ x y=>decide (x≤y)):=⟨_,rfl⟩;have hs:=q9A ys;have hmm:=x1A ys;have hxl:xs.length=ys.length:=by rw [hxs,List.length_mergeSort]
 have hu:∀ x ∈ xs,0≤x∧x<4294967296:=λ x hx=>hu0 x (by rw [hxs,List.mem_mergeSort] at hx;exact hx)
 rw [← hxs] at hs hmm;rw [← hmm];refine Fc.of (args:=[_]) Tryz.func41 rfl rfl Tryz.ntmps41 nZ ?_
 repeat' (first|(refine yL ?_;first|refine a0A rfl ?_|(refine oD 9 ?_;refine a3A (hK _ _ (awA 0 rfl (λ v8 w8 e8 h8=>?_)));clear hK K;replace h8:OwnI w.heap.size 71 .u32 w8 v8 ys:=h8;refine abA kZ (λ K hK=>dzA rfl rfl ?_))|(refine oD 10 ?_;refine a3A (hK _ _ (cqA rfl dZ rfl rfl (λ v w'=>v=.tuple #[]∧Ext w w'∧OwnI w.heap.size 71 .u32 w' v8 xs) (λ w1 e1=>(Srt.sort32_c (e8.trans e1) (h8.ext e1) oZ).mono (λ en w' h=>⟨_,h.1,rfl,h.2.1,hxs▸h.2.2⟩)) (λ v w20 hm=>?_)));clear hK K;obtain ⟨rfl,x20,h20⟩:=hm)|(refine oD 12 ?_;refine a3A (hK _ _ (awA 3 rfl (λ v3 w3 e3 h3=>?_)));clear hK K;obtain ⟨b,hbb,rfl,h3⟩:=h3;replace h20:=h20.ext e3;refine abA kZ (λ K hK=>dzA rfl rfl ?_))|(refine d3A ?_;refine azA rfl _ rfl rfl (HasI.ownV h20).c ?_)|refine yO ?_|(refine yC ?_ ?_<;>intro hc)|(refine yV ?_;first|(refine oC 81 ?_;refine a1A (f:=81) rfl rfl rfl  (.pred (axA w.heap.size 71 .u32 ys)) (by intro u1 w e hu1;(try obtain rfl:u1=_:=hu1);exact (hcl _ e).mono (a6A e.size)) ?_)|(refine oC 40 ?_;refine faA (f:=40) rfl rfl  (.pred (woA w.heap.size #[nilS,nilS] tS)) (by intro w e;exact (new_x _).mono (t7A (Nat.le_trans x20.size e.size))) ?_))|(refine yN hK ?_;clear hK K))|refine wG ?_|(refine yR ?_;intro K hK)|fail)
 have hon0:∀ k,onw b nilS nilS k→w.heap.size≤k:=λ k hk=>by
  rcases hk with rfl|hk|hk
  ·exact hbb
  ·cases hk
  ·cases hk
 refine aaA (ι:=Nat × Value) (λ i=>[(0,.val v8),(3,.val (.pointer (some ⟨b,0,none⟩))),(4,.val i.2),(12,.val v8),(13,.val (.int .i64 xs.length)),(14,.val (.int .i64 i.1))]) (λ i w'=>i.1≤xs.length∧Ext w w'∧OwnI w.heap.size 71 .u32 w' v8 xs∧OwnI w.heap.size tK .u16 w' i.2 (ofA xs i.1)∧∃ kv lv,RS (λ j=>A j∧i.2.ownBlock≠some j) w' b kv lv (ofS xs i.1)∧(∀ k,onw b kv lv k→w.heap.size≤k)∧∀ k,i.2.ownBlock=some k→¬ onw b kv lv k) (λ i=>xs.length-i.1)
  (λ w2 e2=>⟨(0,nilS),⟨Nat.zero_le _,x20.trans (e3.trans e2),h20.ext e2,OwnI.nil,nilS,nilS,RS.new (e2.block h3),hon0,λ k hk=>by cases hk⟩,sZ⟩) ?_
 rintro ⟨i,va⟩ w1 ⟨hi,hx1,hv1,hva,kv,lv,hS,hon,hnv⟩;dsimp only at hi hva hS hnv ⊢;have hT1:=hT.ext hx1;have hal:(ofA xs i).length≤65536:=by
  unfold ofA
  split
  ·exact Nat.zero_le _
  ·rw [ayA];exact cnt_le _ _
 by_cases hil:i<xs.length
 ·obtain ⟨c,hc⟩:∃ c:Nat,xs.getD i 0=(c:Int):=⟨(xs.getD i 0).toNat,by have:=jcA hu hil;omega⟩
  have hcb:c<4294967296:=by have:=jcA hu hil;omega
  have hnew:=z4A hs hu hil;have hK2:ofK xs (i+1)=c / 65536:=by unfold ofK;rw [Nat.add_sub_cancel,hc,Int.toNat_natCast]
  have ec:IntKind.u16.wrap (c:Int)=((c % 65536:Nat):Int):=by rw [IntKind.wrap_u16];omega
  rw [hc,Int.toNat_natCast] at hnew
  by_cases hi0:i=0
  ·rw [if_neg oZ,if_neg oZ] at hnew
   replace hnew:=hnew (.inl hi0);have hA0:ofA xs i=[]:=by rw [hi0];rfl
   have hS0:ofS xs i=λ _=>false:=by rw [hi0];rfl
   have hm0:bxA (xs.take i)=λ _=>false:=by funext x;rw [hi0,List.take_zero];unfold bxA;exact decide_eq_false (λ h=>by cases h)
   rw [hm0] at hnew;rw [hA0] at hva;rw [hS0] at hS
   repeat' (first|(refine yL ?_;first|refine a0A rfl ?_|(refine oD 31 ?_;refine azA (n:=0) rfl _ rfl rfl (HasI.ownV hva).c ?_)|(refine oD 32 ?_;refine ktA rfl rfl rfl rfl dZ ?_)|(refine oD 17 ?_;refine agA rfl _ rfl (λ _=>rfl) rfl (HasI.ownV hv1) rfl hil ?_;rw [hc])|(refine oD 56 ?_;refine e8A rfl rfl rfl rfl ?_;rw [ec])|(refine oD 57 ?_;refine e7A rfl c5A rfl rfl ?_)|(refine oD 58 ?_;refine a3A (hK _ _ (anA (n:=0) (cs:=[]) rfl dZ c5A rfl hva rfl HasC.own (by intro u hu;rw [List.mem_singleton] at hu;subst hu;rfl) (by unfold maxLen;omega) oZ (λ v' wa wb' e' ho' hf hl=>?_)));clear hK K;refine abA kZ (λ K hK=>?_))|refine yO ?_|(refine yC ?_ ?_<;>intro hc)|(refine yN hK ?_;clear hK K))|refine wG ?_|(refine yR ?_;intro K hK)|fail)
   have x4:=hx1.trans e';have ho2:OwnI w.heap.size tK .u16 wb' v' (ofA xs (i+1)):=by
    rw [hnew.1];unfold OwnI;rw [List.map_append,List.length_append,List.length_singleton];exact Own.rebase ho' (hl.ge (λ k hk=>(Own.lt hva k hk).1) x4.size)
   obtain ⟨hS9,hn9⟩:=RS.beside hS hnv hva e' hf hl;have hv9:=hf.own (hv1.ext e') (λ k h1 h2=>by
    obtain ⟨cur,hcur⟩:=asA (hv1.ext e') h1;exact Own.apart (hva.ext e') hcur dZ h2)
   have x9:=Fr.ext x4 hf (λ k hk=>(Own.lt hva k hk).1);exact a4A (i+1,v') (λ w5 e5=>⟨hil,x9.trans e5,Own.ext hv9 e5,ho2.ext e5,kv,lv,by dsimp only;rw [hnew.2];exact hS9.ext e5,hon,hn9⟩) eZ sZ
  ·obtain ⟨a,ha⟩:∃ a:Nat,xs.getD (i-1) 0=(a:Int):=⟨(xs.getD (i-1) 0).toNat,by have:=jcA hu (i:=i-1) oZ;omega⟩
   have hab:a<4294967296:=by have:=jcA hu (i:=i-1) oZ;omega
   have hK1:ofK xs i=a / 65536:=by unfold ofK;rw [ha,Int.toNat_natCast]
   have hpos:=q6A hu (Nat.pos_of_ne_zero hi0) hi;obtain ⟨K,hKd⟩:∃ K,K=ofK xs i:=⟨_,rfl⟩;have hKlt:=vkA hu (Nat.pos_of_ne_zero hi0) hi;have hfull:upd (ofS xs i) (ofK xs i) (bxA (ofA xs i))=bxA (xs.take i):=by
    have h1:bxA (ofA xs i)=blk (bxA (xs.take i)) (ofK xs i):=by
     unfold ofA;rw [if_neg hi0];exact voA (λ j hj=>epA oZ)
    rw [h1];exact q5A hs hu (Nat.pos_of_ne_zero hi0) hi
   have hlast:∀ j,ofK xs i≤j→ne (ofS xs i) j=false:=λ j hj=>by unfold ofS;rw [if_neg hi0];exact vuA _ hj
   have hAinc:Inc (ofA xs i):=by unfold ofA;rw [if_neg hi0];exact bzA _ _
   have hAlow:Low (ofA xs i):=by unfold ofA;rw [if_neg hi0];exact e1A _
   have hFva:Fsh (λ j=>A j∧va.ownBlock≠some j) w1:=λ j hj=>⟨hA j (Nat.le_trans hx1.size hj),λ h=>by have:=(Own.lt hva j h).2;omega⟩
   have eK:(a:Int) / 65536=(K:Int):=by rw [hKd,hK1];omega
   rw [← hKd] at hKlt hfull hlast
   by_cases hac:a=c
   ·have hsame:=jeA (Nat.pos_of_ne_zero hi0) hil (by rw [ha,hc,hac])
    have hKK:ofK xs (i+1)=ofK xs i:=by rw [hK1,hK2,hac]
    have hA':ofA xs (i+1)=ofA xs i:=by unfold ofA;rw [if_neg hi0,if_neg (Nat.succ_ne_zero i),hsame,hKK]
    have hS':ofS xs (i+1)=ofS xs i:=by unfold ofS;rw [if_neg hi0,if_neg (Nat.succ_ne_zero i),hsame,hKK]
    repeat' (first|(refine yL ?_;first|refine a0A rfl ?_|(refine oD 17 ?_;refine agA rfl _ rfl (λ _=>rfl) rfl (HasI.ownV hv1) rfl hil ?_;rw [hc])|(refine oD 24 ?_;refine afA rfl rfl rfl fZ ?_;rw [show ((i:Int)-1)=((i-1:Nat):Int) by omega])|(refine oD 25 ?_;refine agA rfl _ rfl (λ _=>rfl) rfl (HasI.ownV hv1) rfl oZ ?_;rw [ha])|(refine oD 36 ?_;refine afA rfl rfl rfl fZ ?_;rw [show ((i:Int)-1)=((i-1:Nat):Int) by omega])|(refine oD 37 ?_;refine agA rfl _ rfl (λ _=>rfl) rfl (HasI.ownV hv1) rfl oZ ?_;rw [ha])|(refine oD 47 ?_;refine afA rfl rfl rfl fZ ?_;rw [show ((i:Int)-1)=((i-1:Nat):Int) by omega])|(refine oD 48 ?_;refine agA rfl _ rfl (λ _=>rfl) rfl (HasI.ownV hv1) rfl oZ ?_;rw [ha])|(refine oB .shr ?_;refine j0A rfl rfl rfl dZ dZ ?_;rw [show (2:Int) ^ Int.toNat 16=65536 by decide])|(refine oD 56 ?_;refine e8A rfl rfl rfl rfl ?_;rw [ec])|(refine oD 57 ?_;refine e7A rfl c5A rfl rfl ?_)|refine yO ?_|(refine yC ?_ ?_<;>intro hc)|(refine yN hK ?_;clear hK K))|refine wG ?_|(refine yR ?_;intro K hK)|fail)
    exact a4A (i+1,va) (λ w5 e5=>⟨hil,hx1.trans e5,hv1.ext e5,by dsimp only;rw [hA'];exact hva.ext e5,kv,lv,by dsimp only;rw [hS'];exact hS.ext e5,hon,hnv⟩) eZ sZ
   ·replace hnew:=hnew (.inr (by rw [ha];exact λ h=>hac oZ))
    by_cases hKK:ofK xs i=ofK xs (i+1)
    ·rw [if_pos ⟨Nat.pos_of_ne_zero hi0,hKK⟩,if_pos ⟨Nat.pos_of_ne_zero hi0,hKK⟩] at hnew
     have hk12:a / 65536=c / 65536:=by rw [← hK1,hKK,hK2]
     repeat' (first|(refine yL ?_;first|refine a0A rfl ?_|(refine oD 31 ?_;refine azA rfl _ rfl rfl (HasI.ownV hva).c ?_)|(refine oD 17 ?_;refine agA rfl _ rfl (λ _=>rfl) rfl (HasI.ownV hv1) rfl hil ?_;rw [hc])|(refine oD 24 ?_;refine afA rfl rfl rfl fZ ?_;rw [show ((i:Int)-1)=((i-1:Nat):Int) by omega])|(refine oD 25 ?_;refine agA rfl _ rfl (λ _=>rfl) rfl (HasI.ownV hv1) rfl oZ ?_;rw [ha])|(refine oD 36 ?_;refine afA rfl rfl rfl fZ ?_;rw [show ((i:Int)-1)=((i-1:Nat):Int) by omega])|(refine oD 37 ?_;refine agA rfl _ rfl (λ _=>rfl) rfl (HasI.ownV hv1) rfl oZ ?_;rw [ha])|(refine oD 47 ?_;refine afA rfl rfl rfl fZ ?_;rw [show ((i:Int)-1)=((i-1:Nat):Int) by omega])|(refine oD 48 ?_;refine agA rfl _ rfl (λ _=>rfl) rfl (HasI.ownV hv1) rfl oZ ?_;rw [ha])|(refine oB .shr ?_;refine j0A rfl rfl rfl dZ dZ ?_;rw [show (2:Int) ^ Int.toNat 16=65536 by decide])|(refine oD 56 ?_;refine e8A rfl rfl rfl rfl ?_;rw [ec])|(refine oD 57 ?_;refine e7A rfl c5A rfl rfl ?_)|(refine oD 58 ?_;refine a3A (hK _ _ (anA (n:=(ofA xs i).length) (cs:=(ofA xs i).map (Value.int .u16)) rfl dZ c5A rfl hva rfl HasC.own (by intro u hu;rw [List.mem_singleton] at hu;subst hu;rfl) (by unfold maxLen;omega) oZ (λ v' wa wb' e' ho' hf hl=>?_)));clear hK K;refine abA kZ (λ K hK=>?_))|refine yO ?_|(refine yC ?_ ?_<;>intro hc)|(refine yN hK ?_;clear hK K))|refine wG ?_|(refine yR ?_;intro K hK)|fail)
     have x4:=hx1.trans e';have ho2:OwnI w.heap.size tK .u16 wb' v' (ofA xs (i+1)):=by
      rw [hnew.1];unfold OwnI;rw [List.map_append,List.length_append,List.length_singleton];exact Own.rebase ho' (hl.ge (λ k hk=>(Own.lt hva k hk).1) x4.size)
     obtain ⟨hS9,hn9⟩:=RS.beside hS hnv hva e' hf hl;have hv9:=hf.own (hv1.ext e') (λ k h1 h2=>by
      obtain ⟨cur,hcur⟩:=asA (hv1.ext e') h1;exact Own.apart (hva.ext e') hcur dZ h2)
     have x9:=Fr.ext x4 hf (λ k hk=>(Own.lt hva k hk).1);exact a4A (i+1,v') (λ w5 e5=>⟨hil,x9.trans e5,Own.ext hv9 e5,ho2.ext e5,kv,lv,by dsimp only;rw [hnew.2];exact hS9.ext e5,hon,hn9⟩) eZ sZ
    ·rw [if_neg (λ h=>hKK h.2),if_neg (λ h=>hKK h.2)] at hnew
     have hk12:a / 65536≠c / 65536:=by rw [← hK1,← hK2];exact hKK
     repeat' (first|(refine yL ?_;first|refine a0A rfl ?_|(refine oD 31 ?_;refine azA rfl _ rfl rfl (HasI.ownV hva).c ?_)|(refine oD 17 ?_;refine agA rfl _ rfl (λ _=>rfl) rfl (HasI.ownV hv1) rfl hil ?_;rw [hc])|(refine oD 24 ?_;refine afA rfl rfl rfl fZ ?_;rw [show ((i:Int)-1)=((i-1:Nat):Int) by omega])|(refine oD 25 ?_;refine agA rfl _ rfl (λ _=>rfl) rfl (HasI.ownV hv1) rfl oZ ?_;rw [ha])|(refine oD 36 ?_;refine afA rfl rfl rfl fZ ?_;rw [show ((i:Int)-1)=((i-1:Nat):Int) by omega])|(refine oD 37 ?_;refine agA rfl _ rfl (λ _=>rfl) rfl (HasI.ownV hv1) rfl oZ ?_;rw [ha])|(refine oD 47 ?_;refine afA rfl rfl rfl fZ ?_;rw [show ((i:Int)-1)=((i-1:Nat):Int) by omega])|(refine oD 48 ?_;refine agA rfl _ rfl (λ _=>rfl) rfl (HasI.ownV hv1) rfl oZ ?_;rw [ha])|(refine oB .shr ?_;refine j0A rfl rfl rfl dZ dZ ?_;rw [show (2:Int) ^ Int.toNat 16=65536 by decide])|(refine oD 56 ?_;refine e8A rfl rfl rfl rfl ?_;rw [ec])|(refine oD 57 ?_;refine e7A rfl c5A rfl rfl ?_)|refine yO ?_|(refine yC ?_ ?_<;>intro hc)|(refine yN hK ?_;clear hK K))|refine wG ?_|(refine yR ?_;intro K hK)|fail)
     refine a3A (hK _ _ (dyA rfl dZ rfl rfl rfl rfl (λ v w'=>v=.tuple #[]∧∃ wz,Ext w1 wz∧Mut (λ j=>A j∧va.ownBlock≠some j) wz b kv lv (bxA (xs.take i)) w') (λ w8 e8=>?_) (λ v w2 hm=>?_)))
     ·rw [eK]
      exact (viA (hx1.trans e8) hT hon (hS.ext e8) (hFva.ext e8) hKlt hlast (hva.ext e8).slI hAinc hAlow hpos).mono (λ en w' h=>⟨_,h.1,rfl,_,e8,hfull▸h.2⟩)
     clear hK K;obtain ⟨rfl,wz,ez,kv9,lv9,m1,m2,m3,m4⟩:=hm;have x2:=Fr.ext (hx1.trans ez) m2 hon;have hon9:=iaA hon (hx1.trans ez).size m3 m4;have hv2:OwnI w.heap.size 71 .u32 w2 v8 xs:=m2.own (hv1.ext ez) (RS.off (hS.ext ez) (hv1.ext ez) ⟨by decide,by decide,by decide⟩);have hS2:RS (λ j=>A j∧nilS.ownBlock≠some j) w2 b kv9 lv9 (bxA (xs.take i)):=m1.mono λ j _ ha _=>⟨ha.1,λ h=>by cases h⟩
     repeat' (first|(refine yL ?_;first|refine a0A rfl ?_|(refine oD 56 ?_;refine e8A rfl rfl rfl rfl ?_;rw [ec])|(refine oD 57 ?_;refine e7A rfl c5A rfl rfl ?_)|(refine oD 58 ?_;refine a3A (hK _ _ (anA (n:=0) (cs:=[]) rfl dZ c5A rfl (Own.nil (base:=w.heap.size) (e:=tK) (s:=1)) rfl HasC.own (by intro u hu;rw [List.mem_singleton] at hu;subst hu;rfl) (by unfold maxLen;omega) oZ (λ v' wa wb' e' ho' hf hl=>?_)));clear hK K;refine abA kZ (λ K hK=>?_))|refine yO ?_|(refine yC ?_ ?_<;>intro hc)|(refine yN hK ?_;clear hK K))|refine wG ?_|(refine yR ?_;intro K hK)|fail)
     have hvn:OwnI w.heap.size tK .u16 w2 nilS []:=OwnI.nil;have x4:=x2.trans e';have ho2:OwnI w.heap.size tK .u16 wb' v' (ofA xs (i+1)):=by
      rw [hnew.1];unfold OwnI;rw [List.map_append,List.length_append,List.length_singleton];exact Own.rebase ho' (hl.ge (λ k hk=>(Own.lt hvn k hk).1) x4.size)
     obtain ⟨hS9,hn9⟩:=RS.beside hS2 (λ k h=>by cases h) hvn e' hf hl;have hv9:=hf.own (hv2.ext e') (λ k h1 h2=>by
      obtain ⟨cur,hcur⟩:=asA (hv2.ext e') h1;exact Own.apart (hvn.ext e') hcur dZ h2)
     have x9:=Fr.ext x4 hf (λ k hk=>(Own.lt hvn k hk).1);exact a4A (i+1,v') (λ w5 e5=>⟨hil,x9.trans e5,Own.ext hv9 e5,ho2.ext e5,kv9,lv9,by dsimp only;rw [hnew.2];exact hS9.ext e5,hon9,hn9⟩) eZ sZ
 ·have hie:i=xs.length:=oZ
  have hmx:bxA (xs.take i)=bxA xs:=by rw [hie,List.take_length]
  by_cases hi0:i=0
  ·have hA0:ofA xs i=[]:=by rw [hi0];rfl
   have hS0:ofS xs i=bxA xs:=by
    rw [← hmx,hi0,List.take_zero]
    funext x;exact (decide_eq_false (λ h=>by cases h):bxA [] x=false).symm
   rw [hA0] at hva;rw [hS0] at hS
   repeat' (first|(refine yL ?_;first|refine a0A rfl ?_|(refine oD 61 ?_;refine azA (n:=0) rfl _ rfl rfl (HasI.ownV hva).c ?_)|(refine oD 62 ?_;refine ktA rfl rfl rfl rfl dZ ?_)|refine yO ?_|(refine yC ?_ ?_<;>intro hc)|(refine yN hK ?_;clear hK K))|refine wG ?_|(refine yR ?_;intro K hK)|fail)
   exact aiA rfl rfl hx1 (λ u w5 e5 hu=>by obtain rfl:u=_:=hu;exact ⟨b,kv,lv,rfl,(hS.ext e5).mono λ j _ ha _=>ha.1,λ k hk=>hB k (hon k hk)⟩)
  ·obtain ⟨a,ha⟩:∃ a:Nat,xs.getD (i-1) 0=(a:Int):=⟨(xs.getD (i-1) 0).toNat,by have:=jcA hu (i:=i-1) oZ;omega⟩
   have hab:a<4294967296:=by have:=jcA hu (i:=i-1) oZ;omega
   have hK1:ofK xs i=a / 65536:=by unfold ofK;rw [ha,Int.toNat_natCast]
   have hpos:=q6A hu (Nat.pos_of_ne_zero hi0) hi;obtain ⟨K,hKd⟩:∃ K,K=ofK xs i:=⟨_,rfl⟩;have hKlt:=vkA hu (Nat.pos_of_ne_zero hi0) hi;have hfull:upd (ofS xs i) (ofK xs i) (bxA (ofA xs i))=bxA (xs.take i):=by
    have h1:bxA (ofA xs i)=blk (bxA (xs.take i)) (ofK xs i):=by
     unfold ofA;rw [if_neg hi0];exact voA (λ j hj=>epA oZ)
    rw [h1];exact q5A hs hu (Nat.pos_of_ne_zero hi0) hi
   have hlast:∀ j,ofK xs i≤j→ne (ofS xs i) j=false:=λ j hj=>by unfold ofS;rw [if_neg hi0];exact vuA _ hj
   have hAinc:Inc (ofA xs i):=by unfold ofA;rw [if_neg hi0];exact bzA _ _
   have hAlow:Low (ofA xs i):=by unfold ofA;rw [if_neg hi0];exact e1A _
   have hFva:Fsh (λ j=>A j∧va.ownBlock≠some j) w1:=λ j hj=>⟨hA j (Nat.le_trans hx1.size hj),λ h=>by have:=(Own.lt hva j h).2;omega⟩
   have eK:(a:Int) / 65536=(K:Int):=by rw [hKd,hK1];omega
   rw [← hKd] at hKlt hfull hlast;rw [hmx] at hfull;rw [hie] at ha
   repeat' (first|(refine yL ?_;first|refine a0A rfl ?_|(refine oD 61 ?_;refine azA rfl _ rfl rfl (HasI.ownV hva).c ?_)|(refine d3A ?_;refine azA rfl _ rfl rfl (HasI.ownV hv1).c ?_)|(refine oD 67 ?_;refine afA rfl rfl rfl fZ ?_;rw [show ((xs.length:Int)-1)=((xs.length-1:Nat):Int) by omega])|(refine oD 68 ?_;refine agA rfl _ rfl (λ _=>rfl) rfl (HasI.ownV hv1) rfl oZ ?_;rw [ha])|(refine oB .shr ?_;refine j0A rfl rfl rfl dZ dZ ?_;rw [show (2:Int) ^ Int.toNat 16=65536 by decide])|refine yO ?_|(refine yC ?_ ?_<;>intro hc)|(refine yN hK ?_;clear hK K))|refine wG ?_|(refine yR ?_;intro K hK)|fail)
   refine a3A (hK _ _ (dyA rfl dZ rfl rfl rfl rfl (λ v w'=>v=.tuple #[]∧∃ wz,Ext w1 wz∧Mut (λ j=>A j∧va.ownBlock≠some j) wz b kv lv (bxA xs) w') (λ w8 e8=>?_) (λ v w2 hm=>?_)))
   ·rw [eK]
    exact (viA (hx1.trans e8) hT hon (hS.ext e8) (hFva.ext e8) hKlt hlast (hva.ext e8).slI hAinc hAlow hpos).mono (λ en w' h=>⟨_,h.1,rfl,_,e8,hfull▸h.2⟩)
   clear hK K;obtain ⟨rfl,wz,ez,kv9,lv9,m1,m2,m3,m4⟩:=hm;have x2:=Fr.ext (hx1.trans ez) m2 hon;have hon9:=iaA hon (hx1.trans ez).size m3 m4
   repeat' (first|(refine yL ?_;first|refine a0A rfl ?_|refine yO ?_|(refine yC ?_ ?_<;>intro hc)|(refine yN hK ?_;clear hK K))|refine wG ?_|(refine yR ?_;intro K hK)|fail)
   exact aiA rfl rfl x2 (λ u w5 e5 hu=>by obtain rfl:u=_:=hu;exact ⟨b,kv9,lv9,rfl,(m1.ext e5).mono λ j _ ha _=>ha.1,λ k hk=>hB k (hon9 k hk)⟩)
end Go.Proofs.YtbokphkfojijoaaGreatDoor
end
section
namespace Go.Proofs.YtbokphkfojijoaaGreatDoor
open Go.LA Go.ArrP Go.RowKit
theorem gyA:El Tryz.prog 25 68 (.agg #[.int .u64 0,.int .u64 0]) 2 16:=⟨rfl,rfl,rfl,by decide⟩
theorem puA (w:World) {lo hi:Nat} (hlo:lo<18446744073709551616) (hhi:hi<18446744073709551616):Fc Tryz.prog 44 #[.int .u64 lo,.int .u64 hi] w (Ret w (.pred (l7A w.heap.size tSp .u64 (spL (itv lo (min hi TOP)) TOP)))):=by
 rw [vdA _ _ _ (Nat.min_le_right _ _)];have htop:=enA;obtain ⟨H,hH⟩:∃ H,H=min hi TOP:=⟨_,rfl⟩;rw [← hH]
 by_cases h1:hi≤4294967296
 ·obtain rfl:H=hi:=oZ
  clear hH htop
  by_cases h2:lo<H
  ·rw [if_pos h2]
   refine Fc.of (args:=[_,_]) Tryz.func44 rfl rfl Tryz.ntmps44 nZ ?_
   repeat' (first|(refine yL ?_;first|refine a0A rfl ?_|(refine oD 12 ?_;refine e4A (c:=spV .u64 (lo,H)) rfl rfl rfl (λ w=>run_build w _ _ _ kZ) ?_)|(refine oD 13 ?_;refine e6A rfl gyA rfl rfl dZ ?_)|refine yO ?_|(refine yC ?_ ?_<;>intro hc)|(refine yN hK ?_;clear hK K))|refine wG ?_|(refine yR ?_;intro K hK)|fail)
   exact aiA rfl rfl (Ext.refl _) (λ _ _ _ hv=>hv)
  ·rw [if_neg h2]
   refine Fc.of (args:=[_,_]) Tryz.func44 rfl rfl Tryz.ntmps44 nZ ?_
   repeat' (first|(refine yL ?_;first|refine a0A rfl ?_|refine yO ?_|(refine yC ?_ ?_<;>intro hc)|(refine yN hK ?_;clear hK K))|refine wG ?_|(refine yR ?_;intro K hK)|fail)
   exact aiA rfl rfl (Ext.refl _) (λ v _ _ hv=>by obtain rfl:v=_:=hv;exact OwnP.nil)
 ·have hHe:H=4294967296:=oZ
  subst hHe;clear hH htop
  by_cases h2:lo<4294967296
  ·rw [if_pos h2]
   refine Fc.of (args:=[_,_]) Tryz.func44 rfl rfl Tryz.ntmps44 nZ ?_
   repeat' (first|(refine yL ?_;first|refine a0A rfl ?_|(refine oD 12 ?_;refine e4A (c:=spV .u64 (lo,(4294967296:Nat))) rfl rfl rfl (λ w=>run_build w _ _ _ kZ) ?_)|(refine oD 13 ?_;refine e6A rfl gyA rfl rfl dZ ?_)|refine yO ?_|(refine yC ?_ ?_<;>intro hc)|(refine yN hK ?_;clear hK K))|refine wG ?_|(refine yR ?_;intro K hK)|fail)
   exact aiA rfl rfl (Ext.refl _) (λ _ _ _ hv=>hv)
  ·rw [if_neg h2]
   refine Fc.of (args:=[_,_]) Tryz.func44 rfl rfl Tryz.ntmps44 nZ ?_
   repeat' (first|(refine yL ?_;first|refine a0A rfl ?_|refine yO ?_|(refine yC ?_ ?_<;>intro hc)|(refine yN hK ?_;clear hK K))|refine wG ?_|(refine yR ?_;intro K hK)|fail)
   exact aiA rfl rfl (Ext.refl _) (λ v _ _ hv=>by obtain rfl:v=_:=hv;exact OwnP.nil)
def kk (x:Sp):Int:=if x.1<x.2∧x.1<4294967296 then min x.2 4294967296-x.1 else 0
def ntA (xs:List Sp):Nat→Int
 | 0=>0
 | i+1=>if (xs.getD i (0,0)).1<(xs.getD i (0,0)).2∧(xs.getD i (0,0)).1<4294967296 then IntKind.u64.wrap (ntA xs i+kk (xs.getD i (0,0))) else ntA xs i
theorem qzA (xs:List Sp) (i:Nat):ntA xs (i+1)=if (xs.getD i (0,0)).1<(xs.getD i (0,0)).2∧(xs.getD i (0,0)).1<4294967296 then IntKind.u64.wrap (ntA xs i+kk (xs.getD i (0,0))) else ntA xs i:=rfl
theorem vtA {w:World} {v:Value} {S:List Sp} {lo hi:Nat→Nat} (h:SlP .u64 w v S) (hS:∀ i,i<S.length→S.getD i (0,0)=((lo i:Int),(hi i:Int))) (i:Nat) (b:Bool) :
 Fc Tryz.prog 79 #[v,.int .i64 i,.bool b] w (Ret w (.val (.int .u64 (c6A S.length lo hi i b)))):=by
 have hlen:=h.len
 by_cases h1:S.length≤i
 ·have he:c6A S.length lo hi i b=4611686018427387904:=by unfold c6A;rw [if_pos h1]
  rw [he];refine Fc.of (args:=[_,_,_]) Tryz.func79 rfl rfl Tryz.ntmps79 nZ ?_
  repeat' (first|(refine yL ?_;first|refine a0A rfl ?_|(refine d3A ?_;refine bjA rfl _ rfl rfl (HasP.val h) ?_)|refine yO ?_|(refine yC ?_ ?_<;>intro hc)|(refine yN hK ?_;clear hK K))|refine wG ?_|(refine yR ?_;intro K hK)|fail)
  exact ajA rfl rfl (Ext.refl _) rfl
 ·have hSi:=hS i oZ
  cases b with
  | true =>
    have he:c6A S.length lo hi i true=hi i:=by unfold c6A;rw [if_neg h1];rfl
    rw [he];refine Fc.of (args:=[_,_,_]) Tryz.func79 rfl rfl Tryz.ntmps79 nZ ?_
    repeat' (first|(refine yL ?_;first|refine a0A rfl ?_|(refine d3A ?_;refine bjA rfl _ rfl rfl (HasP.val h) ?_)|(refine oI ?_;refine baA rfl _ rfl (λ _=>rfl) rfl (HasP.val h) rfl oZ ?_;rw [hSi])|(refine oF 1 ?_;refine adA (f:=1) (o:=1) rfl rfl (λ _ _=>rfl) ?_)|(refine oL ?_;refine b9A rfl (λ _=>rfl) rfl rfl ?_)|refine yO ?_|(refine yC ?_ ?_<;>intro hc)|(refine yN hK ?_;clear hK K))|refine wG ?_|(refine yR ?_;intro K hK)|fail)
    exact ajA rfl rfl (Ext.refl _) rfl
  | false =>
    have he:c6A S.length lo hi i false=lo i:=by unfold c6A;rw [if_neg h1];rfl
    rw [he];refine Fc.of (args:=[_,_,_]) Tryz.func79 rfl rfl Tryz.ntmps79 nZ ?_
    repeat' (first|(refine yL ?_;first|refine a0A rfl ?_|(refine d3A ?_;refine bjA rfl _ rfl rfl (HasP.val h) ?_)|(refine oI ?_;refine baA rfl _ rfl (λ _=>rfl) rfl (HasP.val h) rfl oZ ?_;rw [hSi])|(refine oF 0 ?_;refine adA (f:=0) (o:=0) rfl rfl (λ _ _=>rfl) ?_)|(refine oL ?_;refine b9A rfl (λ _=>rfl) rfl rfl ?_)|refine yO ?_|(refine yC ?_ ?_<;>intro hc)|(refine yN hK ?_;clear hK K))|refine wG ?_|(refine yR ?_;intro K hK)|fail)
    exact ajA rfl rfl (Ext.refl _) rfl
def opF (what:Int) (x y:Bool):Bool:=if what=1 then x && y else if what=2 then x || y else if what=3 then x && !y else !(x == y)
theorem tdA (what:Int):opF what false false=false:=by
 unfold opF
 split
 ·rfl
 ·split
  ·rfl
  ·split <;> rfl
theorem in_c (w:World) (x y:Bool) (what:Int):Fc Tryz.prog 80 #[.bool x,.bool y,.int .i64 what] w (Ret w (.val (.bool (opF what x y)))):=by
 by_cases h1:what=1
 ·have hop:opF what x y=(x && y):=by unfold opF;rw [if_pos h1]
  rw [hop];cases x <;> cases y
  all_goals
   refine Fc.of (args:=[_,_,_]) Tryz.func80 rfl rfl Tryz.ntmps80 nZ ?_
   repeat' (first|(refine yL ?_;first|refine a0A rfl ?_|refine yO ?_|(refine yC ?_ ?_<;>intro hc)|(refine yN hK ?_;clear hK K))|refine wG ?_|(refine yR ?_;intro K hK)|fail)
   exact ajA rfl rfl (Ext.refl _) rfl
 ·by_cases h2:what=2
  ·have hop:opF what x y=(x || y):=by unfold opF;rw [if_neg h1,if_pos h2]
   rw [hop];cases x <;> cases y
   all_goals
    refine Fc.of (args:=[_,_,_]) Tryz.func80 rfl rfl Tryz.ntmps80 nZ ?_
    repeat' (first|(refine yL ?_;first|refine a0A rfl ?_|refine yO ?_|(refine yC ?_ ?_<;>intro hc)|(refine yN hK ?_;clear hK K))|refine wG ?_|(refine yR ?_;intro K hK)|fail)
    exact ajA rfl rfl (Ext.refl _) rfl
  ·by_cases h3:what=3
   ·have hop:opF what x y=(x && !y):=by unfold opF;rw [if_neg h1,if_neg h2,if_pos h3]
    rw [hop];cases x <;> cases y
    all_goals
     refine Fc.of (args:=[_,_,_]) Tryz.func80 rfl rfl Tryz.ntmps80 nZ ?_
     repeat' (first|(refine yL ?_;first|refine a0A rfl ?_|refine yO ?_|(refine yC ?_ ?_<;>intro hc)|(refine yN hK ?_;clear hK K))|refine wG ?_|(refine yR ?_;intro K hK)|fail)
     exact ajA rfl rfl (Ext.refl _) rfl
   ·have hop:opF what x y=!(x == y):=by unfold opF;rw [if_neg h1,if_neg h2,if_neg h3]
    rw [hop];cases x <;> cases y
    all_goals
     refine Fc.of (args:=[_,_,_]) Tryz.func80 rfl rfl Tryz.ntmps80 nZ ?_
     repeat' (first|(refine yL ?_;first|refine a0A rfl ?_|refine yO ?_|(refine yC ?_ ?_<;>intro hc)|(refine yN hK ?_;clear hK K))|refine wG ?_|(refine yR ?_;intro K hK)|fail)
     exact ajA rfl rfl (Ext.refl _) rfl
theorem pzA (w:World) {va vb:Value} {p q:Nat→Bool} (what:Int) (ha:SlP .u64 w va (spL p TOP)) (hb:SlP .u64 w vb (spL q TOP)) :
 Fc Tryz.prog 34 #[va,vb,.int .i64 what] w (Ret w (.pred (l7A w.heap.size tSp .u64 (spL (two (opF what) p q) TOP)))):=by
 have htop:=enA;obtain ⟨lo,hi,W,hS⟩:=i5A p TOP;obtain ⟨lo',hi',W',hS'⟩:=i5A q TOP;have hed:∀ w',Ext w w'→∀ (i:Nat) (b:Bool),_:=λ w' e i b=>vtA (ha.ext e) hS i b
 have hed':∀ w',Ext w w'→∀ (i:Nat) (b:Bool),_:=λ w' e i b=>vtA (hb.ext e) hS' i b
 have hsl:∀ t,t≤TOP→(spL (two (opF what) p q) t).length≤4294967296:=λ t ht=>by
  have h1:=n2A (two (opF what) p q) t;have h2:=cnt_le (two (opF what) p q) t;omega
 have hstep:∀ {i k:Nat} {x y:Bool} {last next:Nat},EdgeOK p TOP (spL p TOP).length lo hi i x last→EdgeOK q TOP (spL q TOP).length lo' hi' k y last→next≤c6A (spL p TOP).length lo hi i x→next≤c6A (spL q TOP).length lo' hi' k y→next≤TOP→∀ t,last≤t→t<next→two (opF what) p q t=opF what x y :=
  λ h h' h1 h2 h3=>rmA h h' h1 h2 h3
 have hal:=ha.len;have hbl:=hb.len;obtain ⟨S,hSd⟩:∃ S,S=spL p TOP:=⟨_,rfl⟩;obtain ⟨S',hSd'⟩:∃ S',S'=spL q TOP:=⟨_,rfl⟩;rw [← hSd] at ha W hed hal hstep;rw [← hSd'] at hb W' hed' hbl hstep;obtain ⟨r,hr⟩:∃ r,r=two (opF what) p q:=⟨_,rfl⟩;rw [← hr] at hsl hstep ⊢;clear hr hSd hSd' hS hS';refine Fc.of (args:=[_,_,_]) Tryz.func34 rfl rfl Tryz.ntmps34 nZ ?_
 repeat' (first|(refine yL ?_;first|refine a0A rfl ?_|refine yO ?_|(refine yC ?_ ?_<;>intro hc)|(refine yN hK ?_;clear hK K))|refine wG ?_|(refine yR ?_;intro K hK)|fail)
 refine aaA (ι:=Nat × Nat × Bool × Bool × Nat × Value) (λ j=>[(0,.val va),(1,.val vb),(2,.val (.int .i64 what)),(7,.val j.2.2.2.2.2),(8,.val (.int .i64 j.1)),(9,.val (.int .i64 j.2.1)),(10,.val (.bool j.2.2.1)),(11,.val (.bool j.2.2.2.1)),(12,.val (.int .u64 j.2.2.2.2.1))])
  (λ j w'=>Ext w w'∧EdgeOK p TOP S.length lo hi j.1 j.2.2.1 j.2.2.2.2.1∧EdgeOK q TOP S'.length lo' hi' j.2.1 j.2.2.2.1 j.2.2.2.2.1∧j.2.2.2.2.1≤TOP∧OwnP w.heap.size tSp .u64 w' j.2.2.2.2.2 (spL r j.2.2.2.2.1))
  (λ j=>(2*(S.length-j.1)+(if j.2.2.1 then 0 else 1))+(2*(S'.length-j.2.1)+(if j.2.2.2.1 then 0 else 1)))
  (λ w2 e2=>⟨(0,0,false,false,0,.slice none 0 0),⟨e2,jnA W,jnA W',Nat.zero_le _,by dsimp only;rw [gwA];exact OwnP.nil⟩,sZ⟩) ?_
 rintro ⟨i,k,x,y,last,v⟩ w1 ⟨he,hE,hE',hT,ho⟩;dsimp only at hE hE' hT ho ⊢;have hin':=hE.le;have hkn':=hE'.le
 by_cases hend:S.length≤i∧S'.length≤k
 ·have hx:x=false:=by
   cases hx:x with
   | false=>rfl
   | true=>have:=hE.inn hx;omega
  have hy:y=false:=by
   cases hy:y with
   | false=>rfl
   | true=>have:=hE'.inn hy;omega
  have hfl:spL r TOP=spL r last:=edA hT (λ t h1 h2=>by
   have e1:c6A S.length lo hi i x=4611686018427387904:=by unfold c6A;rw [if_pos hend.1]
   have e2:c6A S'.length lo' hi' k y=4611686018427387904:=by unfold c6A;rw [if_pos hend.2]
   have:=hstep hE hE' (next:=TOP) oZ oZ (Nat.le_refl _) t h1 h2;rw [this,hx,hy];exact tdA what)
  rw [hfl];clear hstep hsl
  repeat' (first|(refine yL ?_;first|refine a0A rfl ?_|(refine oD 19 ?_;refine bjA rfl _ rfl rfl (HasP.val (ha.ext he)) ?_)|(refine oD 24 ?_;refine bjA rfl _ rfl rfl (HasP.val (hb.ext he)) ?_)|refine yO ?_|(refine yC ?_ ?_<;>intro hc)|(refine yN hK ?_;clear hK K))|refine wG ?_|(refine yR ?_;intro K hK)|fail)
  exact aiA rfl rfl he (λ u w5 e5 hu=>by obtain rfl:u=_:=hu;exact ho.ext e5)
 ·have hP1:=hE.ge
  have hQ1:=hE'.ge;have hin2:¬ c6A S.length lo hi i x=4611686018427387904→i<S.length:=λ h=>by
   by_cases e:i<S.length
   ·exact e
   ·exact absurd (by unfold c6A;rw [if_pos oZ]) h
  have hkn2:¬ c6A S'.length lo' hi' k y=4611686018427387904→k<S'.length:=λ h=>by
   by_cases e:k<S'.length
   ·exact e
   ·exact absurd (by unfold c6A;rw [if_pos oZ]) h
  have hb1:i<S.length→c6A S.length lo hi i x≤TOP:=λ h=>raA W h
  have hb2:k<S'.length→c6A S'.length lo' hi' k y≤TOP:=λ h=>raA W' h
  have hst:=λ next=>hstep hE hE' (next:=next)
  have hA:=λ next=>liA hE (next:=next)
  have hC:=λ next=>liA hE' (next:=next)
  have hAt:x=true→EdgeOK p TOP S.length lo hi (i+1) false (c6A S.length lo hi i x):=λ h=>by subst h;exact nzA W oZ hE
  have hAf:x=false→i<S.length→EdgeOK p TOP S.length lo hi i true (c6A S.length lo hi i x):=λ h h'=>by subst h;exact r9A W hE h'
  have hCt:y=true→EdgeOK q TOP S'.length lo' hi' (k+1) false (c6A S'.length lo' hi' k y):=λ h=>by subst h;exact nzA W' oZ hE'
  have hCf:y=false→k<S'.length→EdgeOK q TOP S'.length lo' hi' k true (c6A S'.length lo' hi' k y):=λ h h'=>by subst h;exact r9A W' hE' h'
  have hq1:∀ w',Ext w w'→Fc Tryz.prog 79 #[va,.int .i64 i,.bool x] w' (Ret w' (.val (.int .u64 (c6A S.length lo hi i x)))):=λ w' e=>hed w' e i x
  have hq2:∀ w',Ext w w'→Fc Tryz.prog 79 #[vb,.int .i64 k,.bool y] w' (Ret w' (.val (.int .u64 (c6A S'.length lo' hi' k y)))):=λ w' e=>hed' w' e k y
  obtain ⟨P0,hP0⟩:∃ P0,P0=c6A S.length lo hi i x:=⟨_,rfl⟩;obtain ⟨Q0,hQ0⟩:∃ Q0,Q0=c6A S'.length lo' hi' k y:=⟨_,rfl⟩;rw [← hP0] at hP1 hin2 hb1 hst hA hAt hAf hq1;rw [← hQ0] at hQ1 hkn2 hb2 hst hC hCt hCf hq2;clear hed hed' hstep hE hE' hP0 hQ0;obtain ⟨N,hN⟩:∃ N,N=min P0 Q0:=⟨_,rfl⟩;have hNT:N≤TOP:=by
   by_cases e:i<S.length
   ·have:=hb1 e;omega
   ·have:=hb2 oZ;omega
  have hin:P0=N→i<S.length:=λ h=>hin2 oZ
  have hkn:Q0=N→k<S'.length:=λ h=>hkn2 oZ
  have hlN:last≤N:=oZ;have hst':=hst N oZ oZ hNT;have hA0:=hA N hlN oZ;have hC0:=hC N hlN oZ;have hAt':x=true→P0=N→EdgeOK p TOP S.length lo hi (i+1) false N:=λ h h'=>h'▸hAt h
  have hAf':x=false→P0=N→EdgeOK p TOP S.length lo hi i true N:=λ h h'=>h'▸hAf h (hin h')
  have hCt':y=true→Q0=N→EdgeOK q TOP S'.length lo' hi' (k+1) false N:=λ h h'=>h'▸hCt h
  have hCf':y=false→Q0=N→EdgeOK q TOP S'.length lo' hi' k true N:=λ h h'=>h'▸hCf h (hkn h')
  have hsl1:=hsl last hT;clear hst hA hC hAt hAf hCt hCf hb1 hb2 hin2 hkn2 hsl
  repeat' (first|(refine yL ?_;first|refine a0A rfl ?_|(refine oD 19 ?_;refine bjA rfl _ rfl rfl (HasP.val (ha.ext he)) ?_)|(refine oD 24 ?_;refine bjA rfl _ rfl rfl (HasP.val (hb.ext he)) ?_)|refine yO ?_|(refine yC ?_ ?_<;>intro hc)|(refine yN hK ?_;clear hK K))|(refine oCX ?_;first|refine cuA (id:=5) (ι:=Unit) (λ _=>[(0,.val va),(1,.val vb),(2,.val (.int .i64 what)),(7,.val v),(8,.val (.int .i64 i)),(9,.val (.int .i64 k)),(10,.val (.bool x)),(11,.val (.bool y)),(12,.val (.int .u64 last))]) (λ _ w'=>Ext w1 w') ?_ ?_)|refine wG ?_|(refine yR ?_;intro K hK)|fail)
  ·exact a4A () (λ w5 e5=>e5) oZ sZ
  ·exact a4A () (λ w5 e5=>e5) oZ sZ
  rintro ⟨⟩ w2 e2;replace he:=he.trans e2;replace ho:=ho.ext e2
  repeat' (first|(refine yL ?_;first|refine a0A rfl ?_|refine yO ?_|(refine yC ?_ ?_<;>intro hc)|(refine yV ?_;first|(refine oD 30 ?_;refine oC 79 ?_;refine bcA (f:=79) rfl rfl rfl rfl rfl  (.val (.int .u64 P0)) (by intro u1 u2 u3 w e hu1 hu2 hu3;(try obtain rfl:u1=_:=hu1);(try obtain rfl:u2=_:=hu2);(try obtain rfl:u3=_:=hu3);exact hq1 _ (he.trans e)) ?_)|(refine oD 34 ?_;refine oC 79 ?_;refine bcA (f:=79) rfl rfl rfl rfl rfl  (.val (.int .u64 Q0)) (by intro u1 u2 u3 w e hu1 hu2 hu3;(try obtain rfl:u1=_:=hu1);(try obtain rfl:u2=_:=hu2);(try obtain rfl:u3=_:=hu3);exact hq2 _ (he.trans e)) ?_))|(refine yN hK ?_;clear hK K))|(refine oCX ?_;first|refine cuA (id:=8) (ι:=Unit) (λ _=>[(0,.val va),(1,.val vb),(2,.val (.int .i64 what)),(7,.val v),(8,.val (.int .i64 i)),(9,.val (.int .i64 k)),(10,.val (.bool x)),(11,.val (.bool y)),(12,.val (.int .u64 last)),(13,.val (.int .u64 P0)),(14,.val (.int .u64 Q0)),(15,.val (.int .u64 N))]) (λ _ w'=>Ext w2 w') ?_ ?_)|refine wG ?_|(refine yR ?_;intro K hK)|fail)
  ·exact a4A () (λ w5 e5=>e5) oZ sZ
  ·exact a4A () (λ w5 e5=>e5) oZ sZ
  rintro ⟨⟩ w4 e4;replace he:=he.trans e4;replace ho:=ho.ext e4;refine cuA (id:=10) (ι:=Value) (λ v'=>[(0,.val va),(1,.val vb),(2,.val (.int .i64 what)),(7,.val v'),(8,.val (.int .i64 i)),(9,.val (.int .i64 k)),(10,.val (.bool x)),(11,.val (.bool y)),(12,.val (.int .u64 last)),(13,.val (.int .u64 P0)),(14,.val (.int .u64 Q0)),(15,.val (.int .u64 N))]) (λ v' w'=>Ext w w'∧OwnP w.heap.size tSp .u64 w' v' (spL r N)) ?_ ?_
  ·have hop:∀ w',_:=λ w'=>in_c w' x y what
   obtain ⟨F0,hF0⟩:∃ F0,F0=opF what x y:=⟨_,rfl⟩;rw [← hF0] at hop hst';have hnew:∀ hlt:last<N,F0=true→_:=λ hlt h=>pmA (p:=r) hlt (λ t h1 h2=>by rw [hst' t h1 h2,h])
   have hold:F0=false∨¬ last<N→spL r N=spL r last:=λ h=>by
    rcases h with h|h
    ·exact edA hlN (λ t h1 h2=>by rw [hst' t h1 h2,h])
    ·rw [show N=last by omega]
   obtain ⟨SN,hSN⟩:∃ SN,SN=spL r N:=⟨_,rfl⟩;obtain ⟨SL,hSL⟩:∃ SL,SL=spL r last:=⟨_,rfl⟩;rw [← hSN,← hSL] at hold;rw [← hSL] at ho hsl1;rw [← hSN];cases F0 with
   | false =>
     replace hold:=hold (.inl rfl);clear hnew hst'
     repeat' (first|(refine yL ?_;first|refine a0A rfl ?_|refine yO ?_|(refine yC ?_ ?_<;>intro hc)|(refine yV ?_;first|(refine oC 80 ?_;refine bcA (f:=80) rfl rfl rfl rfl rfl  (.val (.bool false)) (by intro u1 u2 u3 w e hu1 hu2 hu3;(try obtain rfl:u1=_:=hu1);(try obtain rfl:u2=_:=hu2);(try obtain rfl:u3=_:=hu3);exact hop _) ?_))|(refine yN hK ?_;clear hK K))|refine wG ?_|(refine yR ?_;intro K hK)|fail)
     exact a4A v (λ w5 e5=>⟨he.trans e5,by rw [hold];exact ho.ext e5⟩) oZ sZ
   | true =>
     by_cases hlt:last<N
     ·replace hnew:=hnew hlt rfl
      rw [← hSN,← hSL] at hnew;clear hold hst'
      rcases hnew with ⟨s1,s2,s3⟩|⟨s1,s3⟩
      ·obtain ⟨gb,cap,cur,rfl,r1,r2,r3,r4,r5,r6⟩:=ho.row s1
       repeat' (first|(refine yL ?_;first|refine a0A rfl ?_|(refine d3A ?_;refine bjA rfl _ rfl rfl (HasP.ownV ho) ?_)|(refine oD 56 ?_;refine afA rfl rfl rfl fZ ?_;rw [show ((SL.length:Int)-1)=((SL.length-1:Nat):Int) by omega])|(refine oD 57 ?_;refine baA rfl _ rfl (λ _=>rfl) rfl (HasP.ownV ho) rfl oZ ?_;rw [s2])|(refine oD 58 ?_;refine adA (o:=1) rfl rfl (λ _ _=>rfl) ?_)|(refine oD 59 ?_;refine b9A rfl (λ _=>rfl) rfl rfl ?_)|(refine oD 65 ?_;refine afA rfl rfl rfl fZ ?_;rw [show ((SL.length:Int)-1)=((SL.length-1:Nat):Int) by omega])|(refine oD 67 ?_;refine biA (s:=2) rfl rfl (λ _=>rfl) rfl rfl oZ oZ ?_;rw [Int.toNat_natCast,Nat.zero_add])|(refine oD 68 ?_;refine a2A (a':=⟨gb,(SL.length-1)*2+1,none⟩) rfl rfl (λ _=>rfl) ?_)|(refine oSt ?_;refine a3A (hK _ _ (bhA rfl rfl rfl r2 (λ _=>rfl) oZ rfl rfl (λ w7 e7=>?_)));clear hK K)|refine yO ?_|(refine yC ?_ ?_<;>intro hc)|(refine yV ?_;first|(refine oC 80 ?_;refine bcA (f:=80) rfl rfl rfl rfl rfl  (.val (.bool true)) (by intro u1 u2 u3 w e hu1 hu2 hu3;(try obtain rfl:u1=_:=hu1);(try obtain rfl:u2=_:=hu2);(try obtain rfl:u3=_:=hu3);exact hop _) ?_))|(refine yN hK ?_;clear hK K))|refine wG ?_|(refine yR ?_;intro K hK)|fail)
       have ho7:=OwnP.set2 r1 (e7.block r2) r3 r4 r5 r6 (SL.length-1) (N:Int);have x7:=(he.trans e7).setRow r1 (cur.setIfInBounds ((SL.length-1)*2+1) (.int .u64 (N:Int)));exact a4A _ (λ w5 e5=>⟨x7.trans e5,by rw [s3];exact ho7.ext e5⟩) oZ sZ
      ·by_cases h0:SL.length=0
       ·skip
        repeat' (first|(refine yL ?_;first|refine a0A rfl ?_|(refine d3A ?_;refine bjA rfl _ rfl rfl (HasP.ownV ho) ?_)|(refine oD 72 ?_;refine e4A (c:=spV .u64 ((last:Int),(N:Int))) rfl rfl rfl (λ w=>run_build w _ _ _ kZ) ?_)|(refine oD 73 ?_;refine e6A rfl gyA rfl rfl dZ ?_)|(refine oD 74 ?_;refine a3A (hK _ _ (jsA (w0:=w) rfl dZ gyA rfl ho rfl oZ oZ he (λ v' wv xv hov=>?_)));clear hK K;refine abA kZ (λ K hK=>?_))|refine yO ?_|(refine yC ?_ ?_<;>intro hc)|(refine yV ?_;first|(refine oC 80 ?_;refine bcA (f:=80) rfl rfl rfl rfl rfl  (.val (.bool true)) (by intro u1 u2 u3 w e hu1 hu2 hu3;(try obtain rfl:u1=_:=hu1);(try obtain rfl:u2=_:=hu2);(try obtain rfl:u3=_:=hu3);exact hop _) ?_))|(refine yN hK ?_;clear hK K))|refine wG ?_|(refine yR ?_;intro K hK)|fail)
        exact a4A v' (λ w5 e5=>⟨xv.trans e5,by rw [s3];exact hov.ext e5⟩) oZ sZ
       ·have s1':(SL.getD (SL.length-1) (0,0)).2≠((last:Nat):Int):=s1.resolve_left h0
        repeat' (first|(refine yL ?_;first|refine a0A rfl ?_|(refine d3A ?_;refine bjA rfl _ rfl rfl (HasP.ownV ho) ?_)|(refine oD 72 ?_;refine e4A (c:=spV .u64 ((last:Int),(N:Int))) rfl rfl rfl (λ w=>run_build w _ _ _ kZ) ?_)|(refine oD 73 ?_;refine e6A rfl gyA rfl rfl dZ ?_)|(refine oD 74 ?_;refine a3A (hK _ _ (jsA (w0:=w) rfl dZ gyA rfl ho rfl oZ oZ he (λ v' wv xv hov=>?_)));clear hK K;refine abA kZ (λ K hK=>?_))|(refine oD 56 ?_;refine afA rfl rfl rfl fZ ?_;rw [show ((SL.length:Int)-1)=((SL.length-1:Nat):Int) by omega])|(refine oD 57 ?_;refine baA rfl _ rfl (λ _=>rfl) rfl (HasP.ownV ho) rfl oZ ?_)|(refine oD 58 ?_;refine adA (o:=1) rfl rfl (λ _ _=>rfl) ?_)|(refine oD 59 ?_;refine b9A rfl (λ _=>rfl) rfl rfl ?_)|refine yO ?_|(refine yC ?_ ?_<;>intro hc)|(refine yV ?_;first|(refine oC 80 ?_;refine bcA (f:=80) rfl rfl rfl rfl rfl  (.val (.bool true)) (by intro u1 u2 u3 w e hu1 hu2 hu3;(try obtain rfl:u1=_:=hu1);(try obtain rfl:u2=_:=hu2);(try obtain rfl:u3=_:=hu3);exact hop _) ?_))|(refine yN hK ?_;clear hK K))|refine wG ?_|(refine yR ?_;intro K hK)|fail)
        exact a4A v' (λ w5 e5=>⟨xv.trans e5,by rw [s3];exact hov.ext e5⟩) oZ sZ
     ·replace hold:=hold (.inr hlt)
      clear hnew hst'
      repeat' (first|(refine yL ?_;first|refine a0A rfl ?_|refine yO ?_|(refine yC ?_ ?_<;>intro hc)|(refine yV ?_;first|(refine oC 80 ?_;refine bcA (f:=80) rfl rfl rfl rfl rfl  (.val (.bool true)) (by intro u1 u2 u3 w e hu1 hu2 hu3;(try obtain rfl:u1=_:=hu1);(try obtain rfl:u2=_:=hu2);(try obtain rfl:u3=_:=hu3);exact hop _) ?_))|(refine yN hK ?_;clear hK K))|refine wG ?_|(refine yR ?_;intro K hK)|fail)
      exact a4A v (λ w5 e5=>⟨he.trans e5,by rw [hold];exact ho.ext e5⟩) oZ sZ
  rintro v' w3 ⟨x3,ho3⟩;clear hst' ho hq1 hq2;cases x with
  | false =>
    have hA1:=hAf' rfl;cases y with
    | false =>
      have hC1:=hCf' rfl
      repeat' (first|(refine yL ?_;first|refine a0A rfl ?_|refine yO ?_|(refine yC ?_ ?_<;>intro hc)|(refine yN hK ?_;clear hK K))|refine wG ?_|(refine yR ?_;intro K hK)|fail)
      all_goals first
       | exact a4A (i,k,true,true,N,v') (λ w5 e5=>⟨x3.trans e5,hA1 oZ,hC1 oZ,hNT,ho3.ext e5⟩) (by have:=hin oZ;have:=hkn oZ;dsimp only;simp only [if_true,if_false,Bool.false_eq_true];omega) sZ
       | exact a4A (i,k,true,false,N,v') (λ w5 e5=>⟨x3.trans e5,hA1 oZ,hC0,hNT,ho3.ext e5⟩) (by have:=hin oZ;dsimp only;simp only [if_true,if_false,Bool.false_eq_true];omega) sZ
       | exact a4A (i,k,false,true,N,v') (λ w5 e5=>⟨x3.trans e5,hA0,hC1 oZ,hNT,ho3.ext e5⟩) (by have:=hkn oZ;dsimp only;simp only [if_true,if_false,Bool.false_eq_true];omega) sZ
       | (exfalso;omega)
    | true =>
      have hC1:=hCt' rfl
      repeat' (first|(refine yL ?_;first|refine a0A rfl ?_|refine yO ?_|(refine yC ?_ ?_<;>intro hc)|(refine yN hK ?_;clear hK K))|refine wG ?_|(refine yR ?_;intro K hK)|fail)
      all_goals first
       | exact a4A (i,k+1,true,false,N,v') (λ w5 e5=>⟨x3.trans e5,hA1 oZ,hC1 oZ,hNT,ho3.ext e5⟩) (by have:=hin oZ;have:=hkn oZ;dsimp only;simp only [if_true,if_false,Bool.false_eq_true];omega) sZ
       | exact a4A (i,k,true,true,N,v') (λ w5 e5=>⟨x3.trans e5,hA1 oZ,hC0,hNT,ho3.ext e5⟩) (by have:=hin oZ;dsimp only;simp only [if_true,if_false,Bool.false_eq_true];omega) sZ
       | exact a4A (i,k+1,false,false,N,v') (λ w5 e5=>⟨x3.trans e5,hA0,hC1 oZ,hNT,ho3.ext e5⟩) (by have:=hkn oZ;dsimp only;simp only [if_true,if_false,Bool.false_eq_true];omega) sZ
       | (exfalso;omega)
  | true =>
    have hA1:=hAt' rfl;cases y with
    | false =>
      have hC1:=hCf' rfl
      repeat' (first|(refine yL ?_;first|refine a0A rfl ?_|refine yO ?_|(refine yC ?_ ?_<;>intro hc)|(refine yN hK ?_;clear hK K))|refine wG ?_|(refine yR ?_;intro K hK)|fail)
      all_goals first
       | exact a4A (i+1,k,false,true,N,v') (λ w5 e5=>⟨x3.trans e5,hA1 oZ,hC1 oZ,hNT,ho3.ext e5⟩) (by have:=hin oZ;have:=hkn oZ;dsimp only;simp only [if_true,if_false,Bool.false_eq_true];omega) sZ
       | exact a4A (i+1,k,false,false,N,v') (λ w5 e5=>⟨x3.trans e5,hA1 oZ,hC0,hNT,ho3.ext e5⟩) (by have:=hin oZ;dsimp only;simp only [if_true,if_false,Bool.false_eq_true];omega) sZ
       | exact a4A (i,k,true,true,N,v') (λ w5 e5=>⟨x3.trans e5,hA0,hC1 oZ,hNT,ho3.ext e5⟩) (by have:=hkn oZ;dsimp only;simp only [if_true,if_false,Bool.false_eq_true];omega) sZ
       | (exfalso;omega)
    | true =>
      have hC1:=hCt' rfl
      repeat' (first|(refine yL ?_;first|refine a0A rfl ?_|refine yO ?_|(refine yC ?_ ?_<;>intro hc)|(refine yN hK ?_;clear hK K))|refine wG ?_|(refine yR ?_;intro K hK)|fail)
      all_goals first
       | exact a4A (i+1,k+1,false,false,N,v') (λ w5 e5=>⟨x3.trans e5,hA1 oZ,hC1 oZ,hNT,ho3.ext e5⟩) (by have:=hin oZ;have:=hkn oZ;dsimp only;simp only [if_true,if_false,Bool.false_eq_true];omega) sZ
       | exact a4A (i+1,k,false,true,N,v') (λ w5 e5=>⟨x3.trans e5,hA1 oZ,hC0,hNT,ho3.ext e5⟩) (by have:=hin oZ;dsimp only;simp only [if_true,if_false,Bool.false_eq_true];omega) sZ
       | exact a4A (i,k+1,true,false,N,v') (λ w5 e5=>⟨x3.trans e5,hA0,hC1 oZ,hNT,ho3.ext e5⟩) (by have:=hkn oZ;dsimp only;simp only [if_true,if_false,Bool.false_eq_true];omega) sZ
       | (exfalso;omega)
end Go.Proofs.YtbokphkfojijoaaGreatDoor
end
