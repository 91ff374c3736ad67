import Derived.Test.YtlnaebejmjmepaaGreatDoorM11
import Derived.Test.YtlnaebejmjmepaaGreatDoorM12
import Derived.Test.YtlnaebejmjmepaaGreatDoorM13
set_option linter.unusedSimpArgs false
set_option linter.unusedVariables false
set_option maxRecDepth 3000
set_option maxHeartbeats 16000000
section
namespace Go.Proofs.YtlnaebejmjmepaaGreatDoor
open Go.LA Go.ArrP Go.RowKit
variable {A:Nat→Prop}
theorem rzA {w:World} {va vw vr:Value} {kd:Int} {p:Nat→Bool} {x:Nat} (h:SlI .u16 w va (adA p 65536)) (hx:x≤65536):Fc Tryz.prog 112 #[.agg #[.int .u8 kd,va,vw,vr],.int .i64 x] w (Ret w (.val (.int .i64 (cnt p x)))):=by
 have hb:=ixA p x hx;have hl:=baA p 65536;have hn:(adA p 65536).length≤4611686018427387903:=by rw [baA];have:=cnt_le p 65536;omega
 obtain ⟨n,hnn⟩:∃ n,n=(adA p 65536).length:=⟨_,rfl⟩
 by_cases h0:x=0
 ·subst h0
  refine Fc.of (args:=[_,_]) Tryz.func112 rfl rfl Tryz.ntmps112 nZ ?_
  repeat' (first|(refine yL ?_;first|refine a0A rfl ?_|refine d9A ?_|refine yO ?_|(refine yC ?_ ?_<;>intro hc)|(refine yN hK ?_;clear hK K))|refine wG ?_|(refine yR ?_;intro K hK)|fail)
  all_goals exact a9A rfl rfl (Ext.refl _) rfl
 by_cases h1:x=65536
 ·subst h1
  refine Fc.of (args:=[_,_]) Tryz.func112 rfl rfl Tryz.ntmps112 nZ ?_
  repeat' (first|(refine yL ?_;first|refine a0A rfl ?_|refine d9A ?_|(refine c7A ?_;refine asA rfl _ rfl rfl (by exact (HasI.val h).c) ?_)|refine yO ?_|(refine yC ?_ ?_<;>intro hc)|(refine yN hK ?_;clear hK K))|refine wG ?_|(refine yR ?_;intro K hK)|fail)
  all_goals exact a9A rfl rfl (Ext.refl _) (by rw [hl])
 ·have q0:True:=trivial
  refine Fc.of (args:=[_,_]) Tryz.func112 rfl rfl Tryz.ntmps112 nZ ?_
  repeat' (first|(refine yL ?_;first|refine a0A rfl ?_|refine d9A ?_|refine yO ?_|(refine yC ?_ ?_<;>intro hc)|(refine yV ?_;first|(refine oC 163 ?_;refine a3A (f:=163) rfl rfl rfl rfl  (.tup2 (.val (.int .i64 (bsS (adA p 65536) x))) (.val (.bool (dcA (adA p 65536) x)))) (by intro u1 u2 w e hu1 hu2;(try obtain rfl:u1=_:=hu1);(try obtain rfl:u2=_:=hu2);exact woA _ _ (adA p 65536) x (h.ext e) hn) ?_))|(refine yN hK ?_;clear hK K))|refine wG ?_|(refine yR ?_;intro K hK)|fail)
  all_goals exact a9A rfl rfl (Ext.refl _) (by rw [hb])
theorem pcA {w:World} {va vw vr:Value} {kd:Int} {p:Nat→Bool} {x:Nat} (h:SlI .u64 w vw (wordsOf p)) (hx:x≤65536):Fc Tryz.prog 113 #[.agg #[.int .u8 kd,va,vw,vr],.int .i64 x] w (Ret w (.val (.int .i64 (cnt p x)))):=by
 refine Fc.of (args:=[_,_]) Tryz.func113 rfl rfl Tryz.ntmps113 nZ ?_
 repeat' (first|(refine yL ?_;first|refine a0A rfl ?_|refine d9A ?_|refine yO ?_|(refine yC ?_ ?_<;>intro hc)|(refine yV ?_;first|(refine oC 164 ?_;refine a3A (f:=164) rfl rfl rfl rfl  (.val (.int .i64 (cnt p x))) (by intro u1 u2 w e hu1 hu2;(try obtain rfl:u1=_:=hu1);(try obtain rfl:u2=_:=hu2);exact arA (by rw [show (min (max (x:Int) 0) 65536).toNat=x by omega]) (a7B _ _ p (h.ext e) x oZ)) ?_))|(refine yN hK ?_;clear hK K))|refine wG ?_|(refine yR ?_;intro K hK)|fail)
 all_goals exact a9A rfl rfl (Ext.refl _) rfl
theorem pyA {w:World} {va vw vr:Value} {kd:Int} {p:Nat→Bool} {x:Nat} (h:SlR w vr (avA p)) (hx:x≤65536):Fc Tryz.prog 114 #[.agg #[.int .u8 kd,va,vw,vr],.int .i64 x] w (Ret w (.val (.int .i64 (cnt p x)))):=by
 have hr:j9A (avA p) x=cnt p x:=by rw [show j9A (avA p) x=_ from nfA p x 65536,show (min (max (x:Int) 0) (65536:Nat)).toNat=x by omega]
 have hn:(avA p).length≤70000:=by have:=dbA p;omega
 refine Fc.of (args:=[_,_]) Tryz.func114 rfl rfl Tryz.ntmps114 nZ ?_
 repeat' (first|(refine yL ?_;first|refine a0A rfl ?_|refine d9A ?_|refine yO ?_|(refine yC ?_ ?_<;>intro hc)|(refine yV ?_;first|(refine oC 165 ?_;refine a3A (f:=165) rfl rfl rfl rfl  (.val (.int .i64 (cnt p x))) (by intro u1 u2 w e hu1 hu2;(try obtain rfl:u1=_:=hu1);(try obtain rfl:u2=_:=hu2);exact arA (by rw [hr]) (tjA _ _ (avA p) x (h.ext e) (dkA p) hn oZ)) ?_))|(refine yN hK ?_;clear hK K))|refine wG ?_|(refine yR ?_;intro K hK)|fail)
 all_goals exact a9A rfl rfl (Ext.refl _) rfl
theorem awB {w:World} {v:Value} {p:Nat→Bool} {kk:Int} {x:Nat} (h:Cn A w v p kk) (hx:x≤65536):Fc Tryz.prog 77 #[v,.int .i64 x] w (Ret w (.val (.int .i64 (cnt p x)))):=by
 have hk:∀ w',Ext w w'→_:=λ w' e=>e5A (h.ext e)
 obtain ⟨hp,⟨rfl,kd,va,hkd,rfl,ho⟩|⟨rfl,vw,rfl,ho⟩|⟨rfl,vr,rfl,ho⟩⟩:=h
 ·skip
  refine Fc.of (args:=[_,_]) Tryz.func77 rfl rfl Tryz.ntmps77 nZ ?_
  repeat' (first|(refine yL ?_;first|refine a0A rfl ?_|refine d9A ?_|refine c0A (c:=.agg #[.nilFunc,.func (.func 112) #[] #[],.func (.func 113) #[] #[],.func (.func 114) #[] #[]]) rfl rfl rfl rfl (λ _=>by kernel_rfl) ?_|(refine d3A 1 (c:=.func (.func 112) #[] #[]) rfl rfl (λ _=>rfl) rfl rfl rfl dZ (λ _=>by kernel_rfl) ?_)|refine yO ?_|(refine yC ?_ ?_<;>intro hc)|(refine yV ?_;first|(refine oC 57 ?_;refine a2A (f:=57) rfl rfl rfl _ (by intro u1 w' e hu1;obtain rfl:u1=_:=hu1;exact hk w' e) ?_)|(refine a3A (f:=112) rfl rfl rfl rfl (.val (.int .i64 (cnt p x))) (by intro u1 u2 w' e hu1 hu2;obtain rfl:u1=_:=hu1;obtain rfl:u2=_:=hu2;exact rzA (ho.ext e).slI hx) ?_))|(refine yN hK ?_;clear hK K))|refine wG ?_|(refine yR ?_;intro K hK)|fail)
  all_goals exact a9A rfl rfl (Ext.refl _) rfl
 ·skip
  refine Fc.of (args:=[_,_]) Tryz.func77 rfl rfl Tryz.ntmps77 nZ ?_
  repeat' (first|(refine yL ?_;first|refine a0A rfl ?_|refine d9A ?_|refine c0A (c:=.agg #[.nilFunc,.func (.func 112) #[] #[],.func (.func 113) #[] #[],.func (.func 114) #[] #[]]) rfl rfl rfl rfl (λ _=>by kernel_rfl) ?_|(refine d3A 2 (c:=.func (.func 113) #[] #[]) rfl rfl (λ _=>rfl) rfl rfl rfl dZ (λ _=>by kernel_rfl) ?_)|refine yO ?_|(refine yC ?_ ?_<;>intro hc)|(refine yV ?_;first|(refine oC 57 ?_;refine a2A (f:=57) rfl rfl rfl _ (by intro u1 w' e hu1;obtain rfl:u1=_:=hu1;exact hk w' e) ?_)|(refine a3A (f:=113) rfl rfl rfl rfl (.val (.int .i64 (cnt p x))) (by intro u1 u2 w' e hu1 hu2;obtain rfl:u1=_:=hu1;obtain rfl:u2=_:=hu2;exact pcA (ho.ext e).slI hx) ?_))|(refine yN hK ?_;clear hK K))|refine wG ?_|(refine yR ?_;intro K hK)|fail)
  all_goals exact a9A rfl rfl (Ext.refl _) rfl
 ·skip
  refine Fc.of (args:=[_,_]) Tryz.func77 rfl rfl Tryz.ntmps77 nZ ?_
  repeat' (first|(refine yL ?_;first|refine a0A rfl ?_|refine d9A ?_|refine c0A (c:=.agg #[.nilFunc,.func (.func 112) #[] #[],.func (.func 113) #[] #[],.func (.func 114) #[] #[]]) rfl rfl rfl rfl (λ _=>by kernel_rfl) ?_|(refine d3A 3 (c:=.func (.func 114) #[] #[]) rfl rfl (λ _=>rfl) rfl rfl rfl dZ (λ _=>by kernel_rfl) ?_)|refine yO ?_|(refine yC ?_ ?_<;>intro hc)|(refine yV ?_;first|(refine oC 57 ?_;refine a2A (f:=57) rfl rfl rfl _ (by intro u1 w' e hu1;obtain rfl:u1=_:=hu1;exact hk w' e) ?_)|(refine a3A (f:=114) rfl rfl rfl rfl (.val (.int .i64 (cnt p x))) (by intro u1 u2 w' e hu1 hu2;obtain rfl:u1=_:=hu1;obtain rfl:u2=_:=hu2;exact pyA (ho.ext e).slR hx) ?_))|(refine yN hK ?_;clear hK K))|refine wG ?_|(refine yR ?_;intro K hK)|fail)
  all_goals exact a9A rfl rfl (Ext.refl _) rfl
end Go.Proofs.YtlnaebejmjmepaaGreatDoor
end
section
namespace Go.Proofs.YtlnaebejmjmepaaGreatDoor
open Go.LA Go.ArrP Go.RowKit
namespace Rsel
theorem uwA {rs:List Rn} {k:Nat} (hk:k<rs.length):rs.drop k=(fst rs k,mor rs k)::rs.drop (k+1):=by
 rw [List.drop_eq_getElem_cons hk];have:rs.getD k (0,0)=rs[k]:=by simp [List.getD,hk]
 unfold fst mor;rw [this]
theorem SlR.tail {w:World} {v:Value} {x:Rn} {rs:List Rn} (h:SlR w v (x::rs)):SlR w (epA v 1 (x::rs).length 2) rs:=by
 have h1:=SlC.sub h (l:=1) (h:=(x::rs).length) (by simp) (Nat.le_refl _);unfold SlR;have e1:(x::rs).length-1=rs.length:=by simp
 have e2:(((d0A (x::rs)).take ((x::rs).length*2)).drop (1*2))=d0A rs:=by
  rw [List.take_of_length_le (by rw [dtA];exact Nat.le_refl _)];simp [d0A]
 rw [e1,e2] at h1;exact h1
theorem rselR_c (w:World) (v:Value) (rs:List Rn) (k0:Int) (h:SlR w v rs) (hu:U16 rs) (hr:Right rs) (hk0:-9223372036854775808≤k0∧k0<9223372036854775808) :
 Fc Tryz.prog 168 #[v,.int .i64 k0] w (Ret w (.tup2 (.val (.int .u16 (osA rs k0).1)) (.val (.bool (osA rs k0).2)))):=by
 have hlen:=h.len;refine Fc.of (args:=[_,_]) Tryz.func168 rfl rfl Tryz.ntmps168 nZ ?_
 repeat' (first|(refine yL ?_;first|refine a0A rfl ?_|(refine oI ?_;refine azA rfl _ rfl (λ _=>rfl) rfl jZ rfl oZ ?_)|(refine oLt 79 ?_;refine akA rfl (λ _=>rfl) (λ _=>rfl) rfl ?_)|(show LA _ _ _ _ (⟨some 99,.alloc _,_,_,_,_⟩::_) _;refine a4A (hK _ _ (c5A rfl rfl dZ (λ _=>rfl) (λ _=>rfl) (λ _=>rfl) rfl (by intro u hu;simp [Value.cells] at hu;rcases hu with rfl|rfl <;> rfl) (λ bx wx ex hbx hbc=>?_)));clear hK K;refine aiA kZ (λ K hK=>?_))|(refine oF 0 ?_;refine a1A (a:=⟨bx,0,none⟩) (a':=⟨bx,0,none⟩) rfl rfl (λ _=>rfl) ?_)|(refine oF 1 ?_;refine a1A (a:=⟨bx,0,none⟩) (a':=⟨bx,1,none⟩) rfl rfl (λ _=>rfl) ?_)|(refine oLt 79 ?_;refine b2A rfl (λ _=>rfl) (λ _=>rfl) rfl hbc ?_)|(refine oLt 40 ?_;refine a5A rfl (λ _=>rfl) rfl hbc rfl ?_)|(refine c7A ?_;refine btA rfl _ rfl rfl jZ ?_)|refine yO ?_|(refine yC ?_ ?_<;>intro hc)|(refine yN hK ?_;clear hK K))|refine wG ?_|(refine yR ?_;intro K hK)|fail)
 refine agA (ι:=Nat × Value × Int) (λ i=>[(0,.val i.2.1),(1,.val (.int .i64 i.2.2)),(8,.val v),(9,.val (.int .i64 rs.length)),(10,.val (.int .i64 i.1))])
  (λ i w'=>Ext w w'∧i.1≤rs.length∧SlR w i.2.1 (rs.drop i.1)∧osA rs k0=osA (rs.drop i.1) i.2.2∧(-9223372036854775808≤i.2.2∧i.2.2<9223372036854775808)) (λ i=>rs.length-i.1)
  (λ w2 e2=>⟨(0,v,k0),⟨e2,Nat.zero_le _,h,rfl,hk0⟩,sZ⟩) ?_
 rintro ⟨k,vk,kk⟩ w1 ⟨he,hk,hvk,hsel,hkk⟩;dsimp only at hk hvk hsel hkk ⊢;have h1:=h.ext he;have hv1:=hvk.ext he
 by_cases hkl:k<rs.length
 ·obtain ⟨u1,u2,u3,u4⟩:=hu.at k
  obtain ⟨-,hr2⟩:=hr k hkl;have hd:=uwA hkl;rw [hd] at hv1 hsel hvk;have hsl:osA ((fst rs k,mor rs k)::rs.drop (k+1)) kk=if kk≤mor rs k then (if kk<0 then (0,false) else (fst rs k+kk,true)) else osA (rs.drop (k+1)) (kk-(mor rs k+1)):=rfl
  rw [hsl] at hsel
  by_cases hle:kk≤mor rs k
  ·rw [if_pos hle] at hsel
   by_cases hneg:kk<0
   ·rw [if_pos hneg] at hsel
    rw [hsel]
    repeat' (first|(refine yL ?_;first|refine a0A rfl ?_|(refine oI ?_;refine azA rfl _ rfl (λ _=>rfl) rfl jZ rfl oZ ?_)|(refine oLt 79 ?_;refine akA rfl (λ _=>rfl) (λ _=>rfl) rfl ?_)|(show LA _ _ _ _ (⟨some 7,.alloc _,_,_,_,_⟩::_) _;refine a4A (hK _ _ (c5A rfl rfl dZ (λ _=>rfl) (λ _=>rfl) (λ _=>rfl) rfl (by intro u hu;simp [Value.cells] at hu;rcases hu with rfl|rfl <;> rfl) (λ bx wx ex hbx hbc=>?_)));clear hK K;refine aiA kZ (λ K hK=>?_))|(refine oF 0 ?_;refine a1A (a:=⟨bx,0,none⟩) (a':=⟨bx,0,none⟩) rfl rfl (λ _=>rfl) ?_)|(refine oF 1 ?_;refine a1A (a:=⟨bx,0,none⟩) (a':=⟨bx,1,none⟩) rfl rfl (λ _=>rfl) ?_)|(refine oLt 79 ?_;refine b2A rfl (λ _=>rfl) (λ _=>rfl) rfl hbc ?_)|(refine oLt 40 ?_;refine a5A rfl (λ _=>rfl) rfl hbc rfl ?_)|(refine c7A ?_;refine btA rfl _ rfl rfl jZ ?_)|refine yO ?_|(refine yC ?_ ?_<;>intro hc)|(refine yN hK ?_;clear hK K))|refine wG ?_|(refine yR ?_;intro K hK)|(refine oPX ?_;first|exact bgA rfl rfl rfl (he.trans ex) rfl rfl)|fail)
   ·rw [if_neg hneg] at hsel
    rw [hsel];have hf0:fst ((fst rs k,mor rs k)::rs.drop (k+1)) 0=fst rs k:=rfl;have hln:(((fst rs k,mor rs k)::rs.drop (k+1)).length:Int)=(rs.drop (k+1)).length+1:=by simp
    repeat' (first|(refine yL ?_;first|refine a0A rfl ?_|(refine oD 32 ?_;refine btA rfl _ rfl rfl (HasR.val (hv1.ext ex)) ?_;rw [hln])|(refine oD 36 ?_;refine azA (j:=0) rfl _ rfl (λ _=>rfl) rfl (HasR.val (hv1.ext ex)) rfl (by simp) ?_;rw [hf0])|(refine oD 37 ?_;refine acA (f:=0) (o:=0) rfl rfl (λ _ _=>rfl) ?_)|(refine oD 38 ?_;refine ayA rfl (λ _=>rfl) rfl rfl ?_)|(refine oI ?_;refine azA rfl _ rfl (λ _=>rfl) rfl jZ rfl oZ ?_)|(refine oLt 79 ?_;refine akA rfl (λ _=>rfl) (λ _=>rfl) rfl ?_)|(show LA _ _ _ _ (⟨some 7,.alloc _,_,_,_,_⟩::_) _;refine a4A (hK _ _ (c5A rfl rfl dZ (λ _=>rfl) (λ _=>rfl) (λ _=>rfl) rfl (by intro u hu;simp [Value.cells] at hu;rcases hu with rfl|rfl <;> rfl) (λ bx wx ex hbx hbc=>?_)));clear hK K;refine aiA kZ (λ K hK=>?_))|(refine oF 0 ?_;refine a1A (a:=⟨bx,0,none⟩) (a':=⟨bx,0,none⟩) rfl rfl (λ _=>rfl) ?_)|(refine oF 1 ?_;refine a1A (a:=⟨bx,0,none⟩) (a':=⟨bx,1,none⟩) rfl rfl (λ _=>rfl) ?_)|(refine oLt 79 ?_;refine b2A rfl (λ _=>rfl) (λ _=>rfl) rfl hbc ?_)|(refine oLt 40 ?_;refine a5A rfl (λ _=>rfl) rfl hbc rfl ?_)|(refine c7A ?_;refine btA rfl _ rfl rfl jZ ?_)|refine yO ?_|(refine yC ?_ ?_<;>intro hc)|(refine yN hK ?_;clear hK K))|refine wG ?_|(refine yR ?_;intro K hK)|(refine oPX ?_;first|exact bgA rfl rfl rfl (he.trans ex) rfl rfl)|fail)
  ·rw [if_neg hle] at hsel
   have hvt:=SlR.tail hvk;have hl1:(1:Int)≤(((fst rs k,mor rs k)::rs.drop (k+1)).length:Int):=by rw [List.length_cons];omega
   have hv1':SlC w1 vk ((fst rs k,mor rs k)::rs.drop (k+1)).length 2 (d0A ((fst rs k,mor rs k)::rs.drop (k+1))):=hv1
   repeat' (first|(refine yL ?_;first|refine a0A rfl ?_|(refine oD 26 ?_;refine cvA rfl _ rfl rfl (HasC.val (SlC.ext hv1' ex)) rfl oZ hl1 (by exact λ _=>rfl) ?_;dsimp only [Int.reduceToNat])|(refine oI ?_;refine azA rfl _ rfl (λ _=>rfl) rfl jZ rfl oZ ?_)|(refine oLt 79 ?_;refine akA rfl (λ _=>rfl) (λ _=>rfl) rfl ?_)|(show LA _ _ _ _ (⟨some 7,.alloc _,_,_,_,_⟩::_) _;refine a4A (hK _ _ (c5A rfl rfl dZ (λ _=>rfl) (λ _=>rfl) (λ _=>rfl) rfl (by intro u hu;simp [Value.cells] at hu;rcases hu with rfl|rfl <;> rfl) (λ bx wx ex hbx hbc=>?_)));clear hK K;refine aiA kZ (λ K hK=>?_))|(refine oF 0 ?_;refine a1A (a:=⟨bx,0,none⟩) (a':=⟨bx,0,none⟩) rfl rfl (λ _=>rfl) ?_)|(refine oF 1 ?_;refine a1A (a:=⟨bx,0,none⟩) (a':=⟨bx,1,none⟩) rfl rfl (λ _=>rfl) ?_)|(refine oLt 79 ?_;refine b2A rfl (λ _=>rfl) (λ _=>rfl) rfl hbc ?_)|(refine oLt 40 ?_;refine a5A rfl (λ _=>rfl) rfl hbc rfl ?_)|(refine c7A ?_;refine btA rfl _ rfl rfl jZ ?_)|refine yO ?_|(refine yC ?_ ?_<;>intro hc)|(refine yN hK ?_;clear hK K))|refine wG ?_|(refine yR ?_;intro K hK)|fail)
   skip
   exact a6A (k+1,epA vk 1 ((fst rs k,mor rs k)::rs.drop (k+1)).length 2,kk-(mor rs k+1)) (λ w5 e5=>⟨he.trans (ex.trans e5),hkl,hvt,hsel,by dsimp only;omega⟩) eZ sZ
 ·obtain rfl:k=rs.length:=oZ
  rw [List.drop_length] at hv1 hsel;have hs0:osA [] kk=(0,false):=rfl;rw [hs0] at hsel;rw [hsel]
  by_cases hneg:kk<0
  all_goals
   repeat' (first|(refine yL ?_;first|refine a0A rfl ?_|(refine oD 32 ?_;refine btA rfl _ rfl rfl (HasR.val hv1) ?_;rw [show ((([]:List Rn).length:Nat):Int)=0 from rfl])|(refine oI ?_;refine azA rfl _ rfl (λ _=>rfl) rfl jZ rfl oZ ?_)|(refine oLt 79 ?_;refine akA rfl (λ _=>rfl) (λ _=>rfl) rfl ?_)|(show LA _ _ _ _ (⟨some 7,.alloc _,_,_,_,_⟩::_) _;refine a4A (hK _ _ (c5A rfl rfl dZ (λ _=>rfl) (λ _=>rfl) (λ _=>rfl) rfl (by intro u hu;simp [Value.cells] at hu;rcases hu with rfl|rfl <;> rfl) (λ bx wx ex hbx hbc=>?_)));clear hK K;refine aiA kZ (λ K hK=>?_))|(refine oF 0 ?_;refine a1A (a:=⟨bx,0,none⟩) (a':=⟨bx,0,none⟩) rfl rfl (λ _=>rfl) ?_)|(refine oF 1 ?_;refine a1A (a:=⟨bx,0,none⟩) (a':=⟨bx,1,none⟩) rfl rfl (λ _=>rfl) ?_)|(refine oLt 79 ?_;refine b2A rfl (λ _=>rfl) (λ _=>rfl) rfl hbc ?_)|(refine oLt 40 ?_;refine a5A rfl (λ _=>rfl) rfl hbc rfl ?_)|(refine c7A ?_;refine btA rfl _ rfl rfl jZ ?_)|refine yO ?_|(refine yC ?_ ?_<;>intro hc)|(refine yN hK ?_;clear hK K))|refine wG ?_|(refine yR ?_;intro K hK)|(refine oPX ?_;first|exact bgA rfl rfl rfl he rfl rfl)|fail)
end Rsel
variable {A:Nat→Prop}
theorem vbA {w:World} {va vw vr:Value} {kd:Int} {p:Nat→Bool} {k:Int} (h:SlI .u16 w va (adA p 65536)) (hk:-9223372036854775808≤k∧k<9223372036854775808):Fc Tryz.prog 120 #[.agg #[.int .u8 kd,va,vw,vr],.int .i64 k] w (Ret w (.tup2 (.val (.int .u16 (hjA p k).1)) (.val (.bool (hjA p k).2)))):=by
 obtain ⟨xs,hxs⟩:∃ xs,xs=adA p 65536:=⟨_,rfl⟩;have hl:xs.length=cnt p 65536:=by rw [hxs,baA]
 have hc:=cnt_le p 65536;obtain ⟨c,hcc⟩:∃ c,c=cnt p 65536:=⟨_,rfl⟩;unfold hjA;rw [← hxs] at h ⊢;rw [← hcc] at hl hc ⊢;clear hxs hcc
 by_cases h0:k<0
 ·rw [if_neg oZ]
  refine Fc.of (args:=[_,_]) Tryz.func120 rfl rfl Tryz.ntmps120 nZ ?_
  repeat' (first|(refine yL ?_;first|refine a0A rfl ?_|refine d9A ?_|refine yO ?_|(refine yC ?_ ?_<;>intro hc)|(refine yN hK ?_;clear hK K))|refine wG ?_|(refine yR ?_;intro K hK)|fail)
  all_goals exact bgA rfl rfl rfl (Ext.refl _) rfl rfl
 by_cases h1:c≤k
 ·rw [if_neg oZ]
  refine Fc.of (args:=[_,_]) Tryz.func120 rfl rfl Tryz.ntmps120 nZ ?_
  repeat' (first|(refine yL ?_;first|refine a0A rfl ?_|refine d9A ?_|(refine c7A ?_;refine asA rfl _ rfl rfl (by exact (HasI.val h).c) ?_)|refine yO ?_|(refine yC ?_ ?_<;>intro hc)|(refine yN hK ?_;clear hK K))|refine wG ?_|(refine yR ?_;intro K hK)|fail)
  all_goals exact bgA rfl rfl rfl (Ext.refl _) rfl rfl
 ·rw [if_pos oZ]
  refine Fc.of (args:=[_,_]) Tryz.func120 rfl rfl Tryz.ntmps120 nZ ?_
  repeat' (first|(refine yL ?_;first|refine a0A rfl ?_|refine d9A ?_|(refine c7A ?_;refine asA rfl _ rfl rfl (by exact (HasI.val h).c) ?_)|(refine oI ?_;refine gsA rfl _ rfl (λ _=>rfl) rfl (by exact HasI.val h) rfl oZ oZ ?_)|refine yO ?_|(refine yC ?_ ?_<;>intro hc)|(refine yN hK ?_;clear hK K))|refine wG ?_|(refine yR ?_;intro K hK)|fail)
  all_goals exact bgA rfl rfl rfl (Ext.refl _) rfl rfl
theorem akB (p:Nat→Bool) (k:Int):osA (avA p) k=hjA p k:=by
 have hl:ecA (avA p)=adA p 65536:=keA p 65536;have hn:jcA (avA p)=cnt p 65536:=mdA p 65536;rw [pwA _ _ (λ x hx=>(dkA p x hx).2.2.1),hn,hl];rfl
theorem t1A {w:World} {va vw vr:Value} {kd:Int} {p:Nat→Bool} {k:Int} (h:SlI .u64 w vw (wordsOf p)) (hT:Tab w) (hk:-9223372036854775808≤k∧k<9223372036854775808):Fc Tryz.prog 121 #[.agg #[.int .u8 kd,va,vw,vr],.int .i64 k] w (Ret w (.tup2 (.val (.int .u16 (hjA p k).1)) (.val (.bool (hjA p k).2)))):=by
 refine Fc.of (args:=[_,_]) Tryz.func121 rfl rfl Tryz.ntmps121 nZ ?_
 repeat' (first|(refine yL ?_;first|refine a0A rfl ?_|refine d9A ?_|refine yO ?_|(refine yC ?_ ?_<;>intro hc)|(refine yV ?_;first|(refine oC 167 ?_;refine a3A (f:=167) rfl rfl rfl rfl  (.tup2 (.val (.int .u16 (hjA p k).1)) (.val (.bool (hjA p k).2))) (by intro u1 u2 w e hu1 hu2;(try obtain rfl:u1=_:=hu1);(try obtain rfl:u2=_:=hu2);exact wselP _ _ p (h.ext e) (hT.ext e) k hk) ?_))|(refine yN hK ?_;clear hK K))|refine wG ?_|(refine yR ?_;intro K hK)|fail)
 all_goals exact bgA rfl rfl rfl (Ext.refl _) rfl rfl
theorem teA {w:World} {va vw vr:Value} {kd:Int} {p:Nat→Bool} {k:Int} (h:SlR w vr (avA p)) (hk:-9223372036854775808≤k∧k<9223372036854775808):Fc Tryz.prog 122 #[.agg #[.int .u8 kd,va,vw,vr],.int .i64 k] w (Ret w (.tup2 (.val (.int .u16 (hjA p k).1)) (.val (.bool (hjA p k).2)))):=by
 rw [← akB];refine Fc.of (args:=[_,_]) Tryz.func122 rfl rfl Tryz.ntmps122 nZ ?_
 repeat' (first|(refine yL ?_;first|refine a0A rfl ?_|refine d9A ?_|refine yO ?_|(refine yC ?_ ?_<;>intro hc)|(refine yV ?_;first|(refine oC 168 ?_;refine a3A (f:=168) rfl rfl rfl rfl  (.tup2 (.val (.int .u16 (osA (avA p) k).1)) (.val (.bool (osA (avA p) k).2))) (by intro u1 u2 w e hu1 hu2;(try obtain rfl:u1=_:=hu1);(try obtain rfl:u2=_:=hu2);exact Rsel.rselR_c _ _ (avA p) k (h.ext e) (dkA p) (dsA p) hk) ?_))|(refine yN hK ?_;clear hK K))|refine wG ?_|(refine yR ?_;intro K hK)|fail)
 all_goals exact bgA rfl rfl rfl (Ext.refl _) rfl rfl
end Go.Proofs.YtlnaebejmjmepaaGreatDoor
end
section
namespace Go.Proofs.YtlnaebejmjmepaaGreatDoor
open Go.LA Go.ArrP Go.RowKit
variable {A:Nat→Prop}
theorem sel_c {w:World} {v:Value} {p:Nat→Bool} {kk:Int} {k:Int} (h:Cn A w v p kk) (hT:Tab w) (hk':-9223372036854775808≤k∧k<9223372036854775808):Fc Tryz.prog 85 #[v,.int .i64 k] w (Ret w (.tup2 (.val (.int .u16 (hjA p k).1)) (.val (.bool (hjA p k).2)))):=by
 have hk:∀ w',Ext w w'→_:=λ w' e=>e5A (h.ext e)
 obtain ⟨hp,⟨rfl,kd,va,hkd,rfl,ho⟩|⟨rfl,vw,rfl,ho⟩|⟨rfl,vr,rfl,ho⟩⟩:=h
 ·skip
  refine Fc.of (args:=[_,_]) Tryz.func85 rfl rfl Tryz.ntmps85 nZ ?_
  repeat' (first|(refine yL ?_;first|refine a0A rfl ?_|refine d9A ?_|refine c0A (c:=.agg #[.nilFunc,.func (.func 120) #[] #[],.func (.func 121) #[] #[],.func (.func 122) #[] #[]]) rfl rfl rfl rfl (λ _=>by kernel_rfl) ?_|(refine d3A 1 (c:=.func (.func 120) #[] #[]) rfl rfl (λ _=>rfl) rfl rfl rfl dZ (λ _=>by kernel_rfl) ?_)|refine yO ?_|(refine yC ?_ ?_<;>intro hc)|(refine yV ?_;first|(refine oC 57 ?_;refine a2A (f:=57) rfl rfl rfl _ (by intro u1 w' e hu1;obtain rfl:u1=_:=hu1;exact hk w' e) ?_)|(refine a3A (f:=120) rfl rfl rfl rfl (.tup2 (.val (.int .u16 (hjA p k).1)) (.val (.bool (hjA p k).2))) (by intro u1 u2 w' e hu1 hu2;obtain rfl:u1=_:=hu1;obtain rfl:u2=_:=hu2;exact vbA (ho.ext e).slI hk') ?_))|(refine yN hK ?_;clear hK K))|refine wG ?_|(refine yR ?_;intro K hK)|fail)
  all_goals exact bgA rfl rfl rfl (Ext.refl _) rfl rfl
 ·skip
  refine Fc.of (args:=[_,_]) Tryz.func85 rfl rfl Tryz.ntmps85 nZ ?_
  repeat' (first|(refine yL ?_;first|refine a0A rfl ?_|refine d9A ?_|refine c0A (c:=.agg #[.nilFunc,.func (.func 120) #[] #[],.func (.func 121) #[] #[],.func (.func 122) #[] #[]]) rfl rfl rfl rfl (λ _=>by kernel_rfl) ?_|(refine d3A 2 (c:=.func (.func 121) #[] #[]) rfl rfl (λ _=>rfl) rfl rfl rfl dZ (λ _=>by kernel_rfl) ?_)|refine yO ?_|(refine yC ?_ ?_<;>intro hc)|(refine yV ?_;first|(refine oC 57 ?_;refine a2A (f:=57) rfl rfl rfl _ (by intro u1 w' e hu1;obtain rfl:u1=_:=hu1;exact hk w' e) ?_)|(refine a3A (f:=121) rfl rfl rfl rfl (.tup2 (.val (.int .u16 (hjA p k).1)) (.val (.bool (hjA p k).2))) (by intro u1 u2 w' e hu1 hu2;obtain rfl:u1=_:=hu1;obtain rfl:u2=_:=hu2;exact t1A (ho.ext e).slI (hT.ext e) hk') ?_))|(refine yN hK ?_;clear hK K))|refine wG ?_|(refine yR ?_;intro K hK)|fail)
  all_goals exact bgA rfl rfl rfl (Ext.refl _) rfl rfl
 ·skip
  refine Fc.of (args:=[_,_]) Tryz.func85 rfl rfl Tryz.ntmps85 nZ ?_
  repeat' (first|(refine yL ?_;first|refine a0A rfl ?_|refine d9A ?_|refine c0A (c:=.agg #[.nilFunc,.func (.func 120) #[] #[],.func (.func 121) #[] #[],.func (.func 122) #[] #[]]) rfl rfl rfl rfl (λ _=>by kernel_rfl) ?_|(refine d3A 3 (c:=.func (.func 122) #[] #[]) rfl rfl (λ _=>rfl) rfl rfl rfl dZ (λ _=>by kernel_rfl) ?_)|refine yO ?_|(refine yC ?_ ?_<;>intro hc)|(refine yV ?_;first|(refine oC 57 ?_;refine a2A (f:=57) rfl rfl rfl _ (by intro u1 w' e hu1;obtain rfl:u1=_:=hu1;exact hk w' e) ?_)|(refine a3A (f:=122) rfl rfl rfl rfl (.tup2 (.val (.int .u16 (hjA p k).1)) (.val (.bool (hjA p k).2))) (by intro u1 u2 w' e hu1 hu2;obtain rfl:u1=_:=hu1;obtain rfl:u2=_:=hu2;exact teA (ho.ext e).slR hk') ?_))|(refine yN hK ?_;clear hK K))|refine wG ?_|(refine yR ?_;intro K hK)|fail)
  all_goals exact bgA rfl rfl rfl (Ext.refl _) rfl rfl
end Go.Proofs.YtlnaebejmjmepaaGreatDoor
end
section
namespace Go.Proofs.YtlnaebejmjmepaaGreatDoor
open Go.LA Go.ArrP Go.RowKit
theorem b1B {w:World} {ba bb na ca nb cb ga gb:Nat} {xs ys:List Value} (ha:Own ba 40 1 w (.slice (some ⟨ga,0,none⟩) na ca) na xs) (hb:Own bb 40 1 w (.slice (some ⟨gb,0,none⟩) nb cb) nb ys) (hcb:0<cb) (hne:ga≠gb) (o l' c':Nat) :
 (callFunc 127 #[.slice (some ⟨ga,0,none⟩) na ca,.slice (some ⟨gb,o,none⟩) l' c']).run Tryz.prog w=.ok (.value (.bool false)) w:=by
 rw [run_callFunc_extern Tryz.func127 kZ kZ kZ (e:=Extern.SlicesOverlaps.overlaps #[22,22] #[4]) kZ,f9A rfl (λ _=>rfl) dZ ha hb hcb hne];rfl
theorem ukA (w:World) (base bu:Nat) (v u:Value) (n i:Nat) (cs xs:List Value) (ho:Own base 40 1 w v n cs) (hu:Own bu 40 1 w u 1 xs) (hi:i≤n) 
 (hap:∀ k,u.ownBlock=some k→v.ownBlock≠some k) (h1c:∀ c ∈ cs,c.oneCell'=true) (h1:∀ c ∈ xs,c.oneCell'=true) (hn:n≤70368744177663) (hb:(n+1)*2≤140737488355328) :
 Fc Tryz.prog 89 #[v,.int .i64 i,u] w (λ en w'=>∃ v',en=.returned v'∧Own 0 40 1 w' v' (n+1) (cs.take (i*1)++xs++cs.drop (i*1))∧Fr (λ k=>v.ownBlock=some k) w w'∧LocR w v v'):=by
 have hs:=ho.slC;have hsu:=hu.slC;have hcl:=ho.1;have hxl:=hu.1
 by_cases hin:i=n
 ·refine Fc.of (args:=[_,_,_]) Tryz.func89 rfl rfl Tryz.ntmps89 nZ ?_
  subst hin
  repeat' (first|(refine yL ?_;first|refine a0A rfl ?_|(refine a4A (hK _ _ (d7A rfl dZ c8A rfl ho rfl (HasC.val hsu) h1 (by unfold maxLen;omega) hb (λ v' w2 w3 he2 ho3 hg3 hl3=>?_)));clear hK K;dsimp only [vals];refine aiA kZ (λ K hK=>?_))|refine yO ?_|(refine yC ?_ ?_<;>intro hc)|(refine yN hK ?_;clear hK K))|refine wG ?_|(refine yR ?_;intro K hK)|fail)
  refine c6A rfl (λ v5 w5 e5 h5=>?_);obtain rfl:v5=_:=h5;refine ⟨_,rfl,?_,?_,hl3.le he2.size⟩
  ·rw [List.take_of_length_le oZ,List.drop_of_length_le oZ,List.append_nil]
   exact ho3.ext e5
  ·exact Fr.grown (fzA (evA he2 hg3.grownBy) e5)
 ·have hlt:i<n:=oZ
  rcases ho.2 with ⟨_,h0⟩|⟨gb,cap,cur,rfl,hgb,hg,hnc,hm,hsz,htake⟩
  ·omega
  rcases hu.2 with ⟨_,h0⟩|⟨gu,capu,curu,rfl,hgub,hgu,hncu,hmu,hszu,htakeu⟩
  ·omega
  have hne:gu≠gb:=λ e=>hap gu rfl (by rw [e];rfl)
  have hst:∀ c ∈ cs.drop (i*1),c.oneCell'=true:=λ c hc=>h1c c (List.mem_of_mem_drop hc)
  by_cases hroom:n+1≤cap
  ·obtain ⟨zs,hzl,hmore⟩:=ho.more 1 hroom
   have hsl:=hmore.slC;have hsub:epA (.slice (some ⟨gb,0,none⟩) (n+1) cap) (i+1) (n+1) 1=.slice (some ⟨gb,(i+1)*1,none⟩) (n+1-(i+1)) (cap-(i+1)):=f1A oZ;refine Fc.of (args:=[_,_,_]) Tryz.func89 rfl rfl Tryz.ntmps89 nZ ?_
   repeat' (first|(refine yL ?_;first|refine a0A rfl ?_|refine j2A rfl rfl rfl ?_|(refine fvA rfl _ rfl rfl rfl oZ oZ oZ (λ _=>rfl) ?_;rw [show ((n:Int)+((1:Nat):Int)).toNat=n+1 by omega])|(refine cvA rfl _ rfl rfl (HasC.val hsl) rfl oZ oZ (by exact λ _=>rfl) ?_;rw [show ((i:Int)+((1:Nat):Int)).toNat=i+1 by omega])|refine smA (f:=127) (c:=.bool false) rfl rfl rfl rfl (λ w2 e2=>by rw [hsub];exact b1B (hu.ext e2) (ho.ext e2) oZ hne _ _ _) ?_|(refine a4A (hK _ _ rfl (f5A (i+1) rfl (by intro q h;cases h;decide) c8A rfl rfl hmore (hsl.sub (Nat.le_of_lt oZ) (Nat.le_refl _)) oZ (by rw [nbA hlt hcl hzl];exact hst) (λ w2 w3 e2 ho3 hg3=>?_)));clear hK K;dsimp only [vals];have hu3:=((hu.ext e2).kept hg3 (.inr (λ q=>hne (by injection q))));refine aiA kZ (λ K hK=>?_))|(refine a4A (hK _ _ (f5A i rfl (by intro q h;cases h;decide) c8A rfl rfl ho3 hu3.slC oZ (λ c hc=>h1 c (List.mem_of_mem_take hc)) (λ w4 w5 e4 ho5 hg5=>?_)));clear hK K;dsimp only [vals];refine aiA kZ (λ K hK=>?_))|refine yO ?_|(refine yC ?_ ?_<;>intro hc)|(refine yN hK ?_;clear hK K))|(refine oCX ?_;first|refine dxA 8 kZ kZ dZ (λ K hK=>?_))|refine wG ?_|(refine yR ?_;intro K hK)|fail)
   refine c6A rfl (λ v6 w6 e6 h6=>?_);obtain rfl:v6=_:=h6;refine ⟨_,rfl,?_,?_,LocR.refl⟩
   ·have h7:=ho5.ext e6
    rw [i3A hlt hcl oZ hzl] at h7;exact h7.base (Nat.zero_le _)
   ·exact Fr.grown (fzA (ipA (evA e2 hg3) (evA e4 hg5)) e6)
  ·refine Fc.of (args:=[_,_,_]) Tryz.func89 rfl rfl Tryz.ntmps89 nZ ?_
   repeat' (first|(refine yL ?_;first|refine a0A rfl ?_|refine j2A rfl rfl rfl ?_|(refine fvA rfl _ rfl rfl rfl oZ oZ oZ (λ _=>rfl) ?_;rw [Int.toNat_natCast])|(refine a4A (hK _ _ (f6A (kn:=n+1-i) rfl dZ c8A rfl rfl rfl (k7A ho i hi).slC oZ oZ oZ dZ (by rw [show i+(n+1-i)=n+1 by omega];exact hb) oZ (λ v' w2 w3 zs e2 hzl hz1 ho3 e3=>?_)));clear hK K;rw [show i+(n+1-i)=n+1 by omega] at ho3;have x3:=e2.trans e3;have hs3:=hs.ext x3;dsimp only [vals];refine aiA kZ (λ K hK=>?_))|(refine cvA rfl _ rfl rfl (HasC.ownV ho3) rfl oZ oZ (by exact λ _=>rfl) ?_;rw [Int.toNat_natCast])|(refine a4A (hK _ _ (f5A i rfl (by intro q h;cases h;decide) c8A rfl rfl ho3 (hu.ext x3).slC oZ (λ c hc=>h1 c (List.mem_of_mem_take hc)) (λ w4 w5 e4 ho5 hg5=>?_)));clear hK K;have x5:=(x3.trans e4).grown hg5 (λ q hq=>Nat.le_trans e2.size (Own.lt ho3 q hq).1);have hs5:=hs.ext x5;dsimp only [vals];refine aiA kZ (λ K hK=>?_))|(refine cvA rfl _ rfl rfl (HasC.ownV ho5) rfl oZ oZ (by exact λ _=>rfl) ?_;rw [show ((i:Int)+((1:Nat):Int)).toNat=i+1 by omega])|(refine cvA rfl _ rfl rfl (HasC.val hs5) rfl oZ oZ (by exact λ _=>rfl) ?_;rw [Int.toNat_natCast])|(refine a4A (hK _ _ rfl (f5A (i+1) rfl (by intro q h;cases h;decide) c8A rfl rfl ho5 (hs5.sub (Nat.le_of_lt hlt) (Nat.le_refl _)) oZ (by rw [List.take_of_length_le (by omega:cs.length≤n*1)];exact λ c hc=>hst c (List.mem_of_mem_take hc)) (λ w6 w7 e6 ho7 hg7=>?_)));clear hK K;dsimp only [vals];refine aiA kZ (λ K hK=>?_))|refine yO ?_|(refine yC ?_ ?_<;>intro hc)|(refine yN hK ?_;clear hK K))|(refine oCX ?_;first|refine dxA 8 kZ kZ dZ (λ K hK=>?_))|refine wG ?_|(refine yR ?_;intro K hK)|fail)
   refine c6A rfl (λ v8 w8 e8 h8=>?_);obtain rfl:v8=_:=h8;refine ⟨_,rfl,?_,?_,.inr λ k hk=>Nat.le_trans e2.size (Own.lt ho7 k hk).1⟩
   ·have h9:=ho7.ext e8
    have ed:(cs.take (n*1)).drop (i*1)=cs.drop (i*1):=by rw [List.take_of_length_le oZ]
    rw [ed,jeA hlt (by rw [List.length_take];exact Nat.min_eq_left (by rw [hcl];exact Nat.mul_le_mul_right _ hi)) oZ hzl (by rw [List.length_drop,hcl,Nat.sub_mul])] at h9;exact Own.base h9 (Nat.zero_le _)
   ·exact Fr.grown (lqA _ (((x5.trans e6).grown hg7 (λ q hq=>Nat.le_trans e2.size (Own.lt ho3 q hq).1)).trans e8))
theorem d8A:El Tryz.prog 26 32 (.agg #[.int .u8 0,.slice none 0 0,.slice none 0 0,.slice none 0 0]) 4 80:=⟨rfl,rfl,rfl,by decide⟩
theorem rrA (w:World) (v:Value) (n:Nat) (cs:List Value) (h:SlC w v n 4 cs) (h1:∀ u ∈ cs,u.oneCell'=true) (hb:n*80≤140737488355328):Fc Tryz.prog 62 #[v] w (Ret w (.pred (hqA w.heap.size 32 4 n cs))):=by
 obtain ⟨h0,a,cap,rfl,hc,hm,hn,hcs⟩:=id h;have hlen:=h.len;cases a with
 | none =>
   obtain rfl:=hn rfl;obtain rfl:n=0:=oZ;obtain rfl:cs=[]:=List.eq_nil_of_length_eq_zero oZ;refine Fc.of (args:=[_]) Tryz.func62 rfl rfl Tryz.ntmps62 nZ ?_
   repeat' (first|(refine yL ?_;first|refine a0A rfl ?_|refine blA (c:=.bool true) rfl rfl rfl (λ _=>rfl) ?_|refine yO ?_|(refine yC ?_ ?_<;>intro hc)|(refine yN hK ?_;clear hK K))|refine wG ?_|(refine yR ?_;intro K hK)|(refine oPX ?_;first|exact ajA rfl rfl (Ext.refl _) (λ u w2 e2 hu=>by obtain rfl:u=_:=hu;exact Own.nil))|fail)
 | some a =>
   refine Fc.of (args:=[_]) Tryz.func62 rfl rfl Tryz.ntmps62 nZ ?_
   repeat' (first|(refine yL ?_;first|refine a0A rfl ?_|refine blA (c:=.bool false) rfl rfl rfl (λ _=>rfl) ?_|refine ghA 32 (s:=4) rfl (λ _=>by kernel_rfl) ?_|(refine a4A (hK _ _ (bkA 5 rfl (λ v5 w5 e5 h5=>?_)));clear hK K;have h6:=h.ext e5;have ho:Own w.heap.size _ _ w5 v5 0 []:=h5;refine aiA kZ (λ K hK=>?_))|(refine a4A (hK _ _ (cpA rfl dZ d8A rfl ho rfl (HasC.val h6) h1 (by rw [Nat.zero_add];unfold maxLen;omega) (by rw [Nat.zero_add];exact hb) e5.size (λ v' w2 w3 he2 ho3 hg3=>?_)));clear hK K;dsimp only [vals];refine aiA kZ (λ K hK=>?_))|refine yO ?_|(refine yC ?_ ?_<;>intro hc)|(refine yN hK ?_;clear hK K))|refine wG ?_|(refine yR ?_;intro K hK)|fail)
   exact ajA rfl rfl ((e5.trans he2).grown hg3 (λ q hq=>(Own.lt ho q hq).1)) (λ u w4 e4 hu=>by
    obtain rfl:u=_:=hu;have h9:Own w.heap.size 32 4 w3 u n cs:=by simpa using ho3
    exact h9.ext e4)
theorem b0B {w:World} {ba bb na ca nb cb ga gb:Nat} {xs ys:List Value} (ha:Own ba 32 4 w (.slice (some ⟨ga,0,none⟩) na ca) na xs) (hb:Own bb 32 4 w (.slice (some ⟨gb,0,none⟩) nb cb) nb ys) (hcb:0<cb) (hne:ga≠gb) (o l' c':Nat) :
 (callFunc 129 #[.slice (some ⟨ga,0,none⟩) na ca,.slice (some ⟨gb,o,none⟩) l' c']).run Tryz.prog w=.ok (.value (.bool false)) w:=by
 rw [run_callFunc_extern Tryz.func129 kZ kZ kZ (e:=Extern.SlicesOverlaps.overlaps #[26,26] #[4]) kZ,f9A rfl (λ _=>rfl) dZ ha hb hcb hne];rfl
theorem ujA (w:World) (base bu:Nat) (v u:Value) (n i:Nat) (cs xs:List Value) (ho:Own base 32 4 w v n cs) (hu:Own bu 32 4 w u 1 xs) (hi:i≤n) 
 (hap:∀ k,u.ownBlock=some k→v.ownBlock≠some k) (h1c:∀ c ∈ cs,c.oneCell'=true) (h1:∀ c ∈ xs,c.oneCell'=true) (hn:n≤70368744177663) (hb:(n+1)*80≤140737488355328) :
 Fc Tryz.prog 90 #[v,.int .i64 i,u] w (λ en w'=>∃ v',en=.returned v'∧Own 0 32 4 w' v' (n+1) (cs.take (i*4)++xs++cs.drop (i*4))∧Fr (λ k=>v.ownBlock=some k) w w'∧LocR w v v'):=by
 have hs:=ho.slC;have hsu:=hu.slC;have hcl:=ho.1;have hxl:=hu.1
 by_cases hin:i=n
 ·refine Fc.of (args:=[_,_,_]) Tryz.func90 rfl rfl Tryz.ntmps90 nZ ?_
  subst hin
  repeat' (first|(refine yL ?_;first|refine a0A rfl ?_|(refine a4A (hK _ _ (d7A rfl dZ d8A rfl ho rfl (HasC.val hsu) h1 (by unfold maxLen;omega) hb (λ v' w2 w3 he2 ho3 hg3 hl3=>?_)));clear hK K;dsimp only [vals];refine aiA kZ (λ K hK=>?_))|refine yO ?_|(refine yC ?_ ?_<;>intro hc)|(refine yN hK ?_;clear hK K))|refine wG ?_|(refine yR ?_;intro K hK)|fail)
  refine c6A rfl (λ v5 w5 e5 h5=>?_);obtain rfl:v5=_:=h5;refine ⟨_,rfl,?_,?_,hl3.le he2.size⟩
  ·rw [List.take_of_length_le oZ,List.drop_of_length_le oZ,List.append_nil]
   exact ho3.ext e5
  ·exact Fr.grown (fzA (evA he2 hg3.grownBy) e5)
 ·have hlt:i<n:=oZ
  rcases ho.2 with ⟨_,h0⟩|⟨gb,cap,cur,rfl,hgb,hg,hnc,hm,hsz,htake⟩
  ·omega
  rcases hu.2 with ⟨_,h0⟩|⟨gu,capu,curu,rfl,hgub,hgu,hncu,hmu,hszu,htakeu⟩
  ·omega
  have hne:gu≠gb:=λ e=>hap gu rfl (by rw [e];rfl)
  have hst:∀ c ∈ cs.drop (i*4),c.oneCell'=true:=λ c hc=>h1c c (List.mem_of_mem_drop hc)
  by_cases hroom:n+1≤cap
  ·obtain ⟨zs,hzl,hmore⟩:=ho.more 1 hroom
   have hsl:=hmore.slC;have hsub:epA (.slice (some ⟨gb,0,none⟩) (n+1) cap) (i+1) (n+1) 4=.slice (some ⟨gb,(i+1)*4,none⟩) (n+1-(i+1)) (cap-(i+1)):=f1A oZ;refine Fc.of (args:=[_,_,_]) Tryz.func90 rfl rfl Tryz.ntmps90 nZ ?_
   repeat' (first|(refine yL ?_;first|refine a0A rfl ?_|refine j2A rfl rfl rfl ?_|(refine fvA rfl _ rfl rfl rfl oZ oZ oZ (λ _=>rfl) ?_;rw [show ((n:Int)+((1:Nat):Int)).toNat=n+1 by omega])|(refine cvA rfl _ rfl rfl (HasC.val hsl) rfl oZ oZ (by exact λ _=>rfl) ?_;rw [show ((i:Int)+((1:Nat):Int)).toNat=i+1 by omega])|refine smA (f:=129) (c:=.bool false) rfl rfl rfl rfl (λ w2 e2=>by rw [hsub];exact b0B (hu.ext e2) (ho.ext e2) oZ hne _ _ _) ?_|(refine a4A (hK _ _ rfl (f5A (i+1) rfl (by intro q h;cases h;decide) d8A rfl rfl hmore (hsl.sub (Nat.le_of_lt oZ) (Nat.le_refl _)) oZ (by rw [nbA hlt hcl hzl];exact hst) (λ w2 w3 e2 ho3 hg3=>?_)));clear hK K;dsimp only [vals];have hu3:=((hu.ext e2).kept hg3 (.inr (λ q=>hne (by injection q))));refine aiA kZ (λ K hK=>?_))|(refine a4A (hK _ _ (f5A i rfl (by intro q h;cases h;decide) d8A rfl rfl ho3 hu3.slC oZ (λ c hc=>h1 c (List.mem_of_mem_take hc)) (λ w4 w5 e4 ho5 hg5=>?_)));clear hK K;dsimp only [vals];refine aiA kZ (λ K hK=>?_))|refine yO ?_|(refine yC ?_ ?_<;>intro hc)|(refine yN hK ?_;clear hK K))|(refine oCX ?_;first|refine dxA 8 kZ kZ dZ (λ K hK=>?_))|refine wG ?_|(refine yR ?_;intro K hK)|fail)
   refine c6A rfl (λ v6 w6 e6 h6=>?_);obtain rfl:v6=_:=h6;refine ⟨_,rfl,?_,?_,LocR.refl⟩
   ·have h7:=ho5.ext e6
    rw [i3A hlt hcl oZ hzl] at h7;exact h7.base (Nat.zero_le _)
   ·exact Fr.grown (fzA (ipA (evA e2 hg3) (evA e4 hg5)) e6)
  ·refine Fc.of (args:=[_,_,_]) Tryz.func90 rfl rfl Tryz.ntmps90 nZ ?_
   repeat' (first|(refine yL ?_;first|refine a0A rfl ?_|refine j2A rfl rfl rfl ?_|(refine fvA rfl _ rfl rfl rfl oZ oZ oZ (λ _=>rfl) ?_;rw [Int.toNat_natCast])|(refine a4A (hK _ _ (f6A (kn:=n+1-i) rfl dZ d8A rfl rfl rfl (k7A ho i hi).slC oZ oZ oZ dZ (by rw [show i+(n+1-i)=n+1 by omega];exact hb) oZ (λ v' w2 w3 zs e2 hzl hz1 ho3 e3=>?_)));clear hK K;rw [show i+(n+1-i)=n+1 by omega] at ho3;have x3:=e2.trans e3;have hs3:=hs.ext x3;dsimp only [vals];refine aiA kZ (λ K hK=>?_))|(refine cvA rfl _ rfl rfl (HasC.ownV ho3) rfl oZ oZ (by exact λ _=>rfl) ?_;rw [Int.toNat_natCast])|(refine a4A (hK _ _ (f5A i rfl (by intro q h;cases h;decide) d8A rfl rfl ho3 (hu.ext x3).slC oZ (λ c hc=>h1 c (List.mem_of_mem_take hc)) (λ w4 w5 e4 ho5 hg5=>?_)));clear hK K;have x5:=(x3.trans e4).grown hg5 (λ q hq=>Nat.le_trans e2.size (Own.lt ho3 q hq).1);have hs5:=hs.ext x5;dsimp only [vals];refine aiA kZ (λ K hK=>?_))|(refine cvA rfl _ rfl rfl (HasC.ownV ho5) rfl oZ oZ (by exact λ _=>rfl) ?_;rw [show ((i:Int)+((1:Nat):Int)).toNat=i+1 by omega])|(refine cvA rfl _ rfl rfl (HasC.val hs5) rfl oZ oZ (by exact λ _=>rfl) ?_;rw [Int.toNat_natCast])|(refine a4A (hK _ _ rfl (f5A (i+1) rfl (by intro q h;cases h;decide) d8A rfl rfl ho5 (hs5.sub (Nat.le_of_lt hlt) (Nat.le_refl _)) oZ (by rw [List.take_of_length_le (by omega:cs.length≤n*4)];exact λ c hc=>hst c (List.mem_of_mem_take hc)) (λ w6 w7 e6 ho7 hg7=>?_)));clear hK K;dsimp only [vals];refine aiA kZ (λ K hK=>?_))|refine yO ?_|(refine yC ?_ ?_<;>intro hc)|(refine yN hK ?_;clear hK K))|(refine oCX ?_;first|refine dxA 8 kZ kZ dZ (λ K hK=>?_))|refine wG ?_|(refine yR ?_;intro K hK)|fail)
   refine c6A rfl (λ v8 w8 e8 h8=>?_);obtain rfl:v8=_:=h8;refine ⟨_,rfl,?_,?_,.inr λ k hk=>Nat.le_trans e2.size (Own.lt ho7 k hk).1⟩
   ·have h9:=ho7.ext e8
    have ed:(cs.take (n*4)).drop (i*4)=cs.drop (i*4):=by rw [List.take_of_length_le oZ]
    rw [ed,jeA hlt (by rw [List.length_take];exact Nat.min_eq_left (by rw [hcl];exact Nat.mul_le_mul_right _ hi)) oZ hzl (by rw [List.length_drop,hcl,Nat.sub_mul])] at h9;exact Own.base h9 (Nat.zero_le _)
   ·exact Fr.grown (lqA _ (((x5.trans e6).grown hg7 (λ q hq=>Nat.le_trans e2.size (Own.lt ho3 q hq).1)).trans e8))
abbrev tS:Nat:=85
abbrev tK:Nat:=40
abbrev Qd:=Int × Value × Value × Value
def qv (q:Qd):Value:=.agg #[.int .u8 q.1,q.2.1,q.2.2.1,q.2.2.2]
def qcs (q:Qd):List Value:=[.int .u8 q.1,q.2.1,q.2.2.1,q.2.2.2]
def q0:Qd:=(0,nilS,nilS,nilS)
def bbA:List Qd→List Value
 | []=>[]
 | q::r=>.int .u8 q.1::q.2.1::q.2.2.1::q.2.2.2::bbA r
theorem dhA:∀ a b,bbA (a++b)=bbA a++bbA b
 | [],b=>rfl
 | x::a,b=>by simp only [List.cons_append,bbA,dhA a b]
theorem gqA:∀ (a:List Qd) (j:Nat),j<a.length→((bbA a).drop (j*4)).take 4=qcs (a.getD j q0)
 | [],j,h=>by simp at h
 | x::a,0,_=>rfl
 | x::a,j+1,h=>by
   have ih:=gqA a j (by simpa using h);rw [show (j+1)*4=j*4+4 by omega];exact ih
theorem gcA:∀ (a:List Qd) (j:Nat),bbA (a.take j)=(bbA a).take (j*4)
 | [],j=>by simp [bbA]
 | x::a,0=>by simp [bbA]
 | x::a,j+1=>by
   rw [show (j+1)*4=j*4+1+1+1+1 by omega];simp only [List.take_succ_cons,bbA,gcA a j]
theorem gdA:∀ (a:List Qd) (j:Nat),bbA (a.drop j)=(bbA a).drop (j*4)
 | [],j=>by simp [bbA]
 | x::a,0=>by simp [bbA]
 | x::a,j+1=>by
   rw [show (j+1)*4=j*4+1+1+1+1 by omega];simp only [List.drop_succ_cons,bbA,gdA a j]
theorem p2A (a:List Qd) (j:Nat) (q:Qd) (h:j<a.length):bbA (a.set j q)=(bbA a).take (j*4)++qcs q++(bbA a).drop (j*4+4):=by
 rw [List.set_eq_take_append_cons_drop,if_pos h,dhA,gcA,show q::a.drop (j+1)=[q]++a.drop (j+1) from rfl,dhA,gdA,show (j+1)*4=j*4+4 by omega,List.append_assoc];rfl
theorem h5A:∀ (a:List Qd),∀ u ∈ bbA a,∃ j,j<a.length∧u ∈ qcs (a.getD j q0)
 | [],u,h=>by cases h
 | x::a,u,h=>by
   have h':u ∈ qcs x++bbA a:=h
   rcases List.mem_append.1 h' with h1|h1
   ·exact ⟨0,by simp,h1⟩
   ·obtain ⟨j,h2,h3⟩:=h5A a u h1
    exact ⟨j+1,by simpa using h2,h3⟩
theorem Cn.qd {A:Nat→Prop} {w:World} {v:Value} {p:Nat→Bool} {kk:Int} (h:Cn A w v p kk):∃ q:Qd,v=qv q∧(∀ u ∈ qcs q,u.oneCell'=true):=by
 obtain ⟨kd,va,vw,vr,rfl,-,-,-,-,-,-,h1⟩:=h.parts;exact ⟨(kd,va,vw,vr),rfl,h1⟩
theorem Cn.mono {A A':Nat→Prop} {w:World} {v:Value} {p:Nat→Bool} {kk:Int} (h:Cn A w v p kk) (hA:∀ k,k<w.heap.size→A k→A' k):Cn A' w v p kk:=by
 obtain ⟨hp,⟨h1,kd,va,h2,h3,h4⟩|h|h⟩:=h
 ·exact ⟨hp,.inl ⟨h1,kd,va,h2,h3,h4.1,λ b hb=>hA b (Own.lt h4.1 b hb).2 (h4.2 b hb)⟩⟩
 ·exact ⟨hp,.inr (.inl h)⟩
 ·exact ⟨hp,.inr (.inr h)⟩
def Plain (A R:Nat→Prop) (w:World):Prop:=∀ k,R k→∃ cur e j,w.heap[k]?=some (.cells cur e j)∧39≠e∧79≠e∧(A k→40≠e)
theorem Cn.fr {A R:Nat→Prop} {w w':World} {v:Value} {p:Nat→Bool} {kk:Int} (h:Cn A w v p kk) (hf:Fr R w w') (hR:Plain A R w):Cn A w' v p kk:=by
 obtain ⟨hp,⟨h1,kd,va,h2,h3,h4⟩|⟨h1,vw,h3,h4⟩|⟨h1,vr,h3,h4⟩⟩:=h
 ·refine ⟨hp,.inl ⟨h1,kd,va,h2,h3,hf.own h4.1 (λ k hk hr=>?_),h4.2⟩⟩
  obtain ⟨cur,e,j,hb,ne1,ne2,ne3⟩:=hR k hr;exact Own.apart h4.1 hb (ne3 (h4.2 k hk)) hk
 ·refine ⟨hp,.inr (.inl ⟨h1,vw,h3,hf.own h4 (λ k hk hr=>?_)⟩)⟩
  obtain ⟨cur,e,j,hb,ne1,ne2,ne3⟩:=hR k hr;exact Own.apart h4 hb ne1 hk
 ·refine ⟨hp,.inr (.inr ⟨h1,vr,h3,hf.own h4 (λ k hk hr=>?_)⟩)⟩
  obtain ⟨cur,e,j,hb,ne1,ne2,ne3⟩:=hR k hr;exact Own.apart h4 hb ne2 hk
structure RS (A:Nat→Prop) (w:World) (b:Nat) (kv lv:Value) (p:Nat→Bool):Prop where
 hb:w.heap[b]?=some (.cells #[kv,lv] tS (0,0))
 hk:OwnI 0 tK .u16 w kv (b9A p)
 top:∀ x,TOP≤x→p x=false
 hl:∃ Q:List Qd,Q.length=nk p∧Own 0 tC 4 w lv (nk p) (bbA Q)∧∀ i,i<nk p→Cn (λ k=>A k∧kv.ownBlock≠some k) w (qv (Q.getD i q0)) (blk p (kp p i)) (aoA (blk p (kp p i)))
def onw (b:Nat) (kv lv:Value) (k:Nat):Prop:=k=b∨kv.ownBlock=some k∨lv.ownBlock=some k
theorem RS.ext {A:Nat→Prop} {w w':World} {b:Nat} {kv lv:Value} {p:Nat→Bool} (h:RS A w b kv lv p) (e:Ext w w'):RS A w' b kv lv p:=by
 obtain ⟨Q,h1,h2,h3⟩:=h.hl;exact ⟨e.block h.hb,h.hk.ext e,h.top,Q,h1,h2.ext e,λ i hi=>(h3 i hi).ext e⟩
theorem bxA {base e s n:Nat} {w:World} {v:Value} {cs:List Value} (h:Own base e s w v n cs) {k:Nat} (hk:v.ownBlock=some k):∃ cur,w.heap[k]?=some (.cells cur e (0,0)):=by
 rcases h.2 with ⟨h1,h0⟩|⟨gb,cap,cur,rfl,hgb,hg,-⟩
 ·rw [h1] at hk;cases hk
 ·cases hk;exact ⟨cur,hg⟩
theorem RS.lt {A:Nat→Prop} {w:World} {b:Nat} {kv lv:Value} {p:Nat→Bool} (h:RS A w b kv lv p) {k:Nat} (hk:onw b kv lv k):k<w.heap.size:=by
 obtain ⟨Q,h1,h2,h3⟩:=h.hl
 rcases hk with rfl|hk|hk
 ·exact buB h.hb
 ·exact (Own.lt h.hk k hk).2
 ·exact (Own.lt h2 k hk).2
theorem RS.plainA {A A':Nat→Prop} {w:World} {b:Nat} {kv lv:Value} {p:Nat→Bool} (h:RS A w b kv lv p) (hA:∀ k,kv.ownBlock=some k→¬ A' k):Plain A' (onw b kv lv) w:=by
 obtain ⟨Q,h1,h2,h3⟩:=h.hl;rintro k (rfl|hk|hk)
 ·exact ⟨_,_,_,h.hb,by decide,by decide,λ _=>by decide⟩
 ·obtain ⟨cur,hc⟩:=bxA h.hk hk
  exact ⟨_,_,_,hc,by decide,by decide,λ ha=>absurd ha (hA k hk)⟩
 ·obtain ⟨cur,hc⟩:=bxA h2 hk
  exact ⟨_,_,_,hc,by decide,by decide,λ _=>by decide⟩
theorem Plain.mono {A A' R:Nat→Prop} {w:World} (h:Plain A R w) (hA:∀ k,A' k→A k):Plain A' R w:=λ k hk=>by
 obtain ⟨cur,e,j,h1,h2,h3,h4⟩:=h k hk;exact ⟨cur,e,j,h1,h2,h3,λ ha=>h4 (hA k ha)⟩
theorem RS.mono {A A':Nat→Prop} {w:World} {b:Nat} {kv lv:Value} {p:Nat→Bool} (h:RS A w b kv lv p) (hA:∀ k,k<w.heap.size→A k→kv.ownBlock≠some k→A' k):RS A' w b kv lv p:=by
 obtain ⟨Q,h1,h2,h3⟩:=h.hl;exact ⟨h.hb,h.hk,h.top,Q,h1,h2,λ i hi=>(h3 i hi).mono λ k hk ha=>⟨hA k hk ha.1 ha.2,ha.2⟩⟩
theorem RS.fr {A R:Nat→Prop} {w w':World} {b:Nat} {kv lv:Value} {p:Nat→Bool} (h:RS A w b kv lv p) (hf:Fr R w w') (hR:Plain A R w) (hB:∀ k,onw b kv lv k→¬ R k):RS A w' b kv lv p:=by
 obtain ⟨Q,h1,h2,h3⟩:=h.hl;exact ⟨hf.at h.hb (hB b (.inl rfl)),hf.own h.hk (λ k hk=>hB k (.inr (.inl hk))),h.top,Q,h1,hf.own h2 (λ k hk=>hB k (.inr (.inr hk))),λ i hi=>(h3 i hi).fr hf (hR.mono λ k hk=>hk.1)⟩
def RSet (B A:Nat→Prop) (w:World) (v:Value) (p:Nat→Bool):Prop:=∃ b kv lv,v=.pointer (some ⟨b,0,none⟩)∧RS A w b kv lv p∧∀ k,onw b kv lv k→B k
theorem RSet.ext {B A:Nat→Prop} {w w':World} {v:Value} {p:Nat→Bool} (h:RSet B A w v p) (e:Ext w w'):RSet B A w' v p:=by
 obtain ⟨b,kv,lv,h1,h2,h3⟩:=h;exact ⟨b,kv,lv,h1,h2.ext e,h3⟩
def rsP (B A:Nat→Prop) (p:Nat→Bool):AV:=⟨λ v w=>RSet B A w v p,λ _ _ _ e h=>h.ext e⟩
theorem RSet.mono {B A B' A':Nat→Prop} {w:World} {v:Value} {p:Nat→Bool} (h:RSet B A w v p) (hB:∀ k,k<w.heap.size→B k→B' k) (hA:∀ k,k<w.heap.size→A k→A' k):RSet B' A' w v p:=by
 obtain ⟨b,kv,lv,h1,h2,h3⟩:=h;exact ⟨b,kv,lv,h1,h2.mono λ k hk ha _=>hA k hk ha,λ k hk=>hB k (h2.lt hk) (h3 k hk)⟩
theorem RSet.tt {B A:Nat→Prop} {w:World} {v:Value} {p:Nat→Bool} (h:RSet B A w v p):RSet TT TT w v p:=h.mono (λ _ _ _=>trivial) (λ _ _ _=>trivial)
theorem RSet.fr {B A R:Nat→Prop} {w w':World} {v:Value} {p:Nat→Bool} (h:RSet B A w v p) (hf:Fr R w w') (hR:Plain A R w) (hB:∀ k,B k→¬ R k):RSet B A w' v p:=by
 obtain ⟨b,kv,lv,h1,h2,h3⟩:=h;exact ⟨b,kv,lv,h1,h2.fr hf hR (λ k hk=>hB k (h3 k hk)),h3⟩
def NSet (B A:Nat→Prop) (w:World) (v:Value) (p:Nat→Bool):Prop:=(v=.pointer none∧p=λ _=>false)∨RSet B A w v p
theorem NSet.ext {B A:Nat→Prop} {w w':World} {v:Value} {p:Nat→Bool} (h:NSet B A w v p) (e:Ext w w'):NSet B A w' v p:=h.imp id (λ h=>h.ext e)
theorem RSet.n {B A:Nat→Prop} {w:World} {v:Value} {p:Nat→Bool} (h:RSet B A w v p):NSet B A w v p:=.inr h
theorem idA (k:Nat):ne (λ _=>false) k=false:=by
 cases h:ne (λ _=>false) k
 ·rfl
 ·obtain ⟨i,_,h2⟩:=ne_iff.1 h;cases h2
theorem fmA:nk (λ _=>false)=0:=dyA _ (λ i _=>idA i)
theorem llA:b9A (λ _=>false)=[]:=List.eq_nil_of_length_eq_zero (by rw [brA,fmA])
theorem RS.turned {A:Nat→Prop} {w w':World} {b:Nat} {kv lv kv' lv':Value} {p p':Nat→Bool} {Q':List Qd} (hS:RS A w b kv lv p) (hf:Fr (onw b kv lv) w w') (hb:w'.heap[b]?=some (.cells #[kv',lv'] tS (0,0))) (hk:OwnI 0 tK .u16 w' kv' (b9A p'))
 (hn:Q'.length=nk p') (hl:Own 0 tC 4 w' lv' (nk p') (bbA Q')) (htop:∀ x,TOP≤x→p' x=false) (hloc:LocR w kv kv')
 (hC:∀ i,i<nk p'→Cn (λ k=>A k∧kv.ownBlock≠some k) w (qv (Q'.getD i q0)) (blk p' (kp p' i)) (aoA (blk p' (kp p' i)))):RS A w' b kv' lv' p':=by
 refine ⟨hb,hk,htop,Q',hn,hl,λ i hi=>?_⟩;refine Cn.fr ((hC i hi).mono (A':=λ k=>A k∧kv'.ownBlock≠some k∧kv.ownBlock≠some k) λ k hlt ha=>⟨ha.1,λ h=>?_,ha.2⟩) hf (hS.plainA λ k h1 h2=>h2.2.2 h1) |>.mono λ k _ h=>⟨h.1,h.2.1⟩
 rcases hloc with h' | h'
 ·exact ha.2 (h'▸h)
 ·have:=h' k h;omega
theorem RS.new {A:Nat→Prop} {w:World} {b:Nat} (hb:w.heap[b]?=some (.cells #[nilS,nilS] tS (0,0))):RS A w b nilS nilS (λ _=>false) :=
 ⟨hb,by rw [llA];exact OwnI.nil,λ _ _=>rfl,[],by rw [fmA];rfl,by rw [fmA];exact Own.nil,λ i hi=>by rw [fmA] at hi;omega⟩
end Go.Proofs.YtlnaebejmjmepaaGreatDoor
end
section
namespace Go.Proofs.YtlnaebejmjmepaaGreatDoor
open Go.LA Go.ArrP Go.RowKit
section
variable {P:Program} {l:List Oper} {N:Nn} {wb:World} {K:List Oper→Env→Prop} {rest:List Oper} {E:Env}
variable {d:Tmp} {ty t t':TypeId} {pos:String} {after:Array Edge} {g:Option (Nat × Bool)} {x y z:Operand} {k k':IntKind}
theorem oNc (h:LA P l wb K (⟨some d,.nilCheck x,ty,pos,after,g⟩::rest) E):LA P l wb K (⟨some d,.nilCheck x,ty,pos,after,g⟩::rest) E:=h
theorem oEq {op:BinOp} (h:LA P l wb K (⟨some d,.binOp op 43 x y t',ty,pos,after,g⟩::rest) E):LA P l wb K (⟨some d,.binOp op 43 x y t',ty,pos,after,g⟩::rest) E:=h
end
variable {A B:Nat→Prop}
theorem new_c (w:World) (hB:Fsh B w):Fc Tryz.prog 17 #[] w (Ret w (.pred (rsP B A (λ _=>false)))):=by
 refine Fc.of (args:=[]) Tryz.func17 rfl rfl Tryz.ntmps17 nZ ?_
 repeat' (first|(refine yL ?_;first|refine a0A rfl ?_|refine ejA (c:=.agg #[nilS,nilS]) rfl (λ _=>by kernel_rfl) ?_|refine j3A rfl rfl ?_|refine yO ?_|(refine yC ?_ ?_<;>intro hc)|(refine yN hK ?_;clear hK K))|refine wG ?_|(refine yR ?_;intro K hK)|fail)
 refine ajA rfl rfl (Ext.refl _) (λ v w' e hv=>?_);obtain ⟨b,hb,rfl,hh⟩:=hv;exact ⟨b,nilS,nilS,rfl,RS.new hh,λ k hk=>by
  rcases hk with rfl|hk|hk
  ·exact hB _ hb
  ·cases hk
  ·cases hk⟩
theorem wnA {w:World} {v:Value} {p:Nat→Bool} (h:NSet B A w v p) {k:Nat} (hk:k<65536):Fc Tryz.prog 88 #[v,.int .u16 k] w (Ret w (.tup2 (.val (.int .i64 (cnt (ne p) k))) (.val (.bool (ne p k))))):=by
 rcases h with ⟨rfl,rfl⟩|⟨b,kv,lv,rfl,hS,-⟩
 ·rw [idA,dyA k (λ i _=>idA i)]
  refine Fc.of (args:=[_,_]) Tryz.func88 rfl rfl Tryz.ntmps88 nZ ?_
  repeat' (first|(refine yL ?_;first|refine a0A rfl ?_|(refine oEq ?_;refine blA (c:=.bool true) rfl rfl rfl (λ _=>rfl) ?_)|refine yO ?_|(refine yC ?_ ?_<;>intro hc)|(refine yN hK ?_;clear hK K))|refine wG ?_|(refine yR ?_;intro K hK)|fail)
  all_goals exact bgA rfl rfl rfl (Ext.refl _) rfl rfl
 ·have hn:(b9A p).length≤4611686018427387903:=by rw [brA];have:=fcA p;omega
  have hb:bsS (b9A p) (k:Int)=cnt (ne p) k:=ixA (ne p) k oZ;have hf:dcA (b9A p) (k:Int)=ne p k:=by
   rw [exA _ (ilA p)];exact c4A (ne p) hk
  refine Fc.of (args:=[_,_]) Tryz.func88 rfl rfl Tryz.ntmps88 nZ ?_
  repeat' (first|(refine yL ?_;first|refine a0A rfl ?_|(refine oEq ?_;refine blA (c:=.bool false) rfl rfl rfl (λ _=>rfl) ?_)|(refine oNc ?_;refine afA rfl rfl ?_)|(refine oF 0 ?_;refine a1A (a':=⟨b,0,none⟩) rfl rfl (λ _=>rfl) ?_)|(refine oF 1 ?_;refine a1A (a':=⟨b,1,none⟩) rfl rfl (λ _=>rfl) ?_)|(refine oLt 22 ?_;refine a5A (c:=kv) rfl (λ _=>rfl) rfl hS.hb rfl ?_)|(refine oLt 26 ?_;refine a5A (c:=lv) rfl (λ _=>rfl) rfl hS.hb rfl ?_)|refine yO ?_|(refine yC ?_ ?_<;>intro hc)|(refine yV ?_;first|(refine oC 126 ?_;refine a3A (f:=126) rfl rfl rfl rfl  (.tup2 (.val (.int .i64 (bsS (b9A p) k))) (.val (.bool (dcA (b9A p) k)))) (by intro u1 u2 w e hu1 hu2;(try obtain rfl:u1=_:=hu1);(try obtain rfl:u2=_:=hu2);exact bs_c _ _ _ _ (hS.hk.ext e).slI hn) ?_))|(refine yN hK ?_;clear hK K))|refine wG ?_|(refine yR ?_;intro K hK)|fail)
  all_goals exact bgA rfl rfl rfl (Ext.refl _) (by rw [hb]) (by rw [hf])
theorem kind_none:aoA (λ _=>false)=1:=by
 unfold aoA;rw [dyA (p:=λ _=>false) 65536 (λ i _=>rfl),dyA (p:=bcA λ _=>false) 65536 (λ i _=>rfl)];decide
theorem reA {w:World} {v:Value} {p:Nat→Bool} (h:NSet B A w v p) {k:Nat} (hk:k<65536):Fc Tryz.prog 64 #[v,.int .u16 k] w (Ret w (.pred (cnP A (blk p k) (aoA (blk p k))))):=by
 have hf:∀ w',Ext w w'→_:=λ w' e=>wnA (h.ext e) hk
 cases hn:ne p k
 ·rw [hn] at hf
  have h1:aoA (blk p k)=1:=by rw [hyA hn];exact kind_none
  rw [h1,hyA hn];refine Fc.of (args:=[_,_]) Tryz.func64 rfl rfl Tryz.ntmps64 nZ ?_
  repeat' (first|(refine yL ?_;first|refine a0A rfl ?_|(refine oAl ?_;refine b4A rfl (λ _=>rfl) ?_)|refine ejA (c:=.agg #[.int .u8 0,nilS,nilS,nilS]) rfl (λ _=>by kernel_rfl) ?_|(refine a4A (hK _ _ (bsA (φ:=cnP A (λ _=>false) 1) (w0:=w) rfl rfl rfl auA (λ v' w' e hv=>by obtain rfl:v'=_:=hv;exact Cn.zero) rfl (λ _=>rfl) (Ext.refl _) (λ w' e'=>?_)));clear hK K)|refine yO ?_|(refine yC ?_ ?_<;>intro hc)|(refine yV ?_;first|(refine oC 88 ?_;refine a3A (f:=88) rfl rfl rfl rfl  (.tup2 (.val (.int .i64 (cnt (ne p) k))) (.val (.bool false))) (by intro u1 u2 w e hu1 hu2;(try obtain rfl:u1=_:=hu1);(try obtain rfl:u2=_:=hu2);exact hf _ e) ?_))|(refine yN hK ?_;clear hK K))|refine wG ?_|(refine yR ?_;intro K hK)|fail)
  all_goals exact c1A rfl rfl rfl rfl rfl (by assumption)
 ·obtain ⟨i1,i2⟩:=udA hk hn
  obtain ⟨i,hi⟩:∃ i,i=cnt (ne p) k:=⟨_,rfl⟩;rw [← hi] at i1 i2;rw [hn] at hf
  rcases h with ⟨rfl,rfl⟩|⟨b,kv,lv,rfl,hS,-⟩
  ·rw [idA] at hn;cases hn
  obtain ⟨Q,q1,q2,q3⟩:=hS.hl;have hcn:=q3 i i1;rw [i2] at hcn;replace hcn:=hcn.mono (A':=A) (λ k _ h=>h.1);have hat:=gqA Q i oZ;rw [← hi] at hf;clear hi q3;refine Fc.of (args:=[_,_]) Tryz.func64 rfl rfl Tryz.ntmps64 nZ ?_
  repeat' (first|(refine yL ?_;first|refine a0A rfl ?_|(refine oAl ?_;refine b4A rfl (λ _=>rfl) ?_)|(refine oNc ?_;refine afA rfl rfl ?_)|(refine oF 0 ?_;refine a1A (a':=⟨b,0,none⟩) rfl rfl (λ _=>rfl) ?_)|(refine oF 1 ?_;refine a1A (a':=⟨b,1,none⟩) rfl rfl (λ _=>rfl) ?_)|(refine oLt 22 ?_;refine a5A (c:=kv) rfl (λ _=>rfl) rfl hS.hb rfl ?_)|(refine oLt 26 ?_;refine a5A (c:=lv) rfl (λ _=>rfl) rfl hS.hb rfl ?_)|(refine oI ?_;refine c3A (s:=4) rfl _ rfl (λ _=>rfl) rfl (HasC.ownV q2) rfl i rfl i1 ?_;rw [hat])|(refine oLd ?_;refine akA (cs:=qcs _) rfl (λ _=>rfl) (λ _=>rfl) rfl ?_)|(refine a4A (hK _ _ (bsA (φ:=cnP A (blk p k) (aoA (blk p k))) (w0:=w) rfl rfl rfl auA (λ v' w' e hv=>by obtain rfl:v'=_:=hv;exact hcn.ext e) rfl (λ _=>rfl) (Ext.refl _) (λ w' e'=>?_)));clear hK K)|refine yO ?_|(refine yC ?_ ?_<;>intro hc)|(refine yV ?_;first|(refine oC 88 ?_;refine a3A (f:=88) rfl rfl rfl rfl  (.tup2 (.val (.int .i64 i)) (.val (.bool true))) (by intro u1 u2 w e hu1 hu2;(try obtain rfl:u1=_:=hu1);(try obtain rfl:u2=_:=hu2);exact hf _ e) ?_))|(refine yN hK ?_;clear hK K))|refine wG ?_|(refine yR ?_;intro K hK)|fail)
  all_goals exact c1A rfl rfl rfl rfl rfl (by assumption)
end Go.Proofs.YtlnaebejmjmepaaGreatDoor
end
section
namespace Go.Proofs.YtlnaebejmjmepaaGreatDoor
open Go.LA Go.ArrP Go.RowKit
variable {A B:Nat→Prop}
theorem uoA {α:Type} {d:α} {l:List α} {i j:Nat} {x:α} (h:i<l.length):(l.set i x).getD j d=if j=i then x else l.getD j d:=by
 rw [List.getD_eq_getElem?_getD,List.getD_eq_getElem?_getD,List.getElem?_set]
 by_cases e:j=i
 ·subst e;simp [h]
 ·simp [e,Ne.symm e]
theorem upA {α:Type} {d:α} {l:List α} {i j:Nat} {x:α} (h:i≤l.length):(l.take i++[x]++l.drop i).getD j d=if j<i then l.getD j d else if j=i then x else l.getD (j-1) d:=by
 have hl:(l.take i).length=i:=by rw [List.length_take];omega
 by_cases h1:j<i
 ·rw [if_pos h1,List.append_assoc,ewA oZ,List.getD_eq_getElem?_getD,List.getD_eq_getElem?_getD,List.getElem?_take_of_lt h1]
 ·rw [if_neg h1]
  by_cases h2:j=i
  ·rw [if_pos h2,ewA (by rw [List.length_append,List.length_singleton];omega),dmA oZ,hl,h2,Nat.sub_self];rfl
  ·rw [if_neg h2,dmA (by rw [List.length_append,List.length_singleton];omega),List.length_append,List.length_singleton,hl,List.getD_eq_getElem?_getD,List.getD_eq_getElem?_getD,List.getElem?_drop]
   congr 2;omega
theorem m4A {p:Nat→Bool} {k:Nat} {q:Nat→Bool} (h:∀ x,TOP≤x→p x=false) (hk:k<65536):∀ x,TOP≤x→upd p k q x=false:=λ x hx=>by
 unfold upd;rw [if_neg (by rw [crA] at hx;omega)];exact h x hx
theorem q7A {a b:Qd} (h:qv a=qv b):a=b:=by
 obtain ⟨a1,a2,a3,a4⟩:=a;obtain ⟨b1,b2,b3,b4⟩:=b;unfold qv at h
 simpa using h
def Mut (A:Nat→Prop) (w:World) (b:Nat) (kv lv:Value) (p':Nat→Bool) (w':World):Prop:=∃ kv' lv',RS A w' b kv' lv' p'∧Fr (onw b kv lv) w w'∧LocR w kv kv'∧LocR w lv lv'
theorem RS.set {A:Nat→Prop} {w w':World} {b:Nat} {kv lv:Value} {p:Nat→Bool} (hS:RS A w b kv lv p) {k:Nat} (hk:k<65536) (hn:ne p k=true) {q:Nat→Bool} (hq:∀ i,65536≤i→q i=false) (hq0:0<cnt q 65536) {Q:List Qd} {qc:Qd} (q1:Q.length=nk p)
 (q3:∀ i,i<nk p→Cn (λ k=>A k∧kv.ownBlock≠some k) w (qv (Q.getD i q0)) (blk p (kp p i)) (aoA (blk p (kp p i)))) (hc:Cn (λ j=>A j∧kv.ownBlock≠some j) w (qv qc) q (aoA q))
 (hf:Fr (onw b kv lv) w w') (hb:w'.heap[b]?=some (.cells #[kv,lv] tS (0,0))) (hkk:OwnI 0 tK .u16 w' kv (b9A p)) (hl:Own 0 tC 4 w' lv (nk p) (bbA (Q.set (cnt (ne p) k) qc))):Mut A w b kv lv (upd p k q) w':=by
 have hkeys:=n1A p hq hq0 hn;have hnk:nk (upd p k q)=nk p:=by rw [← brA,← brA,hkeys]
 obtain ⟨i1,i2⟩:=udA hk hn;refine ⟨kv,lv,hS.turned (Q':=Q.set (cnt (ne p) k) qc) hf hb (by rw [hkeys];exact hkk) (by rw [List.length_set,q1,hnk]) (by rw [hnk];exact hl) (m4A hS.top hk) LocR.refl (λ j hj=>?_),hf,LocR.refl,LocR.refl⟩;rw [hnk] at hj;rw [x5A p hq hq0 hn,uoA oZ]
 by_cases e:j=cnt (ne p) k
 ·rw [if_pos e,e,i2,jsA p k hq];exact hc
 ·have hne:kp p j≠k:=λ h=>e (by rw [← h];exact (nqA oZ).symm)
  rw [if_neg e,giA p q hne];exact q3 j hj
theorem RS.ins {A:Nat→Prop} {w w':World} {b:Nat} {kv lv kv' lv':Value} {p:Nat→Bool} (hS:RS A w b kv lv p) {k:Nat} (hk:k<65536) (hn:ne p k=false) {q:Nat→Bool} (hq:∀ i,65536≤i→q i=false) (hq0:0<cnt q 65536) {Q:List Qd} {qc:Qd} (q1:Q.length=nk p)
 (q3:∀ i,i<nk p→Cn (λ k=>A k∧kv.ownBlock≠some k) w (qv (Q.getD i q0)) (blk p (kp p i)) (aoA (blk p (kp p i)))) (hc:Cn (λ j=>A j∧kv.ownBlock≠some j) w (qv qc) q (aoA q))
 (hf:Fr (onw b kv lv) w w') (hb:w'.heap[b]?=some (.cells #[kv',lv'] tS (0,0))) (hkk:OwnI 0 tK .u16 w' kv' ((b9A p).take (cnt (ne p) k)++[(k:Int)]++(b9A p).drop (cnt (ne p) k)))
 (hl:Own 0 tC 4 w' lv' (nk p+1) (bbA (Q.take (cnt (ne p) k)++[qc]++Q.drop (cnt (ne p) k)))) (hk1:LocR w kv kv') (hl1:LocR w lv lv'):Mut A w b kv lv (upd p k q) w':=by
 have hkeys:=i2A p hk hq hq0 hn;have hnk:=plA p hk hq hq0 hn;have hle:cnt (ne p) k≤nk p:=cnt_mono _ _ oZ;refine ⟨kv',lv',hS.turned (Q':=Q.take (cnt (ne p) k)++[qc]++Q.drop (cnt (ne p) k)) hf hb (by rw [hkeys];exact hkk) (by simp only [List.length_append,List.length_take,List.length_drop,List.length_singleton];omega) (by rw [hnk];exact hl) (m4A hS.top hk) hk1 (λ j hj=>?_),hf,hk1,hl1⟩;rw [hnk] at hj;rw [w6A p hk hq hq0 hn hj,upA oZ];have hne:∀ j,j<nk p→kp p j≠k:=λ j hj h=>by
  have:=(gnA hj).2.1;rw [h,hn] at this;cases this
 split
 ·rw [giA p q (hne j oZ)];exact q3 j oZ
 ·split
  ·rw [jsA p k hq];exact hc
  ·rw [giA p q (hne _ oZ)];exact q3 _ oZ
theorem slot_ne {A:Nat→Prop} {w:World} {b:Nat} {kv lv:Value} {p:Nat→Bool} (hS:RS A w b kv lv p):kv.ownBlock≠some b∧lv.ownBlock≠some b∧∀ k,kv.ownBlock=some k→lv.ownBlock≠some k:=by
 obtain ⟨Q,h1,h2,h3⟩:=hS.hl;refine ⟨Own.apart hS.hk hS.hb dZ,Own.apart h2 hS.hb dZ,λ k hk=>?_⟩;obtain ⟨cur,hc⟩:=bxA hS.hk hk;exact Own.apart h2 hc dZ
theorem e0A {base e s n:Nat} {w:World} {v:Value} {cs:List Value} (h:Own base e s w v n cs):v.cells=[v].toArray∧v.oneCell'=true:=by
 rcases h.2 with ⟨rfl,_⟩|⟨g,cap,cur,rfl,_⟩
 ·exact ⟨rfl,rfl⟩
 ·exact ⟨rfl,rfl⟩
theorem azB {w:World} {b:Nat} {kv lv vc:Value} {p q:Nat→Bool} (hS:RS A w b kv lv p) {k:Nat} (hk:k<65536) (hc:Cn (λ j=>A j∧kv.ownBlock≠some j) w vc q (aoA q)) (hq:∀ i,65536≤i→q i=false) (hq0:0<cnt q 65536) :
 Fc Tryz.prog 63 #[.pointer (some ⟨b,0,none⟩),.int .u16 k,vc] w (λ en w'=>en=.returned (.tuple #[])∧Mut A w b kv lv (upd p k q) w'):=by
 have hf:∀ w',Ext w w'→_:=λ w' e=>wnA (B:=TT) (.inr ⟨b,kv,lv,rfl,hS.ext e,λ _ _=>trivial⟩) hk
 obtain ⟨Q,q1,q2,q3⟩:=hS.hl;obtain ⟨qc,rfl,hqc⟩:=hc.qd;have nkl:=fcA p;obtain ⟨i,hi⟩:∃ i,i=cnt (ne p) k:=⟨_,rfl⟩;cases hn:ne p k
 ·have hle:i≤nk p:=by rw [hi];exact cnt_mono _ _ oZ
  have hfin:∀ w' kv' lv',_:=λ w' kv' lv'=>hS.ins (w':=w') (kv':=kv') (lv':=lv') hk hn hq hq0 q1 q3 hc
  rw [← hi] at hf hfin;rw [hn] at hf;have hsn:=slot_ne hS;have hkl:=brA p;have hcq:bbA (Q.take i++[qc]++Q.drop i)=(bbA Q).take (i*4)++qcs qc++(bbA Q).drop (i*4):=by
   rw [dhA,dhA,gcA,gdA];rfl
  have hmap:((b9A p).map (Value.int .u16)).take (i*1)++[.int .u16 (k:Int)]++((b9A p).map (Value.int .u16)).drop (i*1)=((b9A p).take i++[(k:Int)]++(b9A p).drop i).map (Value.int .u16):=by
   rw [Nat.mul_one,List.map_append,List.map_append,List.map_take,List.map_drop];rfl
  have hlen:((b9A p).take i++[(k:Int)]++(b9A p).drop i).length=nk p+1:=by
   simp only [List.length_append,List.length_take,List.length_drop,List.length_singleton];omega
  have h1c:∀ c ∈ (b9A p).map (Value.int .u16),c.oneCell'=true:=λ c hc'=>by
   obtain ⟨y,_,rfl⟩:=List.mem_map.1 hc';rfl
  have h1q:∀ c ∈ bbA Q,c.oneCell'=true:=λ c hc'=>by
   obtain ⟨j,j1,j2⟩:=h5A Q c hc';obtain ⟨qd,e1,e2⟩:=(q3 j oZ).qd;have:Q.getD j q0=qd:=q7A e1;exact e2 c (this▸j2)
  have hk0:=hS.hk;unfold OwnI at hk0;rw [hkl] at hk0;clear hi;refine Fc.of (args:=[_,_,_]) Tryz.func63 rfl rfl Tryz.ntmps63 nZ ?_
  repeat' (first|(refine yL ?_;first|refine yB ?_|(refine oBx ?_;refine j3A rfl rfl ?_;refine siA (hK [] _ (bkA 5 rfl (λ v5 w5 e5 h5=>?_)));clear hK K;obtain ⟨b5,hb5,rfl,h5⟩:=h5;have hS5:=hS.ext e5)|(refine oNc ?_;refine afA rfl rfl ?_)|(refine oF 0 ?_;refine a1A (a':=⟨b,0,none⟩) rfl rfl (λ _=>rfl) ?_)|(refine oF 1 ?_;refine a1A (a':=⟨b,1,none⟩) rfl rfl (λ _=>rfl) ?_)|(refine oLt 22 ?_;refine a5A (c:=kv) rfl (λ _=>rfl) rfl hS5.hb rfl ?_)|(refine oLt 26 ?_;refine a5A (c:=lv) rfl (λ _=>rfl) rfl hS5.hb rfl ?_)|(refine oD 30 ?_;refine ehA rfl c8A rfl rfl ?_)|(refine oD 38 ?_;refine ojA (base:=w5.heap.size) (s:=4) (Nat.le_refl _) rfl d8A rfl rfl dZ ?_)|(refine oLd ?_;refine bzA (n:=4) rfl h5 rfl rfl (λ _=>rfl) (λ _=>rfl) ?_)|refine yO ?_|(refine yC ?_ ?_<;>intro hc)|(refine yV ?_;first|(refine oC 88 ?_;refine a3A (f:=88) rfl rfl rfl rfl  (.tup2 (.val (.int .i64 i)) (.val (.bool false))) (by intro u1 u2 w e hu1 hu2;(try obtain rfl:u1=_:=hu1);(try obtain rfl:u2=_:=hu2);exact hf _ (e5.trans e)) ?_))|(refine yN hK ?_;clear hK K))|(refine oCX ?_;first|refine aqA (id:=4) [9,17,20,23] kZ kZ kZ (a7A ?_))|refine wG ?_|(refine yR ?_;intro K hK)|refine wPh ?_|fail)
  have lkv:∀ k,kv.ownBlock=some k→k<w.heap.size:=λ k h=>hS.lt (.inr (.inl h))
  have llv:∀ k,lv.ownBlock=some k→k<w.heap.size:=λ k h=>hS.lt (.inr (.inr h))
  have sz5:=e5.size;refine oeA (v3:=undef) (f:=89) rfl rfl rfl rfl rfl (λ w v w'=>Own 0 tK 1 w' v (nk p+1) (((b9A p).map (Value.int .u16)).take (i*1)++[.int .u16 (k:Int)]++((b9A p).map (Value.int .u16)).drop (i*1))∧Fr (λ k=>kv.ownBlock=some k) w w'∧LocR w kv v) (λ u3 w1 e1 hu3=>?_) (λ kv' w1 w2 e1 hR=>⟨(38,.pred (hqA w5.heap.size tC 4 1 (qv qc).cells.toList))::_,λ t u _ hu=>lmA (λ u hu=>?_) c2A t u hu,a7A ?_⟩)
  ·exact ukA w1 0 _ kv u3 (nk p) i _ _ (hk0.ext (e5.trans e1)) hu3 hle (λ k h1 h2=>by have:=(Own.lt hu3 k h1).1;have:=lkv k h2;omega) h1c (λ c hc'=>by rw [List.mem_singleton] at hc';subst hc';rfl) oZ oZ
  ·exact hR.2.1.own hu (λ k h1 h2=>by have:=(Own.lt hu k h1).1;have:=lkv k h2;omega)
  obtain ⟨r1,r2,r3⟩:=hR;rw [hmap] at r1;have hb2:=r2.at (e1.block hS5.hb) (λ h=>hsn.1 h);have h52:=r2.at (e1.block h5) (λ h=>by have:=lkv _ h;omega);have q22:Own 0 tC 4 w2 lv (nk p) (bbA Q):=r2.own (q2.ext (e5.trans e1)) (λ k h1 h2=>hsn.2.2 k h2 h1);have sz2:=Nat.le_trans e1.size r2.size
  repeat' (first|(refine yL ?_;first|refine yB ?_|(refine oNc ?_;refine afA rfl rfl ?_)|(refine oF 0 ?_;refine a1A (a':=⟨b,0,none⟩) rfl rfl (λ _=>rfl) ?_)|(refine oF 1 ?_;refine a1A (a':=⟨b,1,none⟩) rfl rfl (λ _=>rfl) ?_)|(refine oLt 22 ?_;refine a5A (c:=kv) rfl (λ _=>rfl) rfl hb2 rfl ?_)|(refine oLt 26 ?_;refine a5A (c:=lv) rfl (λ _=>rfl) rfl hb2 rfl ?_)|(refine oD 38 ?_;refine ojA (base:=w5.heap.size) (s:=4) sz2 rfl d8A rfl rfl dZ ?_)|(refine oLd ?_;refine bzA (n:=4) rfl h52 rfl rfl (λ _=>rfl) (λ _=>rfl) ?_)|refine yO ?_|(refine yC ?_ ?_<;>intro hc)|(refine yN hK ?_;clear hK K))|refine wG ?_|(refine yR ?_;intro K hK)|refine wPh ?_|fail)
  refine oeA (v3:=undef) (f:=90) rfl rfl rfl rfl rfl (λ w v w'=>Own 0 tC 4 w' v (nk p+1) ((bbA Q).take (i*4)++(qv qc).cells.toList++(bbA Q).drop (i*4))∧Fr (λ k=>lv.ownBlock=some k) w w'∧LocR w lv v) (λ u3 w3 e3 hu3=>?_) (λ lv' w3 w4 e3 hR=>⟨_,λ t u _ hu=>c2A t u hu,a7A ?_⟩)
  ·exact ujA w3 0 _ lv u3 (nk p) i _ _ (q22.ext e3) hu3 hle (λ k h1 h2=>by have:=(Own.lt hu3 k h1).1;have:=llv k h2;omega) h1q hqc oZ oZ
  obtain ⟨s1,s2,s3⟩:=hR;have hcq':(bbA Q).take (i*4)++(qv qc).cells.toList++(bbA Q).drop (i*4)=bbA (Q.take i++[qc]++Q.drop i):=hcq.symm;rw [hcq'] at s1;have hb4:=s2.at (e3.block hb2) (λ h=>hsn.2.1 h);have r14:=s2.own (r1.ext e3) (λ k h1 h2=>by
   obtain ⟨cur,hcur⟩:=bxA (r1.ext e3) h1;exact Own.apart (q22.ext e3) hcur dZ h2)
  obtain ⟨ck1,ck2⟩:=e0A r14;obtain ⟨cl1,cl2⟩:=e0A s1;have hF4:Fr (onw b kv lv) w w4:=(((Fr.of (e5.trans e1)).trans (r2.mono λ k h=>.inr (.inl h))).trans (Fr.of e3)).trans (s2.mono λ k h=>.inr (.inr h))
  repeat' (first|(refine yL ?_;first|refine yB ?_|(refine oNc ?_;refine afA rfl rfl ?_)|(refine oF 0 ?_;refine a1A (a':=⟨b,0,none⟩) rfl rfl (λ _=>rfl) ?_)|(refine oF 1 ?_;refine a1A (a':=⟨b,1,none⟩) rfl rfl (λ _=>rfl) ?_)|(refine oLt 22 ?_;refine a5A (c:=kv) rfl (λ _=>rfl) rfl hb4 rfl ?_)|(refine oLt 26 ?_;refine a5A (c:=lv) rfl (λ _=>rfl) rfl hb4 rfl ?_)|refine yO ?_|(refine yC ?_ ?_<;>intro hc)|(refine yN hK ?_;clear hK K))|refine wG ?_|(refine yR ?_;intro K hK)|refine wPh ?_|fail)
  refine dzA (news:=[kv']) rfl rfl rfl hb4 ck1 (λ _=>rfl) nZ (λ u hu=>by rw [List.mem_singleton] at hu;subst hu;exact ck2) (λ w6 e6=>⟨_,λ t u hu=>c2A t u hu,a7A ?_⟩);have hb6:(w6.setRow b #[kv',lv]).heap[b]?=_:=setRow_heap w6 b _ _ _ _ (e6.block hb4);obtain ⟨w7,hw7⟩:∃ w7,w7=w6.setRow b #[kv',lv]:=⟨_,rfl⟩;have hF7:Fr (onw b kv lv) w w7:=hw7▸((hF4.trans (Fr.of e6)).setRow (.inl rfl) _);have r17:OwnI 0 tK .u16 w7 kv' ((b9A p).take i++[(k:Int)]++(b9A p).drop i):=by unfold OwnI;rw [hlen];exact hw7▸Own.setRow (r14.ext e6) _ (Own.apart (r14.ext e6) (e6.block hb4) dZ)
  have s17:Own 0 tC 4 w7 lv' (nk p+1) (bbA (Q.take i++[qc]++Q.drop i)):=hw7▸Own.setRow (s1.ext e6) _ (Own.apart (s1.ext e6) (e6.block hb4) dZ);rw [show (#[kv,lv].toList.take 0++[kv']++#[kv,lv].toList.drop (0+[kv'].length)).toArray=#[kv',lv] from rfl];rw [← hw7] at hb6 ⊢;clear hw7
  repeat' (first|(refine yL ?_;first|refine yB ?_|(refine oNc ?_;refine afA rfl rfl ?_)|(refine oF 0 ?_;refine a1A (a':=⟨b,0,none⟩) rfl rfl (λ _=>rfl) ?_)|(refine oF 1 ?_;refine a1A (a':=⟨b,1,none⟩) rfl rfl (λ _=>rfl) ?_)|(refine oLt 22 ?_;refine a5A (c:=kv) rfl (λ _=>rfl) rfl hb6 rfl ?_)|(refine oLt 26 ?_;refine a5A (c:=lv) rfl (λ _=>rfl) rfl hb6 rfl ?_)|refine yO ?_|(refine yC ?_ ?_<;>intro hc)|(refine yN hK ?_;clear hK K))|refine wG ?_|(refine yR ?_;intro K hK)|refine wPh ?_|fail)
  refine dzA (news:=[lv']) rfl rfl rfl hb6 cl1 (λ _=>rfl) nZ (λ u hu=>by rw [List.mem_singleton] at hu;subst hu;exact cl2) (λ w8 e8=>⟨_,λ t u hu=>c2A t u hu,apA ?_⟩);have hb8:(w8.setRow b #[kv',lv']).heap[b]?=_:=setRow_heap w8 b _ _ _ _ (e8.block hb6);obtain ⟨w9,hw9⟩:∃ w9,w9=w8.setRow b #[kv',lv']:=⟨_,rfl⟩;have hF9:Fr (onw b kv lv) w w9:=hw9▸((hF7.trans (Fr.of e8)).setRow (.inl rfl) _);have r19:OwnI 0 tK .u16 w9 kv' ((b9A p).take i++[(k:Int)]++(b9A p).drop i):=hw9▸Own.setRow (r17.ext e8) _ (Own.apart (r17.ext e8) (e8.block hb6) dZ);have s19:Own 0 tC 4 w9 lv' (nk p+1) (bbA (Q.take i++[qc]++Q.drop i)):=hw9▸Own.setRow (s17.ext e8) _ (Own.apart (s17.ext e8) (e8.block hb6) dZ);have sz3:=Nat.le_trans sz2 e3.size;rw [show (#[kv',lv].toList.take 1++[lv']++#[kv',lv].toList.drop (1+[lv'].length)).toArray=#[kv',lv'] from rfl];rw [← hw9] at hb8 ⊢;clear hw9
  repeat' (first|(refine yL ?_;first|refine yB ?_|(refine oNc ?_;refine afA rfl rfl ?_)|(refine oF 0 ?_;refine a1A (a':=⟨b,0,none⟩) rfl rfl (λ _=>rfl) ?_)|(refine oF 1 ?_;refine a1A (a':=⟨b,1,none⟩) rfl rfl (λ _=>rfl) ?_)|(refine oLt 22 ?_;refine a5A (c:=kv) rfl (λ _=>rfl) rfl hb8 rfl ?_)|(refine oLt 26 ?_;refine a5A (c:=lv) rfl (λ _=>rfl) rfl hb8 rfl ?_)|refine yO ?_|(refine yC ?_ ?_<;>intro hc)|(refine yN hK ?_;clear hK K))|refine wG ?_|(refine yR ?_;intro K hK)|refine wPh ?_|fail)
  refine bdA rfl (λ w2 e2=>⟨rfl,?_⟩) (.inl rfl);exact hfin w2 kv' lv' (hF9.trans (Fr.of e2)) (e2.block hb8) (r19.ext e2) (s19.ext e2) (r3.le (Nat.le_trans e5.size e1.size)) (s3.le oZ)
 ·obtain ⟨i1,i2⟩:=udA hk hn
  have hfin:∀ w',_:=λ w'=>hS.set (w':=w') hk hn hq hq0 q1 q3 hc
  rw [← hi] at i1 hf hfin;rw [hn] at hf;have hset:=p2A Q i qc oZ
  rcases q2.2 with ⟨_,h0⟩|⟨gl,cap,cur,rfl,-,hg,hnc,hm,hsz,htake⟩
  ·omega
  have hsn:=slot_ne hS;have hsetN:=λ (w1:World) (hg1:w1.heap[gl]?=some (.cells cur tC (0,0)))=>Own.setN (e:=tC) (s:=4) (news:=qcs qc) q2.1 hg1 hnc hm hsz htake i1 rfl
  clear hi;refine Fc.of (args:=[_,_,_]) Tryz.func63 rfl rfl Tryz.ntmps63 nZ ?_
  repeat' (first|(refine yL ?_;first|refine a0A rfl ?_|(refine oBx ?_;refine snA rfl rfl ?_)|(refine oNc ?_;refine afA rfl rfl ?_)|(refine oF 0 ?_;refine a1A (a':=⟨b,0,none⟩) rfl rfl (λ _=>rfl) ?_)|(refine oF 1 ?_;refine a1A (a':=⟨b,1,none⟩) rfl rfl (λ _=>rfl) ?_)|(refine oLt 22 ?_;refine a5A (c:=kv) rfl (λ _=>rfl) rfl hS.hb rfl ?_)|(refine oLt 26 ?_;refine a5A (c:=.slice (some ⟨gl,0,none⟩) (nk p) cap) rfl (λ _=>rfl) rfl hS.hb rfl ?_)|(refine oI ?_;refine d2A (s:=4) rfl rfl (λ _=>rfl) rfl rfl oZ oZ ?_;rw [Int.toNat_natCast,Nat.zero_add])|(refine oLd ?_;refine okA rfl (λ _=>rfl) (λ _=>rfl) rfl ?_)|(refine a4A (hK _ _ rfl (s9A (news:=qcs qc) rfl rfl rfl hg rfl (λ _=>rfl) (by rw [hsz];show i*4+4≤cap*4;omega) hqc (λ w1 e1=>?_)));clear hK K)|refine yO ?_|(refine yC ?_ ?_<;>intro hc)|(refine yV ?_;first|(refine oC 88 ?_;refine a3A (f:=88) rfl rfl rfl rfl  (.tup2 (.val (.int .i64 i)) (.val (.bool true))) (by intro u1 u2 w e hu1 hu2;(try obtain rfl:u1=_:=hu1);(try obtain rfl:u2=_:=hu2);exact hf _ e) ?_))|(refine yN hK ?_;clear hK K))|(refine oCX ?_;first|refine ccA 7 kZ kZ kZ (λ K hK=>?_))|refine wG ?_|(refine yR ?_;intro K hK)|fail)
  refine bdA rfl (λ w2 e2=>⟨rfl,?_⟩) (.inr rfl);have hS1:=hS.ext e1;have hne:b≠gl:=λ e=>hsn.2.1 (by rw [e];rfl)
  refine hfin w2 (((Fr.of e1).setRow (.inr (.inr rfl)) _).trans (Fr.of e2)) (e2.block (m8A _ hS1.hb hne)) (OwnI.ext (Own.setRow hS1.hk _ (Own.apart hS1.hk (e1.block hg) dZ)) e2) ?_
  rw [hset];exact (hsetN w1 (e1.block hg)).ext e2
end Go.Proofs.YtlnaebejmjmepaaGreatDoor
end
section
namespace Go.Proofs.YtlnaebejmjmepaaGreatDoor
open Go.LA Go.ArrP Go.RowKit
variable {A B:Nat→Prop}
theorem hrA {w:World} {v:Value} {p:Nat→Bool} (h:NSet B A w v p):∀ x,TOP≤x→p x=false:=by
 rcases h with ⟨rfl,rfl⟩|⟨b,kv,lv,rfl,hS,-⟩
 ·exact λ _ _=>rfl
 ·exact hS.top
structure Pts (A:Nat→Prop) (w:World) (v:Value) (p:Nat→Bool) (lv:Value) (Q:List Qd):Prop where
 len:Q.length=nk p
 own:Own 0 tC 4 w lv (nk p) (bbA Q)
 cn:∀ i,i<nk p→Cn A w (qv (Q.getD i q0)) (blk p (kp p i)) (aoA (blk p (kp p i)))
 set:0<nk p→∃ b kv,v=.pointer (some ⟨b,0,none⟩)∧w.heap[b]?=some (.cells #[kv,lv] tS (0,0))∧OwnI 0 tK .u16 w kv (b9A p)
theorem Pts.ext {w w':World} {v:Value} {p:Nat→Bool} {lv:Value} {Q:List Qd} (h:Pts A w v p lv Q) (e:Ext w w'):Pts A w' v p lv Q :=
 ⟨h.len,h.own.ext e,λ i hi=>(h.cn i hi).ext e,λ h0=>by
  obtain ⟨b,kv,h1,h2,h3⟩:=h.set h0;exact ⟨b,kv,h1,e.block h2,h3.ext e⟩⟩
theorem Pts.at {w:World} {v:Value} {p:Nat→Bool} {lv:Value} {Q:List Qd} (h:Pts A w v p lv Q) {i:Nat} (hi:i<nk p):((bbA Q).drop (i*4)).take 4=qcs (Q.getD i q0)∧Cn A w (qv (Q.getD i q0)) (blk p (kp p i)) (aoA (blk p (kp p i)))∧∀ u ∈ qcs (Q.getD i q0),u.oneCell'=true:=by
 refine ⟨gqA Q i (by have:=h.len;omega),h.cn i hi,?_⟩;obtain ⟨q,h1,h2⟩:=(h.cn i hi).qd;rw [q7A h1];exact h2
theorem ihA {w:World} {v:Value} {p:Nat→Bool} (h:NSet B A w v p):∃ lv Q,Pts A w v p lv Q∧∀ w',Ext w w'→Fc Tryz.prog 60 #[v] w' (Ret w' (.val lv)):=by
 rcases h with ⟨rfl,rfl⟩|⟨b,kv,lv,rfl,hS,-⟩
 ·refine ⟨nilS,[],⟨by rw [fmA];rfl,by rw [fmA];exact Own.nil,λ i hi=>by rw [fmA] at hi;omega,λ hi=>by rw [fmA] at hi;omega⟩,λ w' e=>?_⟩
  refine Fc.of (args:=[_]) Tryz.func60 rfl rfl Tryz.ntmps60 nZ ?_
  repeat' (first|(refine yL ?_;first|refine a0A rfl ?_|(refine oEq ?_;refine blA (c:=.bool true) rfl rfl rfl (λ _=>rfl) ?_)|refine yO ?_|(refine yC ?_ ?_<;>intro hc)|(refine yN hK ?_;clear hK K))|refine wG ?_|(refine yR ?_;intro K hK)|fail)
  exact a9A rfl rfl (Ext.refl _) rfl
 ·obtain ⟨Q,q1,q2,q3⟩:=hS.hl
  refine ⟨lv,Q,⟨q1,q2,λ i hi=>(q3 i hi).mono λ k _ h=>h.1,λ _=>⟨b,kv,rfl,hS.hb,hS.hk⟩⟩,λ w' e=>?_⟩;replace hS:=hS.ext e;refine Fc.of (args:=[_]) Tryz.func60 rfl rfl Tryz.ntmps60 nZ ?_
  repeat' (first|(refine yL ?_;first|refine a0A rfl ?_|(refine oEq ?_;refine blA (c:=.bool false) rfl rfl rfl (λ _=>rfl) ?_)|(refine oNc ?_;refine afA rfl rfl ?_)|(refine oF 0 ?_;refine a1A (a':=⟨b,0,none⟩) rfl rfl (λ _=>rfl) ?_)|(refine oF 1 ?_;refine a1A (a':=⟨b,1,none⟩) rfl rfl (λ _=>rfl) ?_)|(refine oLt 22 ?_;refine a5A (c:=kv) rfl (λ _=>rfl) rfl hS.hb rfl ?_)|(refine oLt 26 ?_;refine a5A (c:=lv) rfl (λ _=>rfl) rfl hS.hb rfl ?_)|refine yO ?_|(refine yC ?_ ?_<;>intro hc)|(refine yN hK ?_;clear hK K))|refine wG ?_|(refine yR ?_;intro K hK)|fail)
  exact a9A rfl rfl (Ext.refl _) rfl
theorem ikA {w:World} {v:Value} {p:Nat→Bool} (h:NSet B A w v p):Fc Tryz.prog 14 #[v] w (Ret w (.pred (bnA w.heap.size tK .u16 (b9A p)))):=by
 rcases h with ⟨rfl,rfl⟩|⟨b,kv,lv,rfl,hS,-⟩
 ·rw [llA]
  refine Fc.of (args:=[_]) Tryz.func14 rfl rfl Tryz.ntmps14 nZ ?_
  repeat' (first|(refine yL ?_;first|refine a0A rfl ?_|(refine oEq ?_;refine blA (c:=.bool true) rfl rfl rfl (λ _=>rfl) ?_)|refine yO ?_|(refine yC ?_ ?_<;>intro hc)|(refine yN hK ?_;clear hK K))|refine wG ?_|(refine yR ?_;intro K hK)|fail)
  exact ajA rfl rfl (Ext.refl _) (λ v _ _ hv=>by obtain rfl:v=_:=hv;exact OwnI.nil)
 ·have hn:(b9A p).length≤65536:=by rw [brA];exact fcA p
  refine Fc.of (args:=[_]) Tryz.func14 rfl rfl Tryz.ntmps14 nZ ?_
  repeat' (first|(refine yL ?_;first|refine a0A rfl ?_|(refine oEq ?_;refine blA (c:=.bool false) rfl rfl rfl (λ _=>rfl) ?_)|(refine oNc ?_;refine afA rfl rfl ?_)|(refine oF 0 ?_;refine a1A (a':=⟨b,0,none⟩) rfl rfl (λ _=>rfl) ?_)|(refine oF 1 ?_;refine a1A (a':=⟨b,1,none⟩) rfl rfl (λ _=>rfl) ?_)|(refine oLt 22 ?_;refine a5A (c:=kv) rfl (λ _=>rfl) rfl hS.hb rfl ?_)|(refine oLt 26 ?_;refine a5A (c:=lv) rfl (λ _=>rfl) rfl hS.hb rfl ?_)|refine yO ?_|(refine yC ?_ ?_<;>intro hc)|(refine yV ?_;first|(refine oC 39 ?_;refine a2A (f:=39) rfl rfl rfl  (.pred (bnA w.heap.size tK .u16 (b9A p))) (by intro u1 w e hu1;(try obtain rfl:u1=_:=hu1);exact (ftA _ _ _ (hS.hk.ext e).slI hn).mono (aaA e.size)) ?_))|(refine yN hK ?_;clear hK K))|refine wG ?_|(refine yR ?_;intro K hK)|fail)
  exact ajA rfl rfl (Ext.refl _) (λ _ _ _ hv=>hv)
theorem yjA {w:World} {v:Value} {p:Nat→Bool} (h:NSet B A w v p):Fc Tryz.prog 36 #[v] w (Ret w (.val (.int .i64 (cnt p TOP)))):=by
 obtain ⟨lv,Q,hP,hL⟩:=ihA h;have hnk:=fcA p;have hct:=cnt_le p TOP;have htop:=crA;refine Fc.of (args:=[_]) Tryz.func36 rfl rfl Tryz.ntmps36 nZ ?_
 repeat' (first|(refine yL ?_;first|refine a0A rfl ?_|(refine c7A ?_;refine asA rfl _ rfl rfl (HasC.ownV hP.own) ?_)|refine yO ?_|(refine yC ?_ ?_<;>intro hc)|(refine yV ?_;first|(refine oC 60 ?_;refine a2A (f:=60) rfl rfl rfl  (.val lv) (by intro u1 w e hu1;(try obtain rfl:u1=_:=hu1);exact hL _ e) ?_))|(refine yN hK ?_;clear hK K))|refine wG ?_|(refine yR ?_;intro K hK)|fail)
 refine b5A (ι:=Nat) (λ i=>[(0,.val v),(3,.val (.int .i64 (cnt p (kp p i*65536)))),(7,.val lv),(8,.val (.int .i64 (nk p))),(9,.val (.int .i64 i))]) (λ i=>i≤nk p) (λ i=>nk p-i) 0 (Nat.zero_le _) (by rw [htA];(repeat' (first|exact Sub.nil|(refine Sub.val rfl ?_ ?_;first|with_reducible rfl|(congr 1;omega))|refine Sub.same rfl ?_));done) ?_
 intro i hi;have hle:=cnt_mono p (m:=kp p i*65536) TOP (by have:=kp_le p i;omega)
 by_cases hil:i<nk p
 ·obtain ⟨hat,hcn,h1⟩:=hP.at hil
  have hkc:=r3A hil;have hb6:=cnt_le (blk p (kp p i)) 65536
  repeat' (first|(refine yL ?_;first|refine a0A rfl ?_|(refine oI ?_;refine c3A (s:=4) rfl _ rfl (λ _=>rfl) rfl (HasC.ownV hP.own) rfl i rfl oZ ?_;rw [hat])|(refine oLt 32 ?_;refine akA (cs:=qcs _) rfl (λ _=>rfl) (λ _=>rfl) rfl ?_)|(refine oD 5 ?_;refine a4A (hK _ _ (c5A rfl rfl dZ (λ _=>rfl) (λ _=>rfl) (λ _=>rfl) rfl h1 (λ bx wx ex hbx hbc=>?_)));clear hK K;refine aiA kZ (λ K hK=>?_))|(refine oD 14 ?_;refine bzA (n:=4) rfl hbc rfl rfl (λ _=>rfl) (λ _=>rfl) ?_)|refine yO ?_|(refine yC ?_ ?_<;>intro hc)|(refine yV ?_;first|(refine oC 47 ?_;refine a2A (f:=47) rfl rfl rfl  (.val (.int .i64 (cnt (blk p (kp p i)) 65536))) (by intro u1 w e hu1;(try obtain rfl:u1=_:=hu1);exact hkA (hcn.ext (ex.trans e))) ?_))|(refine yN hK ?_;clear hK K))|refine wG ?_|(refine yR ?_;intro K hK)|fail)
  exact j1A ex (i+1) hil oZ (by rw [hkc];(repeat' (first|exact Sub.nil|(refine Sub.val rfl ?_ ?_;first|with_reducible rfl|(congr 1;omega))|refine Sub.same rfl ?_));done)
 ·obtain rfl:i=nk p:=oZ
  rw [kfA] at hle ⊢
  repeat' (first|(refine yL ?_;first|refine a0A rfl ?_|refine yO ?_|(refine yC ?_ ?_<;>intro hc)|(refine yN hK ?_;clear hK K))|refine wG ?_|(refine yR ?_;intro K hK)|fail)
  exact a9A rfl rfl (Ext.refl _) rfl
end Go.Proofs.YtlnaebejmjmepaaGreatDoor
end
