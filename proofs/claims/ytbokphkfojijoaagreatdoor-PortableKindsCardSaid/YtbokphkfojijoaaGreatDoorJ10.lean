import Derived.ChangeSame
import Derived.ChangeSlices
import Derived.Laws.StructEq
import Derived.Test.YtbokphkfojijoaaGreatDoorJ6
import Derived.Test.YtbokphkfojijoaaGreatDoorJ9
set_option linter.unusedSimpArgs false
set_option linter.unusedVariables false
set_option maxRecDepth 3000
set_option maxHeartbeats 16000000
section
namespace Go.Proofs.YtbokphkfojijoaaGreatDoor
open Go.LA Go.ArrP Go.RowKit
theorem g2A:El Tryz.prog 94 105 (pbA 0 0) 2 4:=⟨rfl,rfl,rfl,by decide⟩
theorem qsA:El Tryz.prog 46 3 (.int .i64 0) 1 8:=⟨rfl,rfl,rfl,by decide⟩
theorem r4A (w:World) (f m:Int) (hf:0≤f∧f<65536) (hm:0≤m∧m<65536):Fc Tryz.prog 177 #[pbA f m] w (Ret w (.val (.int .i64 (f+m+1)))):=by
 refine Fc.of (args:=[_]) Tryz.func177 rfl rfl Tryz.ntmps177 nZ ?_
 repeat' (first|(refine yL ?_;first|refine a0A rfl ?_|refine j3A rfl rfl ?_|(refine oD 3 ?_;refine a3A (hK _ _ (awA 1 rfl (λ v1 w1 e1 h1=>?_)));clear hK K;obtain ⟨bx,hbx,rfl,hbc⟩:=h1;refine abA kZ (λ K hK=>?_))|(refine oI ?_;refine boA rfl _ rfl (λ _=>rfl) rfl jZ rfl oZ ?_)|(refine oLt 105 ?_;refine atA rfl (λ _=>rfl) (λ _=>rfl) rfl ?_)|(show LA _ _ _ _ (⟨some 99,.alloc _,_,_,_,_⟩::_) _;refine a3A (hK _ _ (crA rfl rfl dZ (λ _=>rfl) (λ _=>rfl) (λ _=>rfl) rfl (by intro u hu;simp [Value.cells] at hu;rcases hu with rfl|rfl <;> rfl) (λ bx wx ex hbx hbc=>?_)));clear hK K;refine abA kZ (λ K hK=>?_))|(refine oF 0 ?_;refine a2A (a:=⟨bx,0,none⟩) (a':=⟨bx,0,none⟩) rfl rfl (λ _=>rfl) ?_)|(refine oF 1 ?_;refine a2A (a:=⟨bx,0,none⟩) (a':=⟨bx,1,none⟩) rfl rfl (λ _=>rfl) ?_)|(refine oLt 105 ?_;refine c7A rfl (λ _=>rfl) (λ _=>rfl) rfl hbc ?_)|(refine oLt 31 ?_;refine a7A rfl (λ _=>rfl) rfl hbc rfl ?_)|(refine d3A ?_;refine c8A rfl _ rfl rfl jZ ?_)|refine yO ?_|(refine yC ?_ ?_<;>intro hc)|(refine yN hK ?_;clear hK K))|refine wG ?_|(refine yR ?_;intro K hK)|fail)
 exact ajA rfl rfl e1 rfl
theorem wjA {rs:List Rn} (hu:U16 rs) (k:Nat) (hk:k<rs.length) (hr:∀ j,j<k→lst rs j≤fst rs j∧fst rs j+mor rs j+1≤65536):0≤lst rs k∧lst rs k≤65537:=by
 cases k with
 | zero=>simp [lst]
 | succ k=>have:=hr k oZ;have:=hu.at k;simp only [lst];omega
theorem wiA (w:World) (v:Value) (rs:List Rn) (h:SlR w v rs) (hu:U16 rs):Fc Tryz.prog 173 #[v] w (Ret w (.val (.bool (decide (Right rs))))):=by
 have hlen:=h.len;refine Fc.of (args:=[_]) Tryz.func173 rfl rfl Tryz.ntmps173 nZ ?_
 repeat' (first|(refine yL ?_;first|refine a0A rfl ?_|(refine oI ?_;refine boA rfl _ rfl (λ _=>rfl) rfl jZ rfl oZ ?_)|(refine oLt 105 ?_;refine atA rfl (λ _=>rfl) (λ _=>rfl) rfl ?_)|(show LA _ _ _ _ (⟨some 99,.alloc _,_,_,_,_⟩::_) _;refine a3A (hK _ _ (crA rfl rfl dZ (λ _=>rfl) (λ _=>rfl) (λ _=>rfl) rfl (by intro u hu;simp [Value.cells] at hu;rcases hu with rfl|rfl <;> rfl) (λ bx wx ex hbx hbc=>?_)));clear hK K;refine abA kZ (λ K hK=>?_))|(refine oF 0 ?_;refine a2A (a:=⟨bx,0,none⟩) (a':=⟨bx,0,none⟩) rfl rfl (λ _=>rfl) ?_)|(refine oF 1 ?_;refine a2A (a:=⟨bx,0,none⟩) (a':=⟨bx,1,none⟩) rfl rfl (λ _=>rfl) ?_)|(refine oLt 105 ?_;refine c7A rfl (λ _=>rfl) (λ _=>rfl) rfl hbc ?_)|(refine oLt 31 ?_;refine a7A rfl (λ _=>rfl) rfl hbc rfl ?_)|(refine d3A ?_;refine c8A rfl _ rfl rfl jZ ?_)|refine yO ?_|(refine yC ?_ ?_<;>intro hc)|(refine yN hK ?_;clear hK K))|refine wG ?_|(refine yR ?_;intro K hK)|fail)
 refine aaA (ι:=Nat) (λ k=>[(0,.val v),(3,.val (.int .i64 (lst rs k))),(6,.val v),(7,.val (.int .i64 rs.length)),(8,.val (.int .i64 k))]) (λ k w'=>Ext w w'∧k≤rs.length∧∀ j,j<k→lst rs j≤fst rs j∧fst rs j+mor rs j+1≤65536) (λ k=>rs.length-k) (λ w2 e2=>⟨0,⟨e2,Nat.zero_le _,λ j hj=>by omega⟩,sZ⟩) ?_
 rintro k w1 ⟨he,hk,hr⟩;have h1:=h.ext he
 by_cases hkl:k<rs.length
 ·obtain ⟨u1,u2,u3,u4⟩:=hu.at k
  have hl:=wjA hu k hkl hr;have hls:lst rs (k+1)=fst rs k+mor rs k+2:=rfl;obtain ⟨F,hF⟩:∃ F,F=fst rs k:=⟨_,rfl⟩;obtain ⟨M,hM⟩:∃ M,M=mor rs k:=⟨_,rfl⟩
  by_cases hok:lst rs k≤fst rs k∧fst rs k+mor rs k+1≤65536
  ·skip
   repeat' (first|(refine yL ?_;first|refine a0A rfl ?_|(refine oI ?_;refine boA rfl _ rfl (λ _=>rfl) rfl jZ rfl oZ ?_)|(refine oLt 105 ?_;refine atA rfl (λ _=>rfl) (λ _=>rfl) rfl ?_)|(show LA _ _ _ _ (⟨some 5,.alloc _,_,_,_,_⟩::_) _;refine a3A (hK _ _ (crA rfl rfl dZ (λ _=>rfl) (λ _=>rfl) (λ _=>rfl) rfl (by intro u hu;simp [Value.cells] at hu;rcases hu with rfl|rfl <;> rfl) (λ bx wx ex hbx hbc=>?_)));clear hK K;refine abA kZ (λ K hK=>?_))|(refine oF 0 ?_;refine a2A (a:=⟨bx,0,none⟩) (a':=⟨bx,0,none⟩) rfl rfl (λ _=>rfl) ?_)|(refine oF 1 ?_;refine a2A (a:=⟨bx,0,none⟩) (a':=⟨bx,1,none⟩) rfl rfl (λ _=>rfl) ?_)|(refine oLt 105 ?_;refine c7A rfl (λ _=>rfl) (λ _=>rfl) rfl hbc ?_)|(refine oLt 31 ?_;refine a7A rfl (λ _=>rfl) rfl hbc rfl ?_)|(refine d3A ?_;refine c8A rfl _ rfl rfl jZ ?_)|refine yO ?_|(refine yC ?_ ?_<;>intro hc)|(refine yV ?_;first|(refine oC 177 ?_;refine a1A (f:=177) rfl rfl rfl  (.val (.int .i64 (fst rs k+mor rs k+1))) (by intro u1 w e hu1;(try obtain rfl:u1=_:=hu1);exact r4A _ (fst rs k) (mor rs k) ⟨u1,u2⟩ ⟨u3,u4⟩) ?_))|(refine yN hK ?_;clear hK K))|refine wG ?_|(refine yR ?_;intro K hK)|fail)
   refine a4A (k+1) (λ w5 e5=>⟨he.trans (ex.trans e5),hkl,λ j hj=>?_⟩) oZ (by rw [hls];exact sZ)
   by_cases e:j=k
   ·subst e;exact hok
   ·exact hr j oZ
  ·have hno:decide (Right rs)=false:=decide_eq_false (λ h=>hok (h k hkl))
   rw [hno]
   by_cases h2:fst rs k<lst rs k
   all_goals
    repeat' (first|(refine yL ?_;first|refine a0A rfl ?_|(refine oI ?_;refine boA rfl _ rfl (λ _=>rfl) rfl jZ rfl oZ ?_)|(refine oLt 105 ?_;refine atA rfl (λ _=>rfl) (λ _=>rfl) rfl ?_)|(show LA _ _ _ _ (⟨some 5,.alloc _,_,_,_,_⟩::_) _;refine a3A (hK _ _ (crA rfl rfl dZ (λ _=>rfl) (λ _=>rfl) (λ _=>rfl) rfl (by intro u hu;simp [Value.cells] at hu;rcases hu with rfl|rfl <;> rfl) (λ bx wx ex hbx hbc=>?_)));clear hK K;refine abA kZ (λ K hK=>?_))|(refine oF 0 ?_;refine a2A (a:=⟨bx,0,none⟩) (a':=⟨bx,0,none⟩) rfl rfl (λ _=>rfl) ?_)|(refine oF 1 ?_;refine a2A (a:=⟨bx,0,none⟩) (a':=⟨bx,1,none⟩) rfl rfl (λ _=>rfl) ?_)|(refine oLt 105 ?_;refine c7A rfl (λ _=>rfl) (λ _=>rfl) rfl hbc ?_)|(refine oLt 31 ?_;refine a7A rfl (λ _=>rfl) rfl hbc rfl ?_)|(refine d3A ?_;refine c8A rfl _ rfl rfl jZ ?_)|refine yO ?_|(refine yC ?_ ?_<;>intro hc)|(refine yV ?_;first|(refine oC 177 ?_;refine a1A (f:=177) rfl rfl rfl  (.val (.int .i64 (fst rs k+mor rs k+1))) (by intro u1 w e hu1;(try obtain rfl:u1=_:=hu1);exact r4A _ (fst rs k) (mor rs k) ⟨u1,u2⟩ ⟨u3,u4⟩) ?_))|(refine yN hK ?_;clear hK K))|refine wG ?_|(refine yR ?_;intro K hK)|(refine oPX ?_;first|exact ajA rfl rfl (he.trans ex) rfl)|fail)
 ·obtain rfl:k=rs.length:=oZ
  rw [decide_eq_true (show Right rs from hr)]
  repeat' (first|(refine yL ?_;first|refine a0A rfl ?_|refine yO ?_|(refine yC ?_ ?_<;>intro hc)|(refine yN hK ?_;clear hK K))|refine wG ?_|(refine yR ?_;intro K hK)|fail)
  exact ajA rfl rfl he rfl
theorem n0A (g:Rn→Int) {rs:List Rn} {k:Nat} (hk:k<rs.length):ltA g (rs.take (k+1))=ltA g (rs.take k)+g (fst rs k,mor rs k):=by
 rw [geA hk,gfA];simp [ltA]
theorem i2A (g:Rn→Int) (B:Int) (hB:∀ x,0≤x.2→x.2<65536→0≤g x∧g x≤B) {rs:List Rn} (hu:U16 rs):∀ k,k≤rs.length→0≤ltA g (rs.take k)∧ltA g (rs.take k)≤B*k
 | 0,_=>by simp [ltA]
 | k+1,hk=>by
   have ih:=i2A g B hB hu k oZ;obtain ⟨u1,u2,u3,u4⟩:=hu.at k;have:=hB (fst rs k,mor rs k) u3 u4;rw [n0A g oZ,Int.natCast_succ,Int.mul_add];omega
theorem wkA (w:World) (v:Value) (rs:List Rn) (h:SlR w v rs) (hu:U16 rs) (hn:rs.length≤70000):Fc Tryz.prog 131 #[v] w (Ret w (.val (.int .i64 (lcA rs)))):=by
 have hlen:=h.len;refine Fc.of (args:=[_]) Tryz.func131 rfl rfl Tryz.ntmps131 nZ ?_
 repeat' (first|(refine yL ?_;first|refine a0A rfl ?_|(refine oI ?_;refine boA rfl _ rfl (λ _=>rfl) rfl jZ rfl oZ ?_)|(refine oLt 105 ?_;refine atA rfl (λ _=>rfl) (λ _=>rfl) rfl ?_)|(show LA _ _ _ _ (⟨some 99,.alloc _,_,_,_,_⟩::_) _;refine a3A (hK _ _ (crA rfl rfl dZ (λ _=>rfl) (λ _=>rfl) (λ _=>rfl) rfl (by intro u hu;simp [Value.cells] at hu;rcases hu with rfl|rfl <;> rfl) (λ bx wx ex hbx hbc=>?_)));clear hK K;refine abA kZ (λ K hK=>?_))|(refine oF 0 ?_;refine a2A (a:=⟨bx,0,none⟩) (a':=⟨bx,0,none⟩) rfl rfl (λ _=>rfl) ?_)|(refine oF 1 ?_;refine a2A (a:=⟨bx,0,none⟩) (a':=⟨bx,1,none⟩) rfl rfl (λ _=>rfl) ?_)|(refine oLt 105 ?_;refine c7A rfl (λ _=>rfl) (λ _=>rfl) rfl hbc ?_)|(refine oLt 31 ?_;refine a7A rfl (λ _=>rfl) rfl hbc rfl ?_)|(refine d3A ?_;refine c8A rfl _ rfl rfl jZ ?_)|refine yO ?_|(refine yC ?_ ?_<;>intro hc)|(refine yN hK ?_;clear hK K))|refine wG ?_|(refine yR ?_;intro K hK)|fail)
 refine aaA (ι:=Nat) (λ k=>[(3,.val (.int .i64 (lcA (rs.take k)))),(6,.val v),(7,.val (.int .i64 rs.length)),(8,.val (.int .i64 k))]) (λ k w'=>Ext w w'∧k≤rs.length) (λ k=>rs.length-k) (λ w2 e2=>⟨0,⟨e2,Nat.zero_le _⟩,sZ⟩) ?_
 rintro k w1 ⟨he,hk⟩;have h1:=h.ext he
 by_cases hkl:k<rs.length
 ·obtain ⟨u1,u2,u3,u4⟩:=hu.at k
  have hb:=i2A (λ x=>x.2+1) 65536 (λ x h1 h2=>⟨by omega,by omega⟩) hu k hk;have hs:lcA (rs.take (k+1))=lcA (rs.take k)+(mor rs k+1):=n0A _ hkl;have hb:0≤lcA (rs.take k)∧lcA (rs.take k)≤65536*k:=hb
  repeat' (first|(refine yL ?_;first|refine a0A rfl ?_|(refine oI ?_;refine boA rfl _ rfl (λ _=>rfl) rfl jZ rfl oZ ?_)|(refine oLt 105 ?_;refine atA rfl (λ _=>rfl) (λ _=>rfl) rfl ?_)|(show LA _ _ _ _ (⟨some 5,.alloc _,_,_,_,_⟩::_) _;refine a3A (hK _ _ (crA rfl rfl dZ (λ _=>rfl) (λ _=>rfl) (λ _=>rfl) rfl (by intro u hu;simp [Value.cells] at hu;rcases hu with rfl|rfl <;> rfl) (λ bx wx ex hbx hbc=>?_)));clear hK K;refine abA kZ (λ K hK=>?_))|(refine oF 0 ?_;refine a2A (a:=⟨bx,0,none⟩) (a':=⟨bx,0,none⟩) rfl rfl (λ _=>rfl) ?_)|(refine oF 1 ?_;refine a2A (a:=⟨bx,0,none⟩) (a':=⟨bx,1,none⟩) rfl rfl (λ _=>rfl) ?_)|(refine oLt 105 ?_;refine c7A rfl (λ _=>rfl) (λ _=>rfl) rfl hbc ?_)|(refine oLt 31 ?_;refine a7A rfl (λ _=>rfl) rfl hbc rfl ?_)|(refine d3A ?_;refine c8A rfl _ rfl rfl jZ ?_)|refine yO ?_|(refine yC ?_ ?_<;>intro hc)|(refine yN hK ?_;clear hK K))|refine wG ?_|(refine yR ?_;intro K hK)|fail)
  refine a4A (k+1) (λ w5 e5=>⟨he.trans (ex.trans e5),hkl⟩) oZ (by rw [hs];exact sZ)
 ·obtain rfl:k=rs.length:=oZ
  rw [List.take_length]
  repeat' (first|(refine yL ?_;first|refine a0A rfl ?_|refine yO ?_|(refine yC ?_ ?_<;>intro hc)|(refine yN hK ?_;clear hK K))|refine wG ?_|(refine yR ?_;intro K hK)|fail)
  exact ajA rfl rfl he rfl
theorem pwA {rs:List Rn} {k:Nat} (hk:k<rs.length):n8A (rs.take (k+1))=n8A (rs.take k)++[fst rs k,fst rs k+mor rs k+1]:=by
 rw [geA hk,k1A];rfl
theorem row_c (w:World) (v:Value) (rs:List Rn) (h:SlR w v rs) (hu:U16 rs) (hn:rs.length≤70000):Fc Tryz.prog 158 #[v] w (Ret w (.pred (axA w.heap.size 3 .i64 (n8A rs)))):=by
 have hlen:=h.len;refine Fc.of (args:=[_]) Tryz.func158 rfl rfl Tryz.ntmps158 nZ ?_
 repeat' (first|(refine yL ?_;first|refine a0A rfl ?_|(refine oI ?_;refine boA rfl _ rfl (λ _=>rfl) rfl jZ rfl oZ ?_)|(refine oLt 105 ?_;refine atA rfl (λ _=>rfl) (λ _=>rfl) rfl ?_)|(show LA _ _ _ _ (⟨some 99,.alloc _,_,_,_,_⟩::_) _;refine a3A (hK _ _ (crA rfl rfl dZ (λ _=>rfl) (λ _=>rfl) (λ _=>rfl) rfl (by intro u hu;simp [Value.cells] at hu;rcases hu with rfl|rfl <;> rfl) (λ bx wx ex hbx hbc=>?_)));clear hK K;refine abA kZ (λ K hK=>?_))|(refine oF 0 ?_;refine a2A (a:=⟨bx,0,none⟩) (a':=⟨bx,0,none⟩) rfl rfl (λ _=>rfl) ?_)|(refine oF 1 ?_;refine a2A (a:=⟨bx,0,none⟩) (a':=⟨bx,1,none⟩) rfl rfl (λ _=>rfl) ?_)|(refine oLt 105 ?_;refine c7A rfl (λ _=>rfl) (λ _=>rfl) rfl hbc ?_)|(refine oLt 31 ?_;refine a7A rfl (λ _=>rfl) rfl hbc rfl ?_)|(refine d3A ?_;refine c8A rfl _ rfl rfl jZ ?_)|refine yO ?_|(refine yC ?_ ?_<;>intro hc)|(refine yN hK ?_;clear hK K))|refine wG ?_|(refine yR ?_;intro K hK)|fail)
 refine aaA (ι:=Nat × Value) (λ i=>[(3,.val i.2),(6,.val v),(7,.val (.int .i64 rs.length)),(8,.val (.int .i64 i.1))]) (λ i w'=>Ext w w'∧i.1≤rs.length∧OwnI w.heap.size 3 .i64 w' i.2 (n8A (rs.take i.1))) (λ i=>rs.length-i.1) (λ w2 e2=>⟨(0,.slice none 0 0),⟨e2,Nat.zero_le _,OwnI.nil⟩,sZ⟩) ?_
 rintro ⟨k,so⟩ w1 ⟨he,hk,ho⟩;dsimp only at hk ho ⊢;have h1:=h.ext he
 by_cases hkl:k<rs.length
 ·obtain ⟨u1,u2,u3,u4⟩:=hu.at k
  have hl:=n7A (rs.take k);rw [List.length_take,Nat.min_eq_left hk] at hl
  repeat' (first|(refine yL ?_;first|refine a0A rfl ?_|(refine oD 3 ?_;refine jtA rfl rfl ?_)|refine obA rfl qsA rfl rfl rfl rfl ?_|(refine a3A (hK _ _ rfl (d4A rfl dZ qsA rfl (ho.ext ex) rfl HasC.own (by intro u hu';simp at hu';rcases hu' with rfl|rfl <;> rfl) (by unfold maxLen;omega) oZ (Nat.le_trans he.size ex.size) (λ v' w' w'' e' ho' hg'=>?_)));clear hK K;dsimp only [vals];refine abA kZ (λ K hK=>?_))|(refine oI ?_;refine boA rfl _ rfl (λ _=>rfl) rfl jZ rfl oZ ?_)|(refine oLt 105 ?_;refine atA rfl (λ _=>rfl) (λ _=>rfl) rfl ?_)|(show LA _ _ _ _ (⟨some 5,.alloc _,_,_,_,_⟩::_) _;refine a3A (hK _ _ (crA rfl rfl dZ (λ _=>rfl) (λ _=>rfl) (λ _=>rfl) rfl (by intro u hu;simp [Value.cells] at hu;rcases hu with rfl|rfl <;> rfl) (λ bx wx ex hbx hbc=>?_)));clear hK K;refine abA kZ (λ K hK=>?_))|(refine oF 0 ?_;refine a2A (a:=⟨bx,0,none⟩) (a':=⟨bx,0,none⟩) rfl rfl (λ _=>rfl) ?_)|(refine oF 1 ?_;refine a2A (a:=⟨bx,0,none⟩) (a':=⟨bx,1,none⟩) rfl rfl (λ _=>rfl) ?_)|(refine oLt 105 ?_;refine c7A rfl (λ _=>rfl) (λ _=>rfl) rfl hbc ?_)|(refine oLt 31 ?_;refine a7A rfl (λ _=>rfl) rfl hbc rfl ?_)|(refine d3A ?_;refine c8A rfl _ rfl rfl jZ ?_)|refine yO ?_|(refine yC ?_ ?_<;>intro hc)|(refine yV ?_;first|(refine oC 177 ?_;refine a1A (f:=177) rfl rfl rfl  (.val (.int .i64 (fst rs k+mor rs k+1))) (by intro u1 w e hu1;(try obtain rfl:u1=_:=hu1);exact r4A _ (fst rs k) (mor rs k) ⟨u1,u2⟩ ⟨u3,u4⟩) ?_))|(refine yN hK ?_;clear hK K))|(refine oCX ?_;first|refine dcA 7 kZ kZ dZ (λ K hK=>?_))|refine wG ?_|(refine yR ?_;intro K hK)|fail)
  refine a4A (k+1,v') (λ w5 e5=>⟨(((he.trans ex).trans e').grown hg' (λ q hq=>(Own.lt ho q hq).1)).trans e5,hkl,?_⟩) eZ sZ;dsimp only;rw [pwA hkl];refine OwnI.ext ?_ e5;unfold OwnI;rw [List.map_append,List.length_append];exact ho'
 ·obtain rfl:k=rs.length:=oZ
  rw [List.take_length] at ho
  repeat' (first|(refine yL ?_;first|refine a0A rfl ?_|refine yO ?_|(refine yC ?_ ?_<;>intro hc)|(refine yN hK ?_;clear hK K))|refine wG ?_|(refine yR ?_;intro K hK)|fail)
  exact aiA rfl rfl he (λ u w5 e5 hu'=>by obtain rfl:u=_:=hu';exact ho.ext e5)
theorem k3A (p:Nat→Bool):∀ T,(rnC p T).length≤T
 | 0=>Nat.le_refl _
 | T+1=>by
   have:=k3A p T;simp only [rnC,List.length_append]
   split <;> simp <;> omega
theorem rkA (f m:Int) (w:World):(Instr.build 105 #[(0,.int .u16 f),(1,.int .u16 m)]).run Tryz.prog w=.ok (pbA f m) w:=run_build w _ _ _ kZ
theorem r7A (F:Bool→Bool→Bool) (ft:FuncId) (hT:∀ x y w,Fc Tryz.prog ft #[.bool x,.bool y] w (Ret w (.val (.bool (F x y))))) (hF:F false false=false) (w:World) (va vb:Value) (p q:Nat→Bool) (hp:p 65536=false) (hq:q 65536=false)
 (ha:SlI .i64 w va (aeA (chg p) 65537)) (hb:SlI .i64 w vb (aeA (chg q) 65537)) :
 Fc Tryz.prog 157 #[va,vb,.func (.func ft) #[] #[]] w (Ret w (.pred (euA w.heap.size 105 (alA (two F p q))))):=by
 obtain ⟨P,hP⟩:∃ P,P=chg p:=⟨_,rfl⟩;obtain ⟨Q,hQ⟩:∃ Q,Q=chg q:=⟨_,rfl⟩;obtain ⟨G,hG⟩:∃ G,G=two F p q:=⟨_,rfl⟩;obtain ⟨A,hA⟩:∃ A,A=aeA P 65537:=⟨_,rfl⟩;obtain ⟨B,hB⟩:∃ B,B=aeA Q 65537:=⟨_,rfl⟩;have hlA:A.length=cnt P 65537:=by rw [hA,ayA]
 have hlB:B.length=cnt Q 65537:=by rw [hB,ayA]
 rw [← hP,← hA] at ha;rw [← hQ,← hB] at hb;rw [← hG];obtain ⟨na,hna⟩:∃ na,na=cnt P 65537:=⟨_,rfl⟩;obtain ⟨nb,hnb⟩:∃ nb,nb=cnt Q 65537:=⟨_,rfl⟩;rw [← hna] at hlA;rw [← hnb] at hlB;have hna2:na≤65537:=hna▸cnt_le P 65537;have hnb2:nb≤65537:=hnb▸cnt_le Q 65537;have Ae:∀ {i t:Nat},i<na→∃ x:Nat,x<65537∧P x=true∧cnt P x=i∧A.getD i 0=x∧(x≤t↔i<cnt P (t+1)):=λ {i t} hi=>by
  obtain ⟨x,h1,h2,h3,h4,h5⟩:=r8A P (n:=65537) (i:=i) (t:=t) (hna▸hi);exact ⟨x,h1,h2,h3,hA▸h4,h5⟩
 have Be:∀ {i t:Nat},i<nb→∃ x:Nat,x<65537∧Q x=true∧cnt Q x=i∧B.getD i 0=x∧(x≤t↔i<cnt Q (t+1)):=λ {i t} hi=>by
  obtain ⟨x,h1,h2,h3,h4,h5⟩:=r8A Q (n:=65537) (i:=i) (t:=t) (hnb▸hi);exact ⟨x,h1,h2,h3,hB▸h4,h5⟩
 have cA:∀ t,t≤65537→cnt P t≤na:=λ t ht=>hna▸cnt_mono P 65537 ht
 have cB:∀ t,t≤65537→cnt Q t≤nb:=λ t ht=>hnb▸cnt_mono Q 65537 ht
 have stA:∀ T t,T≤t→cnt P t=cnt P T→∀ x,T≤x→x<t→P x=false:=λ T t h1 h2=>o1A P t h1 h2
 have stB:∀ T t,T≤t→cnt Q t=cnt Q T→∀ x,T≤x→x<t→Q x=false:=λ T t h1 h2=>o1A Q t h1 h2
 have oddP:∀ t,cnt P (t+1) % 2=if p t then 1 else 0:=λ t=>hP▸m8A p (t+1)
 have oddQ:∀ t,cnt Q (t+1) % 2=if q t then 1 else 0:=λ t=>hQ▸m8A q (t+1)
 have chG:∀ x,P x=false→Q x=false→chg G x=false:=λ x h1 h2=>by rw [hG];exact xnA hF (hP▸h1) (hQ▸h2)
 have hG6:G 65536=false:=by rw [hG];unfold two;rw [hp,hq];exact hF
 have hGt:∀ t,G t=F (p t) (q t):=λ t=>by rw [hG];rfl
 have gna:Hide (na=cnt P 65537):=⟨hna⟩;have gnb:Hide (nb=cnt Q 65537):=⟨hnb⟩;clear hna hnb hA hB hP hQ hG;refine Fc.of (args:=[_,_,_]) Tryz.func157 rfl rfl Tryz.ntmps157 nZ ?_
 repeat' (first|(refine yL ?_;first|refine a0A rfl ?_|refine yO ?_|(refine yC ?_ ?_<;>intro hc)|(refine yN hK ?_;clear hK K))|refine wG ?_|(refine yR ?_;intro K hK)|fail)
 refine aaA (ι:=Nat × Value × Int) (λ i=>[(0,.val va),(1,.val vb),(2,.val (.func (.func ft) #[] #[])),(7,.val i.2.1),(8,.val (.bool (bel G i.1))),(9,.val (.int .i64 i.2.2)),(10,.val (.int .i64 (cnt P i.1))),(11,.val (.int .i64 (cnt Q i.1)))])
  (λ i w'=>Ext w w'∧i.1≤65537∧OwnR w.heap.size 105 w' i.2.1 (rnC G i.1)∧(bel G i.1=true→i.2.2=frm G i.1)∧(0≤i.2.2∧i.2.2≤65537)) (λ i=>65537-i.1)
  (λ w2 e2=>⟨(0,.slice none 0 0,0),⟨e2,Nat.zero_le _,OwnR.nil,λ h=>(by cases h),by decide⟩,sZ⟩) ?_
 rintro ⟨T,so,fr⟩ w1 ⟨he,hT5,ho,hfr,hfrb⟩;dsimp only at hT5 ho hfr hfrb ⊢;have h1:=ha.ext he;have h2:=hb.ext he;have hcT:=cA T hT5;have hdT:=cB T hT5
 by_cases hdone:cnt P T=na∧cnt Q T=nb
 ·obtain ⟨e1,e2⟩:=hdone
  have s1:=stA T 65537 hT5 (by rw [← gna.out,e1]);have s2:=stB T 65537 hT5 (by rw [← gnb.out,e2]);obtain ⟨z1,-,-⟩:=still 65537 hT5 (λ x g1 g2=>chG x (s1 x g1 g2) (s2 x g1 g2));rw [← z1,← yvA hG6] at ho
  repeat' (first|(refine yL ?_;first|refine a0A rfl ?_|refine yO ?_|(refine yC ?_ ?_<;>intro hc)|(refine yN hK ?_;clear hK K))|refine wG ?_|(refine yR ?_;intro K hK)|fail)
  exact aiA rfl rfl he (λ u w5 e5 hu'=>by obtain rfl:u=_:=hu';exact ho.ext e5)
 ·have next:∃ t:Nat,T≤t∧t<65537∧(∀ x,T≤x→x<t→P x=false∧Q x=false)∧(cnt P T<na→cnt Q T<nb→min (A.getD (cnt P T) 0) (B.getD (cnt Q T) 0)=t)∧(cnt P T<na→¬ cnt Q T<nb→A.getD (cnt P T) 0=t)∧(¬ cnt P T<na→cnt Q T<nb→min 65537 (B.getD (cnt Q T) 0)=t):=by
   have fa:cnt P T<na→∃ x:Nat,T≤x∧x<65537∧A.getD (cnt P T) 0=x∧∀ z,T≤z→z<x→P z=false:=λ h=>by
    obtain ⟨x,a1,a2,a3,a4,-⟩:=Ae (t:=0) h;have:T≤x:=by
     rcases Nat.lt_or_ge x T with h' | h'
     ·have:=cnt_mono P (m:=x+1) T h'
      simp only [cnt,a2,if_true] at this;omega
     ·exact h'
    exact ⟨x,this,a1,a4,stA T x this a3⟩
   have fb:cnt Q T<nb→∃ x:Nat,T≤x∧x<65537∧B.getD (cnt Q T) 0=x∧∀ z,T≤z→z<x→Q z=false:=λ h=>by
    obtain ⟨x,a1,a2,a3,a4,-⟩:=Be (t:=0) h;have:T≤x:=by
     rcases Nat.lt_or_ge x T with h' | h'
     ·have:=cnt_mono Q (m:=x+1) T h'
      simp only [cnt,a2,if_true] at this;omega
     ·exact h'
    exact ⟨x,this,a1,a4,stB T x this a3⟩
   have na':¬ cnt P T<na→∀ z,T≤z→z<65537→P z=false:=λ h=>stA T 65537 hT5 (by rw [← gna.out];omega)
   have nb':¬ cnt Q T<nb→∀ z,T≤z→z<65537→Q z=false:=λ h=>stB T 65537 hT5 (by rw [← gnb.out];omega)
   by_cases ca:cnt P T<na <;> by_cases cb:cnt Q T<nb
   ·obtain ⟨x,x1,x2,x3,x4⟩:=fa ca
    obtain ⟨y,y1,y2,y3,y4⟩:=fb cb;refine ⟨min x y,by omega,by omega,λ z g1 g2=>⟨x4 z g1 oZ,y4 z g1 oZ⟩,λ _ _=>by rw [x3,y3];omega,λ _ h=>absurd cb h,λ h=>absurd ca h⟩
   ·obtain ⟨x,x1,x2,x3,x4⟩:=fa ca
    exact ⟨x,x1,x2,λ z g1 g2=>⟨x4 z g1 g2,nb' cb z g1 oZ⟩,λ _ h=>absurd h cb,λ _ _=>x3,λ h=>absurd ca h⟩
   ·obtain ⟨y,y1,y2,y3,y4⟩:=fb cb
    exact ⟨y,y1,y2,λ z g1 g2=>⟨na' ca z g1 oZ,y4 z g1 g2⟩,λ h=>absurd h ca,λ h=>absurd h ca,λ _ _=>by rw [y3];omega⟩
   ·exact absurd ⟨by omega,by omega⟩ hdone
  obtain ⟨t,ht1,ht2,hst,hm1,hm2,hm3⟩:=next;obtain ⟨z1,z2,z3⟩:=still t ht1 (λ x g1 g2=>chG x (hst x g1 g2).1 (hst x g1 g2).2);have cA1:=cA (t+1) oZ;have cB1:=cB (t+1) oZ;have mA1:=cnt_mono P (m:=T) (t+1) oZ;have mB1:=cnt_mono Q (m:=T) (t+1) oZ;obtain ⟨ia,hia⟩:∃ ia,ia=cnt P T:=⟨_,rfl⟩;obtain ⟨ib,hib⟩:∃ ib,ib=cnt Q T:=⟨_,rfl⟩;obtain ⟨ja,hja⟩:∃ ja,ja=cnt P (t+1):=⟨_,rfl⟩;obtain ⟨jb,hjb⟩:∃ jb,jb=cnt Q (t+1):=⟨_,rfl⟩;have od1:=oddP t;have od2:=oddQ t;have Ae':∀ {i:Nat},i<na→(A.getD i 0≤(t:Int)↔i<ja):=λ {i} hi=>by
   obtain ⟨x,-,-,-,a4,a5⟩:=Ae (t:=t) hi;rw [a4,hja,← a5];omega
  have Be':∀ {i:Nat},i<nb→(B.getD i 0≤(t:Int)↔i<jb):=λ {i} hi=>by
   obtain ⟨x,-,-,-,a4,a5⟩:=Be (t:=t) hi;rw [a4,hjb,← a5];omega
  rw [← hia,← hib] at hdone hm1 hm2 hm3;rw [← hia] at hcT mA1;rw [← hib] at hdT mB1;rw [← hja] at cA1 mA1 od1;rw [← hjb] at cB1 mB1 od2;rw [← hia,← hib];have gia:Hide (ia=cnt P T):=⟨hia⟩;have gib:Hide (ib=cnt Q T):=⟨hib⟩;have gja:Hide (ja=cnt P (t+1)):=⟨hja⟩;have gjb:Hide (jb=cnt Q (t+1)):=⟨hjb⟩;clear hia hib hja hjb hst;obtain ⟨a1,ha1,hb1,hb2⟩:∃ a1:Int,(a1=if ia<na then A.getD ia 0 else 65537)∧(ib<nb→min a1 (B.getD ib 0)=(t:Int))∧(¬ ib<nb→a1=t):=by
   refine ⟨_,rfl,λ cb=>?_,λ cb=>?_⟩
   ·by_cases ca:ia<na
    ·rw [if_pos ca];exact hm1 ca cb
    ·rw [if_neg ca];exact hm3 ca cb
   ·by_cases ca:ia<na
    ·rw [if_pos ca];exact hm2 ca cb
    ·exact absurd ⟨by omega,by omega⟩ hdone
  have hl65:(t:Int)<65537:=oZ;clear hm1 hm2 hm3;have ga1:Hide (ia<na→A.getD ia 0=a1):=⟨λ ca=>by rw [ha1,if_pos ca]⟩;have ga2:Hide (¬ ia<na→(65537:Int)=a1):=⟨λ ca=>by rw [ha1,if_neg ca]⟩;have gb1:Hide (ib<nb→min a1 (B.getD ib 0)=(t:Int)):=⟨hb1⟩;have gb2:Hide (¬ ib<nb→a1=t):=⟨hb2⟩;clear ha1 hb1 hb2;have rn1:rnC G (t+1)=rnC G T++(if !G t && bel G T then [((frm G T:Int),(t:Int)-frm G T-1)] else []):=by
   show rnC G t++_=_
   rw [z1,z2,z3]
  have fr1:frm G (t+1)=if G t && !bel G T then t else frm G T:=by
   show (if G t && !bel G t then t else frm G t)=_
   rw [z2,z3]
  have bl1:bel G (t+1)=G t:=rfl;have hltT:=g5A G T;obtain ⟨cP,hcP⟩:∃ cP,cP=(cnt P T:Int):=⟨_,rfl⟩
  skip
  repeat' (first|(refine yL ?_;first|refine a0A rfl ?_|(refine oD 31 ?_;refine j1A rfl (λ _=>rfl) rfl ?_;rw [ga1.out oZ])|(refine oD 41 ?_;refine djA rfl rfl rfl ?_;rw [gb1.out oZ])|(refine oD 73 ?_;refine s9A (v:=p t) rfl rfl rfl rfl (by dsimp only [kwA];cases hpt:p t <;> rw [hpt] at od1 <;> simp at od1 ⊢ <;> omega) ?_)|(refine oD 76 ?_;refine s9A (v:=q t) rfl rfl rfl rfl (by dsimp only [kwA];cases hqt:q t <;> rw [hqt] at od2 <;> simp at od2 ⊢ <;> omega) ?_)|refine yO ?_|(refine yC ?_ ?_<;>intro hc)|(refine yN hK ?_;clear hK K))|(refine oCX ?_;first|(show CX _ _ _ (.seq (.seq (.region 4 _ _) _) _) _ _;refine h8A [(0,.val va),(1,.val vb),(2,.val (.func (.func ft) #[] #[])),(7,.val so),(8,.val (.bool (bel G T))),(9,.val (.int .i64 fr)),(10,.val (.int .i64 ia)),(11,.val (.int .i64 ib))] ?_ ?_)|(show CX _ _ _ (.seq (.seq (.region 6 _ _) _) _) _ _;refine h8A [(0,.val va),(1,.val vb),(2,.val (.func (.func ft) #[] #[])),(7,.val so),(8,.val (.bool (bel G T))),(9,.val (.int .i64 fr)),(10,.val (.int .i64 ia)),(11,.val (.int .i64 ib)),(12,.val (.int .i64 a1))] ?_ ?_)|(show CX _ _ _ (.seq (.seq (.region 8 _ _) _) _) _ _;refine h8A [(0,.val va),(1,.val vb),(2,.val (.func (.func ft) #[] #[])),(7,.val so),(8,.val (.bool (bel G T))),(9,.val (.int .i64 fr)),(10,.val (.int .i64 ia)),(11,.val (.int .i64 ib)),(12,.val (.int .i64 t))] ?_ ?_)|(show CX _ _ _ (.seq (.block 2 _) _) _ _;refine h8A [(0,.val va),(1,.val vb),(2,.val (.func (.func ft) #[] #[])),(7,.val so),(8,.val (.bool (bel G T))),(9,.val (.int .i64 fr)),(10,.val (.int .i64 ja)),(11,.val (.int .i64 ib)),(12,.val (.int .i64 t))] ?_ ?_)|(show CX _ _ _ (.seq (.block 4 _) _) _ _;refine h8A [(0,.val va),(1,.val vb),(2,.val (.func (.func ft) #[] #[])),(7,.val so),(8,.val (.bool (bel G T))),(9,.val (.int .i64 fr)),(10,.val (.int .i64 ja)),(11,.val (.int .i64 jb)),(12,.val (.int .i64 t))] ?_ ?_))|refine wG ?_|(refine yR ?_;intro K hK)|(refine oPX ?_;first|(refine dhA ?_;first|((repeat' (first|exact Sub.nil|(refine Sub.val rfl ?_ ?_;first|with_reducible rfl|(congr 1;omega))|refine Sub.same rfl ?_));done)|(rw [ga1.out oZ];(repeat' (first|exact Sub.nil|(refine Sub.val rfl ?_ ?_;first|with_reducible rfl|(congr 1;omega))|refine Sub.same rfl ?_));done)|(rw [ga2.out oZ];(repeat' (first|exact Sub.nil|(refine Sub.val rfl ?_ ?_;first|with_reducible rfl|(congr 1;omega))|refine Sub.same rfl ?_));done)|(rw [gb2.out oZ];(repeat' (first|exact Sub.nil|(refine Sub.val rfl ?_ ?_;first|with_reducible rfl|(congr 1;omega))|refine Sub.same rfl ?_));done)))|fail)
  ·refine ciA (ι:=Nat) (λ i=>[(0,.val va),(1,.val vb),(2,.val (.func (.func ft) #[] #[])),(7,.val so),(8,.val (.bool (bel G T))),(9,.val (.int .i64 fr)),(10,.val (.int .i64 i)),(11,.val (.int .i64 ib)),(12,.val (.int .i64 t))]) (λ i=>ia≤i∧i≤ja) (λ i=>ja-i) ia ⟨Nat.le_refl _,mA1⟩ sZ ?_
   rintro i ⟨hi1,hi2⟩
   by_cases hij:i<ja
   ·have hAi:A.getD i 0≤t:=(Ae' oZ).2 hij
    repeat' (first|(refine yL ?_;first|refine a0A rfl ?_|refine yO ?_|(refine yC ?_ ?_<;>intro hc)|(refine yN hK ?_;clear hK K))|refine wG ?_|(refine yR ?_;intro K hK)|fail)
    refine czA (i+1) ⟨by omega,by omega⟩ oZ sZ
   ·have hAi:i<na→¬ A.getD i 0≤t:=λ h h'=>hij ((Ae' h).1 h')
    obtain rfl:i=ja:=oZ
    by_cases hin:i<na
    ·have hAi:=hAi hin
     repeat' (first|(refine yL ?_;first|refine a0A rfl ?_|refine yO ?_|(refine yC ?_ ?_<;>intro hc)|(refine yN hK ?_;clear hK K))|refine wG ?_|(refine yR ?_;intro K hK)|(refine oPX ?_;first|(refine dhA ?_;(repeat' (first|exact Sub.nil|(refine Sub.val rfl ?_ ?_;first|with_reducible rfl|(congr 1;omega))|refine Sub.same rfl ?_));done))|fail)
    ·clear hAi
     repeat' (first|(refine yL ?_;first|refine a0A rfl ?_|refine yO ?_|(refine yC ?_ ?_<;>intro hc)|(refine yN hK ?_;clear hK K))|refine wG ?_|(refine yR ?_;intro K hK)|(refine oPX ?_;first|(refine dhA ?_;(repeat' (first|exact Sub.nil|(refine Sub.val rfl ?_ ?_;first|with_reducible rfl|(congr 1;omega))|refine Sub.same rfl ?_));done))|fail)
  ·refine ciA (ι:=Nat) (λ i=>[(0,.val va),(1,.val vb),(2,.val (.func (.func ft) #[] #[])),(7,.val so),(8,.val (.bool (bel G T))),(9,.val (.int .i64 fr)),(10,.val (.int .i64 ja)),(11,.val (.int .i64 i)),(12,.val (.int .i64 t))]) (λ i=>ib≤i∧i≤jb) (λ i=>jb-i) ib ⟨Nat.le_refl _,mB1⟩ sZ ?_
   rintro i ⟨hi1,hi2⟩
   by_cases hij:i<jb
   ·have hBi:B.getD i 0≤t:=(Be' oZ).2 hij
    repeat' (first|(refine yL ?_;first|refine a0A rfl ?_|refine yO ?_|(refine yC ?_ ?_<;>intro hc)|(refine yN hK ?_;clear hK K))|refine wG ?_|(refine yR ?_;intro K hK)|fail)
    refine czA (i+1) ⟨by omega,by omega⟩ oZ sZ
   ·have hBi:i<nb→¬ B.getD i 0≤t:=λ h h'=>hij ((Be' h).1 h')
    obtain rfl:i=jb:=oZ
    by_cases hin:i<nb
    ·have hBi:=hBi hin
     repeat' (first|(refine yL ?_;first|refine a0A rfl ?_|refine yO ?_|(refine yC ?_ ?_<;>intro hc)|(refine yN hK ?_;clear hK K))|refine wG ?_|(refine yR ?_;intro K hK)|(refine oPX ?_;first|(refine dhA ?_;(repeat' (first|exact Sub.nil|(refine Sub.val rfl ?_ ?_;first|with_reducible rfl|(congr 1;omega))|refine Sub.same rfl ?_));done))|fail)
    ·clear hBi
     repeat' (first|(refine yL ?_;first|refine a0A rfl ?_|refine yO ?_|(refine yC ?_ ?_<;>intro hc)|(refine yN hK ?_;clear hK K))|refine wG ?_|(refine yR ?_;intro K hK)|(refine oPX ?_;first|(refine dhA ?_;(repeat' (first|exact Sub.nil|(refine Sub.val rfl ?_ ?_;first|with_reducible rfl|(congr 1;omega))|refine Sub.same rfl ?_));done))|fail)
  ·clear Ae' Be' Ae Be od1 od2 oddP oddQ
   cases hg:G t <;> cases hbl:bel G T
   all_goals rw [hg,hbl] at rn1 fr1
   all_goals rw [hg] at bl1
   all_goals simp only [Bool.not_true,Bool.not_false,Bool.and_true,Bool.and_false,Bool.true_and,Bool.false_and,Bool.false_eq_true,if_true,if_false,List.append_nil] at rn1 fr1
   ·skip
    repeat' (first|(refine yL ?_;first|refine a0A rfl ?_|refine yO ?_|(refine yC ?_ ?_<;>intro hc)|(refine yV ?_;first|refine a5A (f:=ft) (r1:=.val (.bool _)) (r2:=.val (.bool _)) rfl rfl rfl rfl (.val (.bool false)) (by intro u1 u2 w e hu1 hu2;obtain rfl:u1=_:=hu1;obtain rfl:u2=_:=hu2;rw [← hg,hGt];exact hT _ _ _) ?_)|(refine yN hK ?_;clear hK K))|refine wG ?_|(refine yR ?_;intro K hK)|fail)
    exact a4A (t+1,so,fr) (λ w5 e5=>⟨he.trans e5,by dsimp only;omega,by dsimp only;rw [rn1];exact ho.ext e5,(λ h=>by dsimp only at h;rw [bl1] at h;cases h),hfrb⟩) eZ (by dsimp only;rw [bl1,← gja.out,← gjb.out];exact sZ)
   ·have hf2:=hfr hbl
    have hlt:=hltT hbl;have hrl:=k3A G T
    skip
    repeat' (first|(refine yL ?_;first|refine a0A rfl ?_|refine e4A (c:=pbA fr (t-fr-1)) rfl rfl rfl (λ w=>rkA _ _ w) ?_|refine e6A rfl g2A rfl rfl dZ ?_|(refine a3A (hK _ _ (eyA rfl dZ g2A rfl ho rfl oZ oZ he (λ v' w' he' ho'=>?_)));clear hK K;dsimp only [vals];refine abA kZ (λ K hK=>?_))|refine yO ?_|(refine yC ?_ ?_<;>intro hc)|(refine yV ?_;first|refine a5A (f:=ft) (r1:=.val (.bool _)) (r2:=.val (.bool _)) rfl rfl rfl rfl (.val (.bool false)) (by intro u1 u2 w e hu1 hu2;obtain rfl:u1=_:=hu1;obtain rfl:u2=_:=hu2;rw [← hg,hGt];exact hT _ _ _) ?_)|(refine yN hK ?_;clear hK K))|refine wG ?_|(refine yR ?_;intro K hK)|fail)
    exact a4A (t+1,v',(t:Int)) (λ w5 e5=>⟨he'.trans e5,by dsimp only;omega,by dsimp only;rw [rn1,← hf2];exact ho'.ext e5,(λ h=>by dsimp only at h;rw [bl1] at h;cases h),by dsimp only;omega⟩) eZ (by dsimp only;rw [bl1,← gja.out,← gjb.out];exact sZ)
   ·skip
    repeat' (first|(refine yL ?_;first|refine a0A rfl ?_|refine yO ?_|(refine yC ?_ ?_<;>intro hc)|(refine yV ?_;first|refine a5A (f:=ft) (r1:=.val (.bool _)) (r2:=.val (.bool _)) rfl rfl rfl rfl (.val (.bool true)) (by intro u1 u2 w e hu1 hu2;obtain rfl:u1=_:=hu1;obtain rfl:u2=_:=hu2;rw [← hg,hGt];exact hT _ _ _) ?_)|(refine yN hK ?_;clear hK K))|refine wG ?_|(refine yR ?_;intro K hK)|fail)
    exact a4A (t+1,so,(t:Int)) (λ w5 e5=>⟨he.trans e5,by dsimp only;omega,by dsimp only;rw [rn1];exact ho.ext e5,(λ _=>by dsimp only;rw [fr1]),by dsimp only;omega⟩) eZ (by dsimp only;rw [bl1,← gja.out,← gjb.out];exact sZ)
   ·have hf2:=hfr hbl
    skip
    repeat' (first|(refine yL ?_;first|refine a0A rfl ?_|refine yO ?_|(refine yC ?_ ?_<;>intro hc)|(refine yV ?_;first|refine a5A (f:=ft) (r1:=.val (.bool _)) (r2:=.val (.bool _)) rfl rfl rfl rfl (.val (.bool true)) (by intro u1 u2 w e hu1 hu2;obtain rfl:u1=_:=hu1;obtain rfl:u2=_:=hu2;rw [← hg,hGt];exact hT _ _ _) ?_)|(refine yN hK ?_;clear hK K))|refine wG ?_|(refine yR ?_;intro K hK)|fail)
    exact a4A (t+1,so,fr) (λ w5 e5=>⟨he.trans e5,by dsimp only;omega,by dsimp only;rw [rn1];exact ho.ext e5,(λ _=>by dsimp only;rw [fr1];exact hf2),hfrb⟩) eZ (by dsimp only;rw [bl1,← gja.out,← gjb.out];exact sZ)
end Go.Proofs.YtbokphkfojijoaaGreatDoor
end
section
namespace Go.Proofs.YtbokphkfojijoaaGreatDoor
open Go.LA Go.ArrP Go.RowKit
theorem yxA (x y:Bool) (w:World):Fc Tryz.prog 159 #[.bool x,.bool y] w (Ret w (.val (.bool (x || y)))):=by
 cases x <;> cases y
 all_goals
  refine Fc.of (args:=[_,_]) Tryz.func159 rfl rfl Tryz.ntmps159 nZ ?_
  repeat' (first|(refine yL ?_;first|refine a0A rfl ?_|refine yO ?_|(refine yC ?_ ?_<;>intro hc)|(refine yN hK ?_;clear hK K))|refine wG ?_|(refine yR ?_;intro K hK)|fail)
  exact ajA rfl rfl (Ext.refl _) rfl
theorem t6A (x y:Bool) (w:World):Fc Tryz.prog 160 #[.bool x,.bool y] w (Ret w (.val (.bool (!(x == y))))):=by
 cases x <;> cases y
 all_goals
  refine Fc.of (args:=[_,_]) Tryz.func160 rfl rfl Tryz.ntmps160 nZ ?_
  repeat' (first|(refine yL ?_;first|refine a0A rfl ?_|refine yO ?_|(refine yC ?_ ?_<;>intro hc)|(refine yN hK ?_;clear hK K))|refine wG ?_|(refine yR ?_;intro K hK)|fail)
  exact ajA rfl rfl (Ext.refl _) rfl
theorem pyA {w:World} {base base' e s n:Nat} {cs:List Value} (hb:base'≤base) (en:Ending) (w':World) (h:Ret w (.pred (j6A base e s n cs)) en w'):Ret w (.pred (j6A base' e s n cs)) en w':=by
 obtain ⟨v,h1,h2,h3⟩:=h;exact ⟨v,h1,h2,Own.base h3 hb⟩
theorem ddA (p:Nat→Bool):(alA p).length≤65536:=by
 unfold alA;rw [dwA];exact cnt_le _ _
theorem row_of (w:World) (v:Value) (p:Nat→Bool) (hp:p 65536=false) (h:SlR w v (alA p)):Fc Tryz.prog 158 #[v] w (Ret w (.pred (axA w.heap.size 3 .i64 (aeA (chg p) 65537)))):=by
 have:=row_c w v (alA p) h (dvA p) (by have:=ddA p;omega);rwa [t3A hp] at this
section
variable (w:World) (va vb:Value) (p q:Nat→Bool) (hp:p 65536=false) (hq:q 65536=false) (ha:SlR w va (alA p)) (hb:SlR w vb (alA q))
include hp hq ha hb
theorem ror_c:Fc Tryz.prog 115 #[va,vb] w (Ret w (.pred (euA w.heap.size 105 (alA (two (λ x y=>x || y) p q))))):=by
 refine Fc.of (args:=[_,_]) Tryz.func115 rfl rfl Tryz.ntmps115 nZ ?_
 repeat' (first|(refine yL ?_;first|refine a0A rfl ?_|(refine oD 6 ?_;refine oC 158 ?_;refine a1A (f:=158) rfl rfl rfl  (.pred (axA w.heap.size 3 .i64 (aeA (chg p) 65537))) (by intro u1 w e hu1;(try obtain rfl:u1=_:=hu1);exact (row_of _ _ p hp (ha.ext e)).mono (a6A e.size)) ?_)|(refine oD 8 ?_;refine oC 158 ?_;refine a1A (f:=158) rfl rfl rfl  (.pred (axA w.heap.size 3 .i64 (aeA (chg q) 65537))) (by intro u1 w e hu1;(try obtain rfl:u1=_:=hu1);exact (row_of _ _ q hq (hb.ext e)).mono (a6A e.size)) ?_)|(refine oC 157 ?_;refine bcA (f:=157) rfl rfl rfl rfl rfl  (.pred (euA w.heap.size 105 (alA (two (λ x y=>x || y) p q)))) (by intro u1 u2 u3 w e hu1 hu2 hu3;(try obtain rfl:u1=_:=hu1);(try obtain rfl:u2=_:=hu2);(try obtain rfl:u3=_:=hu3);exact (r7A (λ x y=>x || y) _ yxA rfl _ _ _ p q hp hq (OwnI.slI hu1) (OwnI.slI hu2)).mono (avA e.size rfl)) ?_)|refine yO ?_|(refine yC ?_ ?_<;>intro hc)|(refine yN hK ?_;clear hK K))|refine wG ?_|(refine yR ?_;intro K hK)|fail)
 exact aiA rfl rfl (Ext.refl _) (λ _ _ _ h=>h)
end
def doA (lo hi:Int) (i:Nat):Bool:=decide (lo≤i) && decide ((i:Int)<hi) && decide (i<65536)
def h2A (x y:Bool):Bool:=!(x == y)
theorem flA (P:Nat→Bool) {a:Nat}:∀ b,a≤b→(∀ i,a≤i→i<b→P i=false)→aeA P b=aeA P a
 | 0,h,_=>by obtain rfl:a=0:=oZ
             rfl
 | b+1,h,hf=>by
   rcases Nat.lt_or_ge b a with h1|h1
   ·obtain rfl:a=b+1:=oZ
    rfl
   ·rw [aeA,flA P b h1 (λ i g1 g2=>hf i g1 oZ),hf b h1 oZ];simp
theorem sqA (L H:Nat) (h1:L<H) (h2:H≤65536):aeA (chg (doA L H)) 65537=[(L:Int),(H:Int)]:=by
 have hb:∀ i,bel (doA L H) i=(decide (L<i) && decide (i≤H)):=λ i=>by
  cases i with
  | zero=>rfl
  | succ i =>
    show doA L H i=_
    unfold doA;rw [Bool.eq_iff_iff];simp;omega
 have hc:∀ i,chg (doA L H) i=(decide (i=L) || decide (i=H)):=λ i=>by
  unfold chg;rw [hb];unfold doA
  by_cases e1:i=L
  ·subst e1
   rw [decide_eq_true (by omega:((i:Nat):Int)≤i),decide_eq_true (by omega:((i:Nat):Int)<(H:Int)),decide_eq_true (by omega:i<65536),decide_eq_false (by omega:¬ i<i)];simp
  ·by_cases e2:i=H
   ·subst e2
    rw [decide_eq_false (by omega:¬ ((i:Nat):Int)<(i:Int)),decide_eq_true (by omega:L<i)];simp
   ·rw [decide_eq_false e1,decide_eq_false e2,show decide ((L:Int)≤i)=decide (L<i) by rw [decide_eq_decide];omega,show decide ((i:Int)<(H:Int))=decide (i≤H) by rw [decide_eq_decide];omega]
    by_cases e3:i≤H
    ·rw [decide_eq_true (by omega:i<65536)];simp
    ·rw [decide_eq_false e3];simp
 rw [flA _ (a:=H+1) 65537 oZ (λ i g1 _=>by rw [hc,decide_eq_false oZ,decide_eq_false oZ];rfl),aeA,hc,decide_eq_true (rfl:H=H),Bool.or_true,if_pos rfl];rw [flA _ (a:=L+1) H oZ (λ i g1 g2=>by rw [hc,decide_eq_false oZ,decide_eq_false oZ];rfl),aeA,hc,decide_eq_true (rfl:L=L),Bool.true_or,if_pos rfl];rw [flA _ (a:=0) L oZ (λ i _ g2=>by rw [hc,decide_eq_false oZ,decide_eq_false oZ];rfl)];rfl
theorem n1A (lo hi:Int):doA lo hi 65536=false:=by simp [doA]
theorem srA (lo hi:Int):∀ i,doA lo hi i=doA (max lo 0) (min hi 65536) i:=λ i=>by
 unfold doA;rw [Bool.eq_iff_iff];simp;omega
theorem zkA:El Tryz.prog 94 105 (pbA 0 0) 2 4:=⟨rfl,rfl,rfl,by decide⟩
theorem ljA (w:World) (v:Value) (n:Nat) (cs:List Value) (h:SlC w v n 2 cs) (h1:∀ u ∈ cs,u.oneCell'=true) (hb:n*4≤140737488355328):Fc Tryz.prog 94 #[v] w (Ret w (.pred (j6A w.heap.size 105 2 n cs))):=by
 obtain ⟨h0,a,cap,rfl,hc,hm,hn,hcs⟩:=id h;have hlen:=h.len;cases a with
 | none =>
   obtain rfl:=hn rfl;obtain rfl:n=0:=oZ;obtain rfl:cs=[]:=List.eq_nil_of_length_eq_zero oZ;refine Fc.of (args:=[_]) Tryz.func94 rfl rfl Tryz.ntmps94 nZ ?_
   repeat' (first|(refine yL ?_;first|refine a0A rfl ?_|refine bsA (c:=.bool true) rfl rfl rfl (λ _=>rfl) ?_|refine yO ?_|(refine yC ?_ ?_<;>intro hc)|(refine yN hK ?_;clear hK K))|refine wG ?_|(refine yR ?_;intro K hK)|(refine oPX ?_;first|exact aiA rfl rfl (Ext.refl _) (λ u w2 e2 hu=>by obtain rfl:u=_:=hu;exact Own.nil))|fail)
 | some a =>
   refine Fc.of (args:=[_]) Tryz.func94 rfl rfl Tryz.ntmps94 nZ ?_
   repeat' (first|(refine yL ?_;first|refine a0A rfl ?_|refine bsA (c:=.bool false) rfl rfl rfl (λ _=>rfl) ?_|refine ksA 105 (s:=2) rfl (λ _=>by kernel_rfl) ?_|(refine a3A (hK _ _ (awA 5 rfl (λ v5 w5 e5 h5=>?_)));clear hK K;have h6:=h.ext e5;have ho:Own w.heap.size _ _ w5 v5 0 []:=h5;refine abA kZ (λ K hK=>?_))|(refine a3A (hK _ _ (d4A rfl dZ zkA rfl ho rfl (HasC.val h6) h1 (by rw [Nat.zero_add];unfold maxLen;omega) (by rw [Nat.zero_add];exact hb) e5.size (λ v' w2 w3 he2 ho3 hg3=>?_)));clear hK K;dsimp only [vals];refine abA kZ (λ K hK=>?_))|refine yO ?_|(refine yC ?_ ?_<;>intro hc)|(refine yN hK ?_;clear hK K))|refine wG ?_|(refine yR ?_;intro K hK)|fail)
   exact aiA rfl rfl ((e5.trans he2).grown hg3 (λ q hq=>(Own.lt ho q hq).1)) (λ u w4 e4 hu=>by
    obtain rfl:u=_:=hu;have h9:Own w.heap.size 105 2 w3 u n cs:=by simpa using ho3
    exact h9.ext e4)
theorem k5A (w:World) (v:Value) (p:Nat→Bool) (lo hi:Int) (hp:p 65536=false) (h:SlR w v (alA p)) (hlo:-9223372036854775808≤lo∧lo<9223372036854775808) (hhi:-9223372036854775808≤hi∧hi<9223372036854775808) :
 Fc Tryz.prog 118 #[v,.int .i64 lo,.int .i64 hi] w (Ret w (.pred (euA w.heap.size 105 (alA (two h2A p (doA lo hi)))))):=by
 refine Fc.of (args:=[_,_,_]) Tryz.func118 rfl rfl Tryz.ntmps118 nZ ?_
 obtain ⟨L,hL⟩:∃ L:Nat,max lo 0=L:=⟨(max lo 0).toNat,by omega⟩;obtain ⟨H,hH⟩:∃ H:Int,min hi 65536=H:=⟨_,rfl⟩;have hsp:∀ i,doA lo hi i=doA L H i:=λ i=>by rw [srA,hL,hH]
 have hlen:=ddA p
 by_cases hLH:(L:Int) ≥ H
 ·have e:alA (two h2A p (doA lo hi))=alA p:=f0A λ i _=>by
   have:doA lo hi i=false:=by
    rw [hsp];unfold doA
    by_cases h1:(L:Int)≤i
    ·rw [decide_eq_false (by omega:¬ (i:Int)<H)];simp
    ·rw [decide_eq_false h1];simp
   unfold two h2A;rw [this];cases p i <;> rfl
  rw [e]
  repeat' (first|(refine yL ?_;first|refine a0A rfl ?_|(refine h7A rfl rfl rfl ?_;rw [hL])|(refine djA rfl rfl rfl ?_;rw [hH])|refine yO ?_|(refine yC ?_ ?_<;>intro hc)|(refine yV ?_;first|(refine oC 94 ?_;refine a1A (f:=94) rfl rfl rfl  (.pred (j6A w.heap.size 105 2 (alA p).length (cmA (alA p)))) (by intro u1 w e hu1;(try obtain rfl:u1=_:=hu1);exact (ljA _ _ _ _ (h.ext e) (h3A _) oZ).mono (pyA e.size)) ?_))|(refine yN hK ?_;clear hK K))|refine wG ?_|(refine yR ?_;intro K hK)|fail)
  exact aiA rfl rfl (Ext.refl _) (λ _ _ _ h=>h)
 ·obtain ⟨H',rfl⟩:=Int.eq_ofNat_of_zero_le (by omega:0≤H)
  have er:=sqA L H' oZ oZ;have hsc:doA L H' 65536=false:=n1A _ _;have e:alA (two h2A p (doA lo hi))=alA (two h2A p (doA L H')):=f0A λ i _=>by unfold two;rw [hsp]
  rw [e]
  repeat' (first|(refine yL ?_;first|refine a0A rfl ?_|(refine h7A rfl rfl rfl ?_;rw [hL])|(refine djA rfl rfl rfl ?_;rw [hH])|refine obA rfl qsA rfl rfl rfl rfl ?_|(refine oC 157 ?_;refine bcA (f:=157) rfl rfl rfl rfl rfl  (.pred (euA w.heap.size 105 (alA (two h2A p (doA L H'))))) (by intro u1 u2 u3 w e hu1 hu2 hu3;(try obtain rfl:u1=_:=hu1);(try obtain rfl:u2=_:=hu2);(try obtain rfl:u3=_:=hu3);exact (r7A h2A _ t6A rfl _ _ _ p (doA L H') hp hsc (OwnI.slI hu1) (by rw [er];exact Own.slC hu2)).mono (avA e.size rfl)) ?_)|refine yO ?_|(refine yC ?_ ?_<;>intro hc)|(refine yV ?_;first|(refine oC 158 ?_;refine a1A (f:=158) rfl rfl rfl  (.pred (axA w.heap.size 3 .i64 (aeA (chg p) 65537))) (by intro u1 w e hu1;(try obtain rfl:u1=_:=hu1);exact (row_of _ _ p hp (h.ext e)).mono (a6A e.size)) ?_))|(refine yN hK ?_;clear hK K))|refine wG ?_|(refine yR ?_;intro K hK)|fail)
  exact aiA rfl rfl (Ext.refl _) (λ _ _ _ h=>h)
theorem gzA {a:List Rn} {f m:Int}:cmA (a++[(f,m)])=cmA a++[.int .u16 f,.int .u16 m]:=by rw [h4A];rfl
theorem last_at {cur:Array Value} {a:List Rn} {f m:Int} (h:cur.toList.take ((a++[(f,m)]).length*2)=cmA (a++[(f,m)])):cur[a.length*2+1]?=some (.int .u16 m):=by
 rw [gzA,List.length_append] at h;have h1:=congrArg (λ l=>l[a.length*2+1]?) h;simp only [List.getElem?_take] at h1;rw [if_pos (by simp;omega),List.getElem?_append_right (by rw [dsA];omega),dsA,show a.length*2+1-a.length*2=1 by omega] at h1;rw [← Array.getElem?_toList,h1];rfl
theorem OwnR.bump {base e b cap:Nat} {w:World} {cur:Array Value} {a:List Rn} {f m:Int} (hb:base≤b) (hg:w.heap[b]?=some (.cells cur e (0,0))) (hnc:(a++[(f,m)]).length≤cap) (hm:cap≤maxLen) (hsz:cur.size=cap*2) (ht:cur.toList.take ((a++[(f,m)]).length*2)=cmA (a++[(f,m)])) (c:Int) :
 OwnR base e (w.setRow b (cur.setIfInBounds (a.length*2+1) (.int .u16 c))) (.slice (some ⟨b,0,none⟩) (a++[(f,m)]).length cap) (a++[(f,c)]):=by
 have hl:(a++[(f,c)]).length=(a++[(f,m)]).length:=by simp
 unfold OwnR;rw [hl];refine ⟨by rw [dsA,hl],.inr ⟨b,cap,cur.setIfInBounds (a.length*2+1) (.int .u16 c),rfl,hb,setRow_heap w b cur _ e _ hg,hnc,hm,by simpa using hsz,?_⟩⟩;rw [Array.toList_setIfInBounds,List.take_set,ht,gzA,gzA,List.set_append_right _ _ (by rw [dsA];omega),dsA,show a.length*2+1-a.length*2=1 by omega];rfl
def Tk (xs:List Int):Nat→Nat
 | 0=>0
 | k+1=>(xs.getD k 0).toNat+1
theorem quA {xs:List Int} (h:Inc xs) (hl:Low xs) {k:Nat} (hk:k<xs.length):Tk xs k≤(xs.getD k 0).toNat∧(∀ z,Tk xs k≤z→z<(xs.getD k 0).toNat→bxA xs z=false)∧bxA xs (xs.getD k 0).toNat=true:=by
 have hb:∀ j,j<xs.length→0≤xs.getD j 0∧xs.getD j 0<65536:=λ j hj=>by rw [bbA hj];exact hl _ (List.getElem_mem hj)
 have hlt:∀ i j,i<j→j<xs.length→xs.getD i 0<xs.getD j 0:=λ i j hij hj=>by
  rw [bbA hj,bbA oZ];exact List.pairwise_iff_getElem.1 h i j oZ hj hij
 refine ⟨?_,λ z h1 h2=>?_,?_⟩
 ·cases k with
  | zero=>exact Nat.zero_le _
  | succ k=>have:=hlt k (k+1) oZ hk;have:=hb k oZ;simp only [Tk];omega
 ·unfold bxA
  refine decide_eq_false λ hm=>?_
  obtain ⟨j,hj,he⟩:=List.getElem_of_mem hm;have he':xs.getD j 0=z:=by rw [bbA hj];exact he
  rcases Nat.lt_or_ge j k with h3|h3
  ·obtain ⟨k',rfl⟩:∃ k',k=k'+1:=⟨k-1,by omega⟩
   simp only [Tk] at h1
   rcases Nat.lt_or_ge j k' with h4|h4
   ·have:=hlt j k' h4 oZ;have:=hb k' oZ;omega
   ·obtain rfl:j=k':=oZ
    omega
  ·rcases Nat.lt_or_ge k j with h4|h4
   ·have:=hlt k j h4 hj;have:=hb k hk;omega
   ·obtain rfl:j=k:=oZ
    omega
 ·unfold bxA
  have:=hb k hk;rw [show (((xs.getD k 0).toNat:Nat):Int)=xs.getD k 0 by omega];exact decide_eq_true (by rw [bbA hk];exact List.getElem_mem hk)
theorem vgA (w:World) (v:Value) (xs:List Int) (h:SlI .u16 w v xs) (hi:Inc xs) (hl:Low xs):Fc Tryz.prog 95 #[v] w (Ret w (.pred (euA w.heap.size 105 (alA (bxA xs))))):=by
 have hlen:=h.len;refine Fc.of (args:=[_]) Tryz.func95 rfl rfl Tryz.ntmps95 nZ ?_
 repeat' (first|(refine yL ?_;first|refine a0A rfl ?_|refine yO ?_|(refine yC ?_ ?_<;>intro hc)|(refine yN hK ?_;clear hK K))|refine wG ?_|(refine yR ?_;intro K hK)|fail)
 refine aaA (ι:=Nat × Value) (λ i=>[(0,.val v),(3,.val i.2),(6,.val v),(7,.val (.int .i64 xs.length)),(8,.val (.int .i64 i.1))]) (λ i w'=>Ext w w'∧i.1≤xs.length∧OwnR w.heap.size 105 w' i.2 (opn (bxA xs) (Tk xs i.1))) (λ i=>xs.length-i.1)
  (λ w2 e2=>⟨(0,.slice none 0 0),⟨e2,Nat.zero_le _,OwnR.nil⟩,sZ⟩) ?_
 rintro ⟨k,so⟩ w1 ⟨he,hk,ho⟩;dsimp only at hk ho ⊢;have h1:=h.ext he
 by_cases hkl:k<xs.length
 ·obtain ⟨g1,g2,g3⟩:=quA hi hl hkl
  have hxb:0≤xs.getD k 0∧xs.getD k 0<65536:=by rw [bbA hkl];exact hl _ (List.getElem_mem hkl)
  obtain ⟨X,hX⟩:=Int.eq_ofNat_of_zero_le hxb.1;have hXb:X<65536:=oZ;have hTs:Tk xs (k+1)=X+1:=by simp only [Tk];rw [hX];rfl
  rw [hX,Int.toNat_natCast] at g1 g2 g3;have hof:=fuA X g1 g2;rw [← hof] at ho
  by_cases hA:0<k∧Tk xs k=X
  ·obtain ⟨j,rfl⟩:∃ j,k=j+1:=⟨k-1,by omega⟩
   have hjb:0≤xs.getD j 0∧xs.getD j 0<65536:=by rw [bbA oZ];exact hl _ (List.getElem_mem _)
   have hjX:xs.getD j 0+1=X:=by have:=hA.2;simp only [Tk] at this;omega
   have hji:(((j+1:Nat):Int)-1)=(j:Int):=oZ;obtain ⟨Y,rfl⟩:∃ Y,X=Y+1:=⟨X-1,by omega⟩;have hbl:bel (bxA xs) (Y+1)=true:=by
    show bxA xs Y=true
    have:=(quA hi hl (k:=j) oZ).2.2;rwa [show (xs.getD j 0).toNat=Y by omega] at this
   have hfl:=g5A (bxA xs) (Y+1) hbl;rw [fdA hbl] at ho;have hnew:=f1A g3 hbl;obtain ⟨f,hf⟩:∃ f:Int,f=frm (bxA xs) (Y+1):=⟨_,rfl⟩;obtain ⟨a,ha⟩:∃ a,a=rnC (bxA xs) (Y+1):=⟨_,rfl⟩;obtain ⟨m,hm⟩:∃ m:Int,m=((Y+1:Nat):Int)-f-1:=⟨_,rfl⟩;rw [← hf,← ha,← hm] at ho;rw [← hf,← ha,show ((Y+1:Nat):Int)-f=m+1 by omega,← hTs] at hnew;have hal:a.length≤Y+1:=ha▸k3A _ _;have hfb:0≤f∧f<Y+1:=oZ;obtain ⟨gb,cap,cur,rfl,hgb,hgc,hgn,hgm,hgs,hgt⟩:=ho.row (by simp);have hra:=last_at hgt;have hln:((a++[(f,m)]).length:Int)=(a.length:Int)+1:=by simp
   have hlN:(a++[(f,m)]).length=a.length+1:=by simp
   repeat' (first|(refine yL ?_;first|refine a0A rfl ?_|(refine oD 19 ?_;refine afA rfl rfl rfl fZ ?_;rw [hji])|(refine oD 12 ?_;refine j1A rfl (λ _=>rfl) rfl ?_;rw [hX])|(refine oD 27 ?_;refine c8A rfl _ rfl rfl (HasR.ownV ho) ?_;rw [hln])|(refine oD 28 ?_;refine afA rfl rfl rfl fZ ?_;rw [Int.add_sub_cancel])|(refine oD 29 ?_;refine biA (s:=2) rfl rfl (λ _=>rfl) rfl rfl oZ oZ ?_;rw [Int.toNat_natCast])|(refine oD 33 ?_;refine biA (s:=2) rfl rfl (λ _=>rfl) rfl rfl oZ oZ ?_;rw [Int.toNat_natCast])|(refine oF 1 ?_;refine a2A (a:=⟨gb,0+a.length*2,none⟩) (a':=⟨gb,a.length*2+1,none⟩) rfl rfl (λ w=>by rw [Nat.zero_add];rfl) ?_)|(refine oD 31 ?_;refine a7A rfl (λ _=>rfl) rfl hgc hra ?_)|(refine a3A (hK _ _ (bhA rfl rfl rfl hgc (λ _=>rfl) oZ rfl rfl (λ w4 e4=>?_)));clear hK K;dsimp only [vals];refine abA kZ (λ K hK=>?_))|refine yO ?_|(refine yC ?_ ?_<;>intro hc)|(refine yN hK ?_;clear hK K))|refine wG ?_|(refine yR ?_;intro K hK)|fail)
   refine a4A (j+1+1,_) (λ w5 e5=>⟨((he.trans e4).setRow hgb _).trans e5,hkl,?_⟩) eZ sZ;dsimp only;rw [hnew];exact OwnR.ext (OwnR.bump hgb (e4.block hgc) hgn hgm hgs hgt (m+1)) e5
  ·have hbl:bel (bxA xs) X=false:=by
    cases X with
    | zero=>rfl
    | succ Y =>
      show bxA xs Y=false
      cases k with
      | zero=>exact g2 Y (Nat.zero_le _) oZ
      | succ j=>exact g2 Y (by have:¬ Tk xs (j+1)=Y+1:=λ e=>hA ⟨by omega,e⟩;omega) oZ
   have hnew:=g6A g3 hbl;rw [← hTs] at hnew;have hol:(opn (bxA xs) X).length≤X:=by rw [dwA];exact cnt_le _ _
   by_cases hk0:0<k
   ·obtain ⟨j,rfl⟩:∃ j,k=j+1:=⟨k-1,by omega⟩
    have hjb:0≤xs.getD j 0∧xs.getD j 0<65536:=by rw [bbA oZ];exact hl _ (List.getElem_mem _)
    have hjX:¬ (X:Int)=xs.getD j 0+1:=λ e=>hA ⟨by omega,by simp only [Tk];omega⟩
    have hjl:xs.getD j 0+1≤X:=by have:=g1;simp only [Tk] at this;omega
    have hji:(((j+1:Nat):Int)-1)=(j:Int):=oZ
    repeat' (first|(refine yL ?_;first|refine a0A rfl ?_|(refine oD 19 ?_;refine afA rfl rfl rfl fZ ?_;rw [hji])|(refine oD 12 ?_;refine j1A rfl (λ _=>rfl) rfl ?_;rw [hX])|refine ezA (c:=pbA X 0) rfl rfl (λ w=>run_build w _ _ _ kZ) ?_|refine e6A rfl g2A rfl rfl dZ ?_|(refine a3A (hK _ _ (eyA rfl dZ g2A rfl ho rfl oZ oZ he (λ v' w' he' ho'=>?_)));clear hK K;dsimp only [vals];refine abA kZ (λ K hK=>?_))|refine yO ?_|(refine yC ?_ ?_<;>intro hc)|(refine yN hK ?_;clear hK K))|refine wG ?_|(refine yR ?_;intro K hK)|fail)
    exact a4A (j+1+1,v') (λ w5 e5=>⟨he'.trans e5,hkl,by dsimp only;rw [hnew];exact ho'.ext e5⟩) eZ sZ
   ·obtain rfl:k=0:=oZ
    repeat' (first|(refine yL ?_;first|refine a0A rfl ?_|(refine oD 12 ?_;refine j1A rfl (λ _=>rfl) rfl ?_;rw [hX])|refine ezA (c:=pbA X 0) rfl rfl (λ w=>run_build w _ _ _ kZ) ?_|refine e6A rfl g2A rfl rfl dZ ?_|(refine a3A (hK _ _ (eyA rfl dZ g2A rfl ho rfl oZ oZ he (λ v' w' he' ho'=>?_)));clear hK K;dsimp only [vals];refine abA kZ (λ K hK=>?_))|refine yO ?_|(refine yC ?_ ?_<;>intro hc)|(refine yN hK ?_;clear hK K))|refine wG ?_|(refine yR ?_;intro K hK)|fail)
    exact a4A (0+1,v') (λ w5 e5=>⟨he'.trans e5,hkl,by dsimp only;rw [hnew];exact ho'.ext e5⟩) eZ sZ
 ·obtain rfl:k=xs.length:=oZ
  have hend:opn (bxA xs) (Tk xs xs.length)=alA (bxA xs):=by
   have hT:Tk xs xs.length≤65536:=by
    cases hxl:xs.length with
    | zero=>exact Nat.zero_le _
    | succ j =>
      have:0≤xs.getD j 0∧xs.getD j 0<65536:=by rw [bbA oZ];exact hl _ (List.getElem_mem _)
      simp only [Tk];omega
   unfold alA;refine (fuA 65536 hT λ z h1 h2=>?_).symm;unfold bxA;refine decide_eq_false λ hm=>?_
   obtain ⟨j,hj,hej⟩:=List.getElem_of_mem hm;cases hxl:xs.length with
   | zero=>omega
   | succ n =>
     rw [hxl] at h1 hj;simp only [Tk] at h1;have e1:xs.getD j 0=z:=by rw [bbA oZ];exact hej
     rcases Nat.lt_or_ge j n with h4|h4
     ·have:=List.pairwise_iff_getElem.1 hi j n oZ oZ h4
      rw [← bbA oZ,← bbA oZ] at this;omega
     ·obtain rfl:j=n:=oZ
      omega
  rw [hend] at ho
  repeat' (first|(refine yL ?_;first|refine a0A rfl ?_|refine yO ?_|(refine yC ?_ ?_<;>intro hc)|(refine yN hK ?_;clear hK K))|refine wG ?_|(refine yR ?_;intro K hK)|fail)
  exact aiA rfl rfl he (λ u w5 e5 hu'=>by obtain rfl:u=_:=hu';exact ho.ext e5)
theorem t4A (f:Int):pcA f (-1)=[]:=by simp [pcA]
theorem mdA {w w':World} {b:Nat} {row:Option Nat} {o:Obj} (h:w.grownBy w' row) (hb:w.heap[b]?=some o) (hne:row≠some b):w'.heap[b]?=some o:=by
 rw [h.block b (Array.getElem?_eq_some_iff.1 hb).1 (λ e=>hne e.symm)];exact hb
theorem t5A (w:World) (v:Value) (rs:List Rn) (h:SlR w v rs) (hu:U16 rs) (hr:Right rs) (hn:rs.length≤70000):Fc Tryz.prog 129 #[v] w (Ret w (.pred (axA w.heap.size 31 .u16 (f2A rs)))):=by
 have hlen:=h.len;refine Fc.of (args:=[_]) Tryz.func129 rfl rfl Tryz.ntmps129 nZ ?_
 repeat' (first|(refine yL ?_;first|refine a0A rfl ?_|(refine oI ?_;refine boA rfl _ rfl (λ _=>rfl) rfl jZ rfl oZ ?_)|(refine oLt 105 ?_;refine atA rfl (λ _=>rfl) (λ _=>rfl) rfl ?_)|(show LA _ _ _ _ (⟨some 99,.alloc _,_,_,_,_⟩::_) _;refine a3A (hK _ _ (crA rfl rfl dZ (λ _=>rfl) (λ _=>rfl) (λ _=>rfl) rfl (by intro u hu;simp [Value.cells] at hu;rcases hu with rfl|rfl <;> rfl) (λ bx wx ex hbx hbc=>?_)));clear hK K;refine abA kZ (λ K hK=>?_))|(refine oF 0 ?_;refine a2A (a:=⟨bx,0,none⟩) (a':=⟨bx,0,none⟩) rfl rfl (λ _=>rfl) ?_)|(refine oF 1 ?_;refine a2A (a:=⟨bx,0,none⟩) (a':=⟨bx,1,none⟩) rfl rfl (λ _=>rfl) ?_)|(refine oLt 105 ?_;refine c7A rfl (λ _=>rfl) (λ _=>rfl) rfl hbc ?_)|(refine oLt 31 ?_;refine a7A rfl (λ _=>rfl) rfl hbc rfl ?_)|(refine d3A ?_;refine c8A rfl _ rfl rfl jZ ?_)|refine yO ?_|(refine yC ?_ ?_<;>intro hc)|(refine yN hK ?_;clear hK K))|refine wG ?_|(refine yR ?_;intro K hK)|fail)
 refine aaA (ι:=Nat × Value) (λ i=>[(3,.val i.2),(7,.val v),(8,.val (.int .i64 rs.length)),(9,.val (.int .i64 i.1))]) (λ i w'=>Ext w w'∧i.1≤rs.length∧OwnI w.heap.size 31 .u16 w' i.2 (f2A (rs.take i.1))) (λ i=>rs.length-i.1)
  (λ w2 e2=>⟨(0,.slice none 0 0),⟨e2,Nat.zero_le _,OwnI.nil⟩,sZ⟩) ?_
 rintro ⟨k,so⟩ w1 ⟨he,hk,ho⟩;dsimp only at hk ho ⊢;have h1:=h.ext he
 by_cases hkl:k<rs.length
 ·obtain ⟨u1,u2,u3,u4⟩:=hu.at k
  obtain ⟨-,hr2⟩:=hr k hkl;have hlk:((f2A (rs.take k)).length:Int)=lcA (rs.take k):=lbA _ (λ x hx=>(hu x (List.mem_of_mem_take hx)).2.2.1);have hb:=i2A (λ x=>x.2+1) 65536 (λ x h1 h2=>⟨by omega,by omega⟩) hu k hk;have hb:0≤lcA (rs.take k)∧lcA (rs.take k)≤65536*k:=hb;obtain ⟨LK,hLK⟩:∃ LK,LK=(f2A (rs.take k)).length:=⟨_,rfl⟩;have hLKb:LK≤65536*70000:=oZ;clear hlk hb;obtain ⟨F,hF⟩:=Int.eq_ofNat_of_zero_le u1;obtain ⟨M,hM⟩:=Int.eq_ofNat_of_zero_le u3;rw [hF] at u2 hr2;rw [hM] at u4 hr2;have hmin:min ((F:Int)+M+1) 65536=(F:Int)+M+1:=oZ
  repeat' (first|(refine yL ?_;first|refine a0A rfl ?_|(refine oD 12 ?_;refine atA rfl (λ _=>rfl) (λ _=>rfl) rfl ?_;rw [hF,hM])|(refine oI ?_;refine boA rfl _ rfl (λ _=>rfl) rfl jZ rfl oZ ?_)|(refine oLt 105 ?_;refine atA rfl (λ _=>rfl) (λ _=>rfl) rfl ?_)|(show LA _ _ _ _ (⟨some 5,.alloc _,_,_,_,_⟩::_) _;refine a3A (hK _ _ (crA rfl rfl dZ (λ _=>rfl) (λ _=>rfl) (λ _=>rfl) rfl (by intro u hu;simp [Value.cells] at hu;rcases hu with rfl|rfl <;> rfl) (λ bx wx ex hbx hbc=>?_)));clear hK K;refine abA kZ (λ K hK=>?_))|(refine oF 0 ?_;refine a2A (a:=⟨bx,0,none⟩) (a':=⟨bx,0,none⟩) rfl rfl (λ _=>rfl) ?_)|(refine oF 1 ?_;refine a2A (a:=⟨bx,0,none⟩) (a':=⟨bx,1,none⟩) rfl rfl (λ _=>rfl) ?_)|(refine oLt 105 ?_;refine c7A rfl (λ _=>rfl) (λ _=>rfl) rfl hbc ?_)|(refine oLt 31 ?_;refine a7A rfl (λ _=>rfl) rfl hbc rfl ?_)|(refine d3A ?_;refine c8A rfl _ rfl rfl jZ ?_)|refine yO ?_|(refine yC ?_ ?_<;>intro hc)|(refine yN hK ?_;clear hK K))|refine wG ?_|(refine yR ?_;intro K hK)|fail)
  have ho5:=ho.ext ex;have x5:=he.trans ex
  refine aaA (ι:=Nat × Value) (λ i=>[(3,.val i.2),(5,.val (.pointer (some ⟨bx,0,none⟩))),(6,.val (.int .i64 ((F:Int)+i.1))),(7,.val v),(8,.val (.int .i64 rs.length)),(9,.val (.int .i64 k))])
   (λ i w'=>Ext w w'∧i.1≤M+1∧OwnI w.heap.size 31 .u16 w' i.2 (f2A (rs.take k)++pcA F ((i.1:Int)-1))∧w'.heap[bx]?=some (.cells (pbA F M).cells 105 (0,0))) (λ i=>M+1-i.1)
   (λ w2 e2=>⟨(0,so),⟨x5.trans e2,Nat.zero_le _,by dsimp only;rw [show (((0:Nat):Int)-1)=-1 from rfl,t4A,List.append_nil];exact ho5.ext e2,e2.block hbc⟩,by dsimp only;rw [show (F:Int)+((0:Nat):Int)=F by omega];exact sZ⟩) ?_
  rintro ⟨j,sj⟩ w6 ⟨he6,hj6,ho6,hbc6⟩;dsimp only at hj6 ho6 hbc6 ⊢;have hrl:(f2A (rs.take k)++pcA F ((j:Int)-1)).length=LK+j:=by rw [List.length_append,naA,← hLK];omega
  have hne:sj.ownBlock≠some bx:=λ e=>by
   rcases ho6.2 with ⟨e0,-⟩|⟨g,cap,cur,e0,-,hg,-⟩
   ·rw [e0] at e;cases e
   ·rw [e0] at e
    have:g=bx:=by simpa [Value.ownBlock] using e
    subst this;rw [hbc6] at hg;simp only [Option.some.injEq,Obj.cells.injEq] at hg;exact absurd hg.2.1 dZ
  by_cases hjl:j<M+1
  ·have hsucc:=l2A F j
   repeat' (first|(refine yL ?_;first|refine a0A rfl ?_|(refine djA rfl rfl rfl ?_;rw [hmin])|(refine oLt 105 ?_;refine c7A rfl (λ _=>rfl) (λ _=>rfl) rfl hbc6 ?_)|refine ftA rfl h9A rfl rfl ?_|(refine a3A (hK _ _ (d4A rfl dZ h9A rfl ho6 rfl HasC.pred (by intro u hu9;simp at hu9;subst hu9;rfl) (by rw [hrl];unfold maxLen;omega) (by rw [hrl];omega) he6.size (λ v' w7 w8 e7 ho8 hg8=>?_)));clear hK K;dsimp only [vals];refine abA kZ (λ K hK=>?_))|refine yO ?_|(refine yC ?_ ?_<;>intro hc)|(refine yV ?_;first|(refine oC 177 ?_;refine a1A (f:=177) rfl rfl rfl  (.val (.int .i64 ((F:Int)+M+1))) (by intro u1 w e hu1;(try obtain rfl:u1=_:=hu1);exact r4A _ F M ⟨by omega,by omega⟩ ⟨by omega,by omega⟩) ?_))|(refine yN hK ?_;clear hK K))|refine wG ?_|(refine yR ?_;intro K hK)|fail)
   refine a4A (j+1,v') (λ w9 e9=>⟨((he6.trans e7).grown hg8 (λ q hq=>(Own.lt ho6 q hq).1)).trans e9,by dsimp only;omega,?_,e9.block (mdA hg8 (e7.block hbc6) hne)⟩) eZ sZ;dsimp only;rw [show (((j+1:Nat):Int)-1)=(j:Int) by omega,hsucc,← List.append_assoc];refine OwnI.ext ?_ e9;unfold OwnI;rw [List.map_append,List.length_append];exact ho8
  ·obtain rfl:j=M+1:=oZ
   repeat' (first|(refine yL ?_;first|refine a0A rfl ?_|(refine djA rfl rfl rfl ?_;rw [hmin])|(refine oLt 105 ?_;refine c7A rfl (λ _=>rfl) (λ _=>rfl) rfl hbc6 ?_)|refine yO ?_|(refine yC ?_ ?_<;>intro hc)|(refine yV ?_;first|(refine oC 177 ?_;refine a1A (f:=177) rfl rfl rfl  (.val (.int .i64 ((F:Int)+M+1))) (by intro u1 w e hu1;(try obtain rfl:u1=_:=hu1);exact r4A _ F M ⟨by omega,by omega⟩ ⟨by omega,by omega⟩) ?_))|(refine yN hK ?_;clear hK K))|refine wG ?_|(refine yR ?_;intro K hK)|fail)
   refine a4A (k+1,sj) (λ w9 e9=>⟨he6.trans e9,hkl,?_⟩) eZ sZ;dsimp only;rw [geA hkl,fmA,hF,hM];have hlr:f2A [((F:Int),(M:Int))]=pcA F M:=by simp [f2A]
   rw [hlr];rw [show (((M+1:Nat):Int)-1)=(M:Int) by omega] at ho6;exact ho6.ext e9
 ·obtain rfl:k=rs.length:=oZ
  rw [List.take_length] at ho
  repeat' (first|(refine yL ?_;first|refine a0A rfl ?_|refine yO ?_|(refine yC ?_ ?_<;>intro hc)|(refine yN hK ?_;clear hK K))|refine wG ?_|(refine yR ?_;intro K hK)|fail)
  exact aiA rfl rfl he (λ u w5 e5 hu'=>by obtain rfl:u=_:=hu';exact ho.ext e5)
end Go.Proofs.YtbokphkfojijoaaGreatDoor
end
section
namespace Go.Proofs.YtbokphkfojijoaaGreatDoor
open Go.LA Go.ArrP Go.RowKit
variable {A:Nat→Prop}
def nilS:Value:=.slice none 0 0
def OwnA (A:Nat→Prop) (e:Nat) (k:IntKind) (w:World) (v:Value) (xs:List Int):Prop:=OwnI 0 e k w v xs∧∀ b,v.ownBlock=some b→A b
theorem OwnA.ext {e:Nat} {k:IntKind} {w w':World} {v:Value} {xs:List Int} (h:OwnA A e k w v xs) (x:Ext w w'):OwnA A e k w' v xs:=⟨h.1.ext x,h.2⟩
theorem OwnA.slI {e:Nat} {k:IntKind} {w:World} {v:Value} {xs:List Int} (h:OwnA A e k w v xs):SlI k w v xs:=h.1.slI
def Fsh (A:Nat→Prop) (w:World):Prop:=∀ k,w.heap.size≤k→A k
theorem Fsh.ext {w w':World} (h:Fsh A w) (e:Ext w w'):Fsh A w':=λ k hk=>h k (Nat.le_trans e.size hk)
def TT:Nat→Prop:=λ _=>True
theorem tt {w:World}:Fsh TT w:=λ _ _=>trivial
def Cn (A:Nat→Prop) (w:World) (v:Value) (p:Nat→Bool) (kk:Int):Prop :=
 p 65536=false ∧
 ((kk=1∧∃ kd va,(kd=0∨kd=1)∧v=.agg #[.int .u8 kd,va,.slice none 0 0,.slice none 0 0]∧OwnA A 31 .u16 w va (aeA p 65536)) ∨
  (kk=2∧∃ vw,v=.agg #[.int .u8 2,.slice none 0 0,vw,.slice none 0 0]∧OwnI 0 61 .u64 w vw (wordsOf p)) ∨
  (kk=3∧∃ vr,v=.agg #[.int .u8 3,.slice none 0 0,.slice none 0 0,vr]∧OwnR 0 105 w vr (alA p)))
theorem Cn.ext {w w':World} {v:Value} {p:Nat→Bool} {kk:Int} (h:Cn A w v p kk) (e:Ext w w'):Cn A w' v p kk:=by
 obtain ⟨hp,h|h|h⟩:=h
 ·obtain ⟨h1,kd,va,h2,h3,h4⟩:=h;exact ⟨hp,.inl ⟨h1,kd,va,h2,h3,h4.ext e⟩⟩
 ·obtain ⟨h1,vw,h3,h4⟩:=h;exact ⟨hp,.inr (.inl ⟨h1,vw,h3,h4.ext e⟩)⟩
 ·obtain ⟨h1,vr,h3,h4⟩:=h;exact ⟨hp,.inr (.inr ⟨h1,vr,h3,h4.ext e⟩)⟩
def cnP (A:Nat→Prop) (p:Nat→Bool) (kk:Int):AV:=⟨λ v w=>Cn A w v p kk,λ _ _ _ e h=>h.ext e⟩
theorem Cn.setRow {w:World} {v:Value} {p:Nat→Bool} {kk:Int} (h:Cn A w v p kk) {b:Nat} {cur:Array Value} {e:TypeId} {j:Nat × Nat} (hb:w.heap[b]?=some (.cells cur e j)) (he:31≠e∧61≠e∧105≠e) (cs:Array Value):Cn A (w.setRow b cs) v p kk:=by
 obtain ⟨hp,h|h|h⟩:=h
 ·obtain ⟨h1,kd,va,h2,h3,h4⟩:=h;exact ⟨hp,.inl ⟨h1,kd,va,h2,h3,Own.setRow h4.1 _ (Own.apart h4.1 hb he.1),h4.2⟩⟩
 ·obtain ⟨h1,vw,h3,h4⟩:=h;exact ⟨hp,.inr (.inl ⟨h1,vw,h3,Own.setRow h4 _ (Own.apart h4 hb he.2.1)⟩)⟩
 ·obtain ⟨h1,vr,h3,h4⟩:=h;exact ⟨hp,.inr (.inr ⟨h1,vr,h3,Own.setRow h4 _ (Own.apart h4 hb he.2.2)⟩)⟩
theorem Cn.arr {w:World} {va:Value} {p:Nat→Bool} {base:Nat} (hp:p 65536=false) {xs:List Int} (hx:xs=aeA p 65536) (h:OwnI base 31 .u16 w va xs) (hA:∀ k,base≤k→A k):Cn A w (.agg #[.int .u8 1,va,.slice none 0 0,.slice none 0 0]) p 1 :=
 ⟨hp,.inl ⟨rfl,1,va,.inr rfl,rfl,hx▸Own.base h (Nat.zero_le _),λ k hk=>hA k (Own.lt h k hk).1⟩⟩
theorem Cn.wrd {w:World} {vw:Value} {p:Nat→Bool} {base:Nat} (hp:p 65536=false) {xs:List Int} (hx:xs=wordsOf p) (h:OwnI base 61 .u64 w vw xs) (hA:∀ k,base≤k→A k):Cn A w (.agg #[.int .u8 2,.slice none 0 0,vw,.slice none 0 0]) p 2 :=
 ⟨hp,.inr (.inl ⟨rfl,vw,rfl,hx▸Own.base h (Nat.zero_le _)⟩)⟩
theorem Cn.rns {w:World} {vr:Value} {p:Nat→Bool} {base:Nat} (hp:p 65536=false) {xs:List Rn} (hx:xs=alA p) (h:OwnR base 105 w vr xs) (hA:∀ k,base≤k→A k):Cn A w (.agg #[.int .u8 3,.slice none 0 0,.slice none 0 0,vr]) p 3 :=
 ⟨hp,.inr (.inr ⟨rfl,vr,rfl,hx▸Own.base h (Nat.zero_le _)⟩)⟩
theorem Cn.zero {w:World}:Cn A w (.agg #[.int .u8 0,.slice none 0 0,.slice none 0 0,.slice none 0 0]) (λ _=>false) 1 :=
 ⟨rfl,.inl ⟨rfl,0,_,.inl rfl,rfl,by rw [flA (λ _=>false) (a:=0) 65536 dZ (λ _ _ _=>rfl)];exact ⟨OwnI.nil,λ _ h=>by cases h⟩⟩⟩
theorem Cn.parts {w:World} {v:Value} {p:Nat→Bool} {kk:Int} (h:Cn A w v p kk):∃ kd va vw vr,v=.agg #[.int .u8 kd,va,vw,vr]∧max kd 1=kk∧0≤kd∧kd≤3∧kk=max kd 1∧1≤kk∧kk≤3∧(∀ u ∈ (Value.agg #[.int .u8 kd,va,vw,vr]).cells.toList,u.oneCell'=true):=by
 obtain ⟨hp,h|h|h⟩:=h
 ·obtain ⟨h1,kd,va,h2,h3,h4⟩:=h
  refine ⟨kd,va,_,_,h3,by omega,by omega,by omega,by omega,by omega,by omega,λ u hu=>?_⟩;simp only [Value.cells,List.mem_cons,List.not_mem_nil,or_false] at hu
  rcases hu with rfl|rfl|rfl|rfl
  ·rfl
  ·exact OwnI.one h4.1
  ·rfl
  ·rfl
 ·obtain ⟨h1,vw,h3,h4⟩:=h
  refine ⟨2,_,vw,_,h3,by omega,by omega,by omega,by omega,by omega,by omega,λ u hu=>?_⟩;simp only [Value.cells,List.mem_cons,List.not_mem_nil,or_false] at hu
  rcases hu with rfl|rfl|rfl|rfl
  ·rfl
  ·rfl
  ·exact OwnI.one h4
  ·rfl
 ·obtain ⟨h1,vr,h3,h4⟩:=h
  refine ⟨3,_,_,vr,h3,by omega,by omega,by omega,by omega,by omega,by omega,λ u hu=>?_⟩;simp only [Value.cells,List.mem_cons,List.not_mem_nil,or_false] at hu
  rcases hu with rfl|rfl|rfl|rfl
  ·rfl
  ·rfl
  ·rfl
  ·obtain ⟨a,c,hv⟩:=(OwnR.slR h4).isSlice
   rw [hv];rfl
def qlA (c:Nat):Int:=if c≤4096 then 2*(c:Int) else 8192
def apA (p:Nat→Bool):Int:=if 2+4*(cnt (arA p) 65536:Int)<qlA (cnt p 65536) then 3 else if cnt p 65536≤4096 then 1 else 2
theorem Cn.congr {w:World} {v:Value} {p q:Nat→Bool} {kk:Int} (h:Cn A w v p kk) (hq:q 65536=false) (e:∀ i,i<65536→p i=q i):Cn A w v q kk:=by
 obtain ⟨hp,h⟩:=h;rw [dqA 65536 e,b0A e,f0A e] at h;exact ⟨hq,h⟩
end Go.Proofs.YtbokphkfojijoaaGreatDoor
end
section
namespace Go.Proofs.YtbokphkfojijoaaGreatDoor
open Go.LA Go.ArrP Go.RowKit
variable {A:Nat→Prop}
theorem c5A:El Tryz.prog 27 31 (.int .u16 0) 1 2:=⟨rfl,rfl,rfl,by decide⟩
theorem rhA (w:World) (v:Value) (n:Nat) (cs:List Value) (h:SlC w v n 1 cs) (h1:∀ u ∈ cs,u.oneCell'=true) (hb:n*2≤140737488355328):Fc Tryz.prog 99 #[v] w (Ret w (.pred (j6A w.heap.size 31 1 n cs))):=by
 obtain ⟨h0,a,cap,rfl,hc,hm,hn,hcs⟩:=id h;have hlen:=h.len;cases a with
 | none =>
   obtain rfl:=hn rfl;obtain rfl:n=0:=oZ;obtain rfl:cs=[]:=List.eq_nil_of_length_eq_zero oZ;refine Fc.of (args:=[_]) Tryz.func99 rfl rfl Tryz.ntmps99 nZ ?_
   repeat' (first|(refine yL ?_;first|refine a0A rfl ?_|refine bsA (c:=.bool true) rfl rfl rfl (λ _=>rfl) ?_|refine yO ?_|(refine yC ?_ ?_<;>intro hc)|(refine yN hK ?_;clear hK K))|refine wG ?_|(refine yR ?_;intro K hK)|(refine oPX ?_;first|exact aiA rfl rfl (Ext.refl _) (λ u w2 e2 hu=>by obtain rfl:u=_:=hu;exact Own.nil))|fail)
 | some a =>
   refine Fc.of (args:=[_]) Tryz.func99 rfl rfl Tryz.ntmps99 nZ ?_
   repeat' (first|(refine yL ?_;first|refine a0A rfl ?_|refine bsA (c:=.bool false) rfl rfl rfl (λ _=>rfl) ?_|refine ksA 31 (s:=1) rfl (λ _=>by kernel_rfl) ?_|(refine a3A (hK _ _ (awA 5 rfl (λ v5 w5 e5 h5=>?_)));clear hK K;have h6:=h.ext e5;have ho:Own w.heap.size _ _ w5 v5 0 []:=h5;refine abA kZ (λ K hK=>?_))|(refine a3A (hK _ _ (d4A rfl dZ c5A rfl ho rfl (HasC.val h6) h1 (by rw [Nat.zero_add];unfold maxLen;omega) (by rw [Nat.zero_add];exact hb) e5.size (λ v' w2 w3 he2 ho3 hg3=>?_)));clear hK K;dsimp only [vals];refine abA kZ (λ K hK=>?_))|refine yO ?_|(refine yC ?_ ?_<;>intro hc)|(refine yN hK ?_;clear hK K))|refine wG ?_|(refine yR ?_;intro K hK)|fail)
   exact aiA rfl rfl ((e5.trans he2).grown hg3 (λ q hq=>(Own.lt ho q hq).1)) (λ u w4 e4 hu=>by
    obtain rfl:u=_:=hu;have h9:Own w.heap.size 31 1 w3 u n cs:=by simpa using ho3
    exact h9.ext e4)
theorem zmA:El Tryz.prog 93 61 (.int .u64 0) 1 8:=⟨rfl,rfl,rfl,by decide⟩
theorem rfA (w:World) (v:Value) (n:Nat) (cs:List Value) (h:SlC w v n 1 cs) (h1:∀ u ∈ cs,u.oneCell'=true) (hb:n*8≤140737488355328):Fc Tryz.prog 132 #[v] w (Ret w (.pred (j6A w.heap.size 61 1 n cs))):=by
 obtain ⟨h0,a,cap,rfl,hc,hm,hn,hcs⟩:=id h;have hlen:=h.len;cases a with
 | none =>
   obtain rfl:=hn rfl;obtain rfl:n=0:=oZ;obtain rfl:cs=[]:=List.eq_nil_of_length_eq_zero oZ;refine Fc.of (args:=[_]) Tryz.func132 rfl rfl Tryz.ntmps132 nZ ?_
   repeat' (first|(refine yL ?_;first|refine a0A rfl ?_|refine bsA (c:=.bool true) rfl rfl rfl (λ _=>rfl) ?_|refine yO ?_|(refine yC ?_ ?_<;>intro hc)|(refine yN hK ?_;clear hK K))|refine wG ?_|(refine yR ?_;intro K hK)|(refine oPX ?_;first|exact aiA rfl rfl (Ext.refl _) (λ u w2 e2 hu=>by obtain rfl:u=_:=hu;exact Own.nil))|fail)
 | some a =>
   refine Fc.of (args:=[_]) Tryz.func132 rfl rfl Tryz.ntmps132 nZ ?_
   repeat' (first|(refine yL ?_;first|refine a0A rfl ?_|refine bsA (c:=.bool false) rfl rfl rfl (λ _=>rfl) ?_|refine ksA 61 (s:=1) rfl (λ _=>by kernel_rfl) ?_|(refine a3A (hK _ _ (awA 5 rfl (λ v5 w5 e5 h5=>?_)));clear hK K;have h6:=h.ext e5;have ho:Own w.heap.size _ _ w5 v5 0 []:=h5;refine abA kZ (λ K hK=>?_))|(refine a3A (hK _ _ (d4A rfl dZ zmA rfl ho rfl (HasC.val h6) h1 (by rw [Nat.zero_add];unfold maxLen;omega) (by rw [Nat.zero_add];exact hb) e5.size (λ v' w2 w3 he2 ho3 hg3=>?_)));clear hK K;dsimp only [vals];refine abA kZ (λ K hK=>?_))|refine yO ?_|(refine yC ?_ ?_<;>intro hc)|(refine yN hK ?_;clear hK K))|refine wG ?_|(refine yR ?_;intro K hK)|fail)
   exact aiA rfl rfl ((e5.trans he2).grown hg3 (λ q hq=>(Own.lt ho q hq).1)) (λ u w4 e4 hu=>by
    obtain rfl:u=_:=hu;have h9:Own w.heap.size 61 1 w3 u n cs:=by simpa using ho3
    exact h9.ext e4)
theorem fnA {w:World} {v:Value} {p:Nat→Bool} {kk:Int} (h:Cn A w v p kk):Fc Tryz.prog 63 #[v] w (Ret w (.val (.int .u8 kk))):=by
 obtain ⟨kd,va,vw,vr,rfl,-,h1,h2,rfl,-⟩:=h.parts;refine Fc.of (args:=[_]) Tryz.func63 rfl rfl Tryz.ntmps63 nZ ?_
 repeat' (first|(refine yL ?_;first|refine a0A rfl ?_|refine eqA ?_|(refine h7A rfl rfl rfl ?_)|refine yO ?_|(refine yC ?_ ?_<;>intro hc)|(refine yN hK ?_;clear hK K))|refine wG ?_|(refine yR ?_;intro K hK)|fail)
 all_goals exact ajA rfl rfl (Ext.refl _) rfl
theorem ufA {w:World} {va vw vr:Value} {kd:Int} {xs:List Int} (h:SlI .u16 w va xs):Fc Tryz.prog 100 #[.agg #[.int .u8 kd,va,vw,vr]] w (Ret w (.val (.int .i64 xs.length))):=by
 have hl:=h.len;refine Fc.of (args:=[_]) Tryz.func100 rfl rfl Tryz.ntmps100 nZ ?_
 repeat' (first|(refine yL ?_;first|refine a0A rfl ?_|refine eqA ?_|refine yO ?_|(refine yC ?_ ?_<;>intro hc)|(refine yN hK ?_;clear hK K))|refine wG ?_|(refine yR ?_;intro K hK)|fail)
 all_goals exact ajA rfl rfl (Ext.refl _) rfl
theorem soA {w:World} {va vw vr:Value} {kd:Int} {p:Nat→Bool} (h:SlI .u64 w vw (wordsOf p)):Fc Tryz.prog 101 #[.agg #[.int .u8 kd,va,vw,vr]] w (Ret w (.val (.int .i64 (cnt p 65536)))):=by
 refine Fc.of (args:=[_]) Tryz.func101 rfl rfl Tryz.ntmps101 nZ ?_
 repeat' (first|(refine yL ?_;first|refine a0A rfl ?_|refine eqA ?_|refine yO ?_|(refine yC ?_ ?_<;>intro hc)|(refine yV ?_;first|(refine oC 130 ?_;refine a1A (f:=130) rfl rfl rfl  (.val (.int .i64 (cnt p 65536))) (by intro u1 w e hu1;(try obtain rfl:u1=_:=hu1);exact wlenP _ _ p (h.ext e)) ?_))|(refine yN hK ?_;clear hK K))|refine wG ?_|(refine yR ?_;intro K hK)|fail)
 all_goals exact ajA rfl rfl (Ext.refl _) rfl
theorem szA {w:World} {va vw vr:Value} {kd:Int} {p:Nat→Bool} (h:SlR w vr (alA p)):Fc Tryz.prog 102 #[.agg #[.int .u8 kd,va,vw,vr]] w (Ret w (.val (.int .i64 (cnt p 65536)))):=by
 have hl:lcA (alA p)=cnt p 65536:=mbA p 65536;rw [← hl];have hn:(alA p).length≤70000:=by have:=ddA p;omega
 refine Fc.of (args:=[_]) Tryz.func102 rfl rfl Tryz.ntmps102 nZ ?_
 repeat' (first|(refine yL ?_;first|refine a0A rfl ?_|refine eqA ?_|refine yO ?_|(refine yC ?_ ?_<;>intro hc)|(refine yV ?_;first|(refine oC 131 ?_;refine a1A (f:=131) rfl rfl rfl  (.val (.int .i64 (lcA (alA p)))) (by intro u1 w e hu1;(try obtain rfl:u1=_:=hu1);exact wkA _ _ (alA p) (h.ext e) (dvA p) hn) ?_))|(refine yN hK ?_;clear hK K))|refine wG ?_|(refine yR ?_;intro K hK)|fail)
 all_goals exact ajA rfl rfl (Ext.refl _) rfl
theorem idA {w:World} {v:Value} {p:Nat→Bool} {kk:Int} (h:Cn A w v p kk):Fc Tryz.prog 65 #[v] w (Ret w (.val (.int .i64 (cnt p 65536)))):=by
 have hk:∀ w',Ext w w'→_:=λ w' e=>fnA (h.ext e)
 have hll:=ayA p 65536;obtain ⟨hp,⟨rfl,kd,va,hkd,rfl,ho⟩|⟨rfl,vw,rfl,ho⟩|⟨rfl,vr,rfl,ho⟩⟩:=h
 ·skip
  refine Fc.of (args:=[_]) Tryz.func65 rfl rfl Tryz.ntmps65 nZ ?_
  repeat' (first|(refine yL ?_;first|refine a0A rfl ?_|refine eqA ?_|refine gtA (c:=.agg #[.nilFunc,.func (.func 100) #[] #[],.func (.func 101) #[] #[],.func (.func 102) #[] #[]]) rfl rfl rfl rfl (λ _=>by kernel_rfl) ?_|(refine j2A 1 (c:=.func (.func 100) #[] #[]) rfl rfl (λ _=>rfl) rfl rfl rfl dZ (λ _=>by kernel_rfl) ?_)|refine yO ?_|(refine yC ?_ ?_<;>intro hc)|(refine yV ?_;first|(refine oC 63 ?_;refine a1A (f:=63) rfl rfl rfl _ (by intro u1 w' e hu1;obtain rfl:u1=_:=hu1;exact hk w' e) ?_)|(refine a1A (f:=100) rfl rfl rfl (.val (.int .i64 (cnt p 65536))) (by intro u1 w' e hu1;obtain rfl:u1=_:=hu1;exact by rw [← hll];exact ufA (ho.ext e).slI) ?_))|(refine yN hK ?_;clear hK K))|refine wG ?_|(refine yR ?_;intro K hK)|fail)
  all_goals exact ajA rfl rfl (Ext.refl _) rfl
 ·skip
  refine Fc.of (args:=[_]) Tryz.func65 rfl rfl Tryz.ntmps65 nZ ?_
  repeat' (first|(refine yL ?_;first|refine a0A rfl ?_|refine eqA ?_|refine gtA (c:=.agg #[.nilFunc,.func (.func 100) #[] #[],.func (.func 101) #[] #[],.func (.func 102) #[] #[]]) rfl rfl rfl rfl (λ _=>by kernel_rfl) ?_|(refine j2A 2 (c:=.func (.func 101) #[] #[]) rfl rfl (λ _=>rfl) rfl rfl rfl dZ (λ _=>by kernel_rfl) ?_)|refine yO ?_|(refine yC ?_ ?_<;>intro hc)|(refine yV ?_;first|(refine oC 63 ?_;refine a1A (f:=63) rfl rfl rfl _ (by intro u1 w' e hu1;obtain rfl:u1=_:=hu1;exact hk w' e) ?_)|(refine a1A (f:=101) rfl rfl rfl (.val (.int .i64 (cnt p 65536))) (by intro u1 w' e hu1;obtain rfl:u1=_:=hu1;exact soA (ho.ext e).slI) ?_))|(refine yN hK ?_;clear hK K))|refine wG ?_|(refine yR ?_;intro K hK)|fail)
  all_goals exact ajA rfl rfl (Ext.refl _) rfl
 ·skip
  refine Fc.of (args:=[_]) Tryz.func65 rfl rfl Tryz.ntmps65 nZ ?_
  repeat' (first|(refine yL ?_;first|refine a0A rfl ?_|refine eqA ?_|refine gtA (c:=.agg #[.nilFunc,.func (.func 100) #[] #[],.func (.func 101) #[] #[],.func (.func 102) #[] #[]]) rfl rfl rfl rfl (λ _=>by kernel_rfl) ?_|(refine j2A 3 (c:=.func (.func 102) #[] #[]) rfl rfl (λ _=>rfl) rfl rfl rfl dZ (λ _=>by kernel_rfl) ?_)|refine yO ?_|(refine yC ?_ ?_<;>intro hc)|(refine yV ?_;first|(refine oC 63 ?_;refine a1A (f:=63) rfl rfl rfl _ (by intro u1 w' e hu1;obtain rfl:u1=_:=hu1;exact hk w' e) ?_)|(refine a1A (f:=102) rfl rfl rfl (.val (.int .i64 (cnt p 65536))) (by intro u1 w' e hu1;obtain rfl:u1=_:=hu1;exact szA (ho.ext e).slR) ?_))|(refine yN hK ?_;clear hK K))|refine wG ?_|(refine yR ?_;intro K hK)|fail)
  all_goals exact ajA rfl rfl (Ext.refl _) rfl
end Go.Proofs.YtbokphkfojijoaaGreatDoor
end
