import Derived.ChangeSame
import Derived.ChangeSlices
import Derived.Test.YtlnaebejmjmepaaGreatDoorM5
import Derived.Test.YtlnaebejmjmepaaGreatDoorM8
set_option linter.unusedSimpArgs false
set_option linter.unusedVariables false
set_option maxRecDepth 3000
set_option maxHeartbeats 16000000
section
namespace Go.Proofs.YtlnaebejmjmepaaGreatDoor
open Go.LA Go.ArrP Go.RowKit
theorem jgA:El Tryz.prog 30 79 (q0A 0 0) 2 4:=⟨rfl,rfl,rfl,by decide⟩
theorem r7A:El Tryz.prog 154 3 (.int .i64 0) 1 8:=⟨rfl,rfl,rfl,by decide⟩
theorem p1A (w:World) (f m:Int) (hf:0≤f∧f<65536) (hm:0≤m∧m<65536):Fc Tryz.prog 78 #[q0A f m] w (Ret w (.val (.int .i64 (f+m+1)))):=by
 refine Fc.of (args:=[_]) Tryz.func78 rfl rfl Tryz.ntmps78 nZ ?_
 repeat' (first|(refine yL ?_;first|refine a0A rfl ?_|refine j3A rfl rfl ?_|(refine oD 3 ?_;refine a4A (hK _ _ (bkA 1 rfl (λ v1 w1 e1 h1=>?_)));clear hK K;obtain ⟨bx,hbx,rfl,hbc⟩:=h1;refine aiA kZ (λ K hK=>?_))|(refine oI ?_;refine azA rfl _ rfl (λ _=>rfl) rfl jZ rfl oZ ?_)|(refine oLt 79 ?_;refine akA rfl (λ _=>rfl) (λ _=>rfl) rfl ?_)|(show LA _ _ _ _ (⟨some 99,.alloc _,_,_,_,_⟩::_) _;refine a4A (hK _ _ (c5A rfl rfl dZ (λ _=>rfl) (λ _=>rfl) (λ _=>rfl) rfl (by intro u hu;simp [Value.cells] at hu;rcases hu with rfl|rfl <;> rfl) (λ bx wx ex hbx hbc=>?_)));clear hK K;refine aiA kZ (λ K hK=>?_))|(refine oF 0 ?_;refine a1A (a:=⟨bx,0,none⟩) (a':=⟨bx,0,none⟩) rfl rfl (λ _=>rfl) ?_)|(refine oF 1 ?_;refine a1A (a:=⟨bx,0,none⟩) (a':=⟨bx,1,none⟩) rfl rfl (λ _=>rfl) ?_)|(refine oLt 79 ?_;refine b2A rfl (λ _=>rfl) (λ _=>rfl) rfl hbc ?_)|(refine oLt 40 ?_;refine a5A rfl (λ _=>rfl) rfl hbc rfl ?_)|(refine c7A ?_;refine btA rfl _ rfl rfl jZ ?_)|refine yO ?_|(refine yC ?_ ?_<;>intro hc)|(refine yN hK ?_;clear hK K))|refine wG ?_|(refine yR ?_;intro K hK)|fail)
 exact a9A rfl rfl e1 rfl
theorem xpA {rs:List Rn} (hu:U16 rs) (k:Nat) (hk:k<rs.length) (hr:∀ j,j<k→lst rs j≤fst rs j∧fst rs j+mor rs j+1≤65536):0≤lst rs k∧lst rs k≤65537:=by
 cases k with
 | zero=>simp [lst]
 | succ k=>have:=hr k oZ;have:=hu.at k;simp only [lst];omega
theorem xoA (w:World) (v:Value) (rs:List Rn) (h:SlR w v rs) (hu:U16 rs):Fc Tryz.prog 43 #[v] w (Ret w (.val (.bool (decide (Right rs))))):=by
 have hlen:=h.len;refine Fc.of (args:=[_]) Tryz.func43 rfl rfl Tryz.ntmps43 nZ ?_
 repeat' (first|(refine yL ?_;first|refine a0A rfl ?_|(refine oI ?_;refine azA rfl _ rfl (λ _=>rfl) rfl jZ rfl oZ ?_)|(refine oLt 79 ?_;refine akA rfl (λ _=>rfl) (λ _=>rfl) rfl ?_)|(show LA _ _ _ _ (⟨some 99,.alloc _,_,_,_,_⟩::_) _;refine a4A (hK _ _ (c5A rfl rfl dZ (λ _=>rfl) (λ _=>rfl) (λ _=>rfl) rfl (by intro u hu;simp [Value.cells] at hu;rcases hu with rfl|rfl <;> rfl) (λ bx wx ex hbx hbc=>?_)));clear hK K;refine aiA kZ (λ K hK=>?_))|(refine oF 0 ?_;refine a1A (a:=⟨bx,0,none⟩) (a':=⟨bx,0,none⟩) rfl rfl (λ _=>rfl) ?_)|(refine oF 1 ?_;refine a1A (a:=⟨bx,0,none⟩) (a':=⟨bx,1,none⟩) rfl rfl (λ _=>rfl) ?_)|(refine oLt 79 ?_;refine b2A rfl (λ _=>rfl) (λ _=>rfl) rfl hbc ?_)|(refine oLt 40 ?_;refine a5A rfl (λ _=>rfl) rfl hbc rfl ?_)|(refine c7A ?_;refine btA rfl _ rfl rfl jZ ?_)|refine yO ?_|(refine yC ?_ ?_<;>intro hc)|(refine yN hK ?_;clear hK K))|refine wG ?_|(refine yR ?_;intro K hK)|fail)
 refine agA (ι:=Nat) (λ k=>[(0,.val v),(3,.val (.int .i64 (lst rs k))),(6,.val v),(7,.val (.int .i64 rs.length)),(8,.val (.int .i64 k))]) (λ k w'=>Ext w w'∧k≤rs.length∧∀ j,j<k→lst rs j≤fst rs j∧fst rs j+mor rs j+1≤65536) (λ k=>rs.length-k) (λ w2 e2=>⟨0,⟨e2,Nat.zero_le _,λ j hj=>by omega⟩,sZ⟩) ?_
 rintro k w1 ⟨he,hk,hr⟩;have h1:=h.ext he
 by_cases hkl:k<rs.length
 ·obtain ⟨u1,u2,u3,u4⟩:=hu.at k
  have hl:=xpA hu k hkl hr;have hls:lst rs (k+1)=fst rs k+mor rs k+2:=rfl;obtain ⟨F,hF⟩:∃ F,F=fst rs k:=⟨_,rfl⟩;obtain ⟨M,hM⟩:∃ M,M=mor rs k:=⟨_,rfl⟩
  by_cases hok:lst rs k≤fst rs k∧fst rs k+mor rs k+1≤65536
  ·skip
   repeat' (first|(refine yL ?_;first|refine a0A rfl ?_|(refine oI ?_;refine azA rfl _ rfl (λ _=>rfl) rfl jZ rfl oZ ?_)|(refine oLt 79 ?_;refine akA rfl (λ _=>rfl) (λ _=>rfl) rfl ?_)|(show LA _ _ _ _ (⟨some 5,.alloc _,_,_,_,_⟩::_) _;refine a4A (hK _ _ (c5A rfl rfl dZ (λ _=>rfl) (λ _=>rfl) (λ _=>rfl) rfl (by intro u hu;simp [Value.cells] at hu;rcases hu with rfl|rfl <;> rfl) (λ bx wx ex hbx hbc=>?_)));clear hK K;refine aiA kZ (λ K hK=>?_))|(refine oF 0 ?_;refine a1A (a:=⟨bx,0,none⟩) (a':=⟨bx,0,none⟩) rfl rfl (λ _=>rfl) ?_)|(refine oF 1 ?_;refine a1A (a:=⟨bx,0,none⟩) (a':=⟨bx,1,none⟩) rfl rfl (λ _=>rfl) ?_)|(refine oLt 79 ?_;refine b2A rfl (λ _=>rfl) (λ _=>rfl) rfl hbc ?_)|(refine oLt 40 ?_;refine a5A rfl (λ _=>rfl) rfl hbc rfl ?_)|(refine c7A ?_;refine btA rfl _ rfl rfl jZ ?_)|refine yO ?_|(refine yC ?_ ?_<;>intro hc)|(refine yV ?_;first|(refine oC 78 ?_;refine a2A (f:=78) rfl rfl rfl  (.val (.int .i64 (fst rs k+mor rs k+1))) (by intro u1 w e hu1;(try obtain rfl:u1=_:=hu1);exact p1A _ (fst rs k) (mor rs k) ⟨u1,u2⟩ ⟨u3,u4⟩) ?_))|(refine yN hK ?_;clear hK K))|refine wG ?_|(refine yR ?_;intro K hK)|fail)
   refine a6A (k+1) (λ w5 e5=>⟨he.trans (ex.trans e5),hkl,λ j hj=>?_⟩) oZ (by rw [hls];exact sZ)
   by_cases e:j=k
   ·subst e;exact hok
   ·exact hr j oZ
  ·have hno:decide (Right rs)=false:=decide_eq_false (λ h=>hok (h k hkl))
   rw [hno]
   by_cases h2:fst rs k<lst rs k
   all_goals
    repeat' (first|(refine yL ?_;first|refine a0A rfl ?_|(refine oI ?_;refine azA rfl _ rfl (λ _=>rfl) rfl jZ rfl oZ ?_)|(refine oLt 79 ?_;refine akA rfl (λ _=>rfl) (λ _=>rfl) rfl ?_)|(show LA _ _ _ _ (⟨some 5,.alloc _,_,_,_,_⟩::_) _;refine a4A (hK _ _ (c5A rfl rfl dZ (λ _=>rfl) (λ _=>rfl) (λ _=>rfl) rfl (by intro u hu;simp [Value.cells] at hu;rcases hu with rfl|rfl <;> rfl) (λ bx wx ex hbx hbc=>?_)));clear hK K;refine aiA kZ (λ K hK=>?_))|(refine oF 0 ?_;refine a1A (a:=⟨bx,0,none⟩) (a':=⟨bx,0,none⟩) rfl rfl (λ _=>rfl) ?_)|(refine oF 1 ?_;refine a1A (a:=⟨bx,0,none⟩) (a':=⟨bx,1,none⟩) rfl rfl (λ _=>rfl) ?_)|(refine oLt 79 ?_;refine b2A rfl (λ _=>rfl) (λ _=>rfl) rfl hbc ?_)|(refine oLt 40 ?_;refine a5A rfl (λ _=>rfl) rfl hbc rfl ?_)|(refine c7A ?_;refine btA rfl _ rfl rfl jZ ?_)|refine yO ?_|(refine yC ?_ ?_<;>intro hc)|(refine yV ?_;first|(refine oC 78 ?_;refine a2A (f:=78) rfl rfl rfl  (.val (.int .i64 (fst rs k+mor rs k+1))) (by intro u1 w e hu1;(try obtain rfl:u1=_:=hu1);exact p1A _ (fst rs k) (mor rs k) ⟨u1,u2⟩ ⟨u3,u4⟩) ?_))|(refine yN hK ?_;clear hK K))|refine wG ?_|(refine yR ?_;intro K hK)|(refine oPX ?_;first|exact a9A rfl rfl (he.trans ex) rfl)|fail)
 ·obtain rfl:k=rs.length:=oZ
  rw [decide_eq_true (show Right rs from hr)]
  repeat' (first|(refine yL ?_;first|refine a0A rfl ?_|refine yO ?_|(refine yC ?_ ?_<;>intro hc)|(refine yN hK ?_;clear hK K))|refine wG ?_|(refine yR ?_;intro K hK)|fail)
  exact a9A rfl rfl he rfl
theorem juA (g:Rn→Int) {rs:List Rn} {k:Nat} (hk:k<rs.length):j7A g (rs.take (k+1))=j7A g (rs.take k)+g (fst rs k,mor rs k):=by
 rw [gjA hk,diA];simp [j7A]
theorem gkA (g:Rn→Int) (B:Int) (hB:∀ x,0≤x.2→x.2<65536→0≤g x∧g x≤B) {rs:List Rn} (hu:U16 rs):∀ k,k≤rs.length→0≤j7A g (rs.take k)∧j7A g (rs.take k)≤B*k
 | 0,_=>by simp [j7A]
 | k+1,hk=>by
   have ih:=gkA g B hB hu k oZ;obtain ⟨u1,u2,u3,u4⟩:=hu.at k;have:=hB (fst rs k,mor rs k) u3 u4;rw [juA g oZ,Int.natCast_succ,Int.mul_add];omega
theorem xqA (w:World) (v:Value) (rs:List Rn) (h:SlR w v rs) (hu:U16 rs) (hn:rs.length≤70000):Fc Tryz.prog 117 #[v] w (Ret w (.val (.int .i64 (jcA rs)))):=by
 have hlen:=h.len;refine Fc.of (args:=[_]) Tryz.func117 rfl rfl Tryz.ntmps117 nZ ?_
 repeat' (first|(refine yL ?_;first|refine a0A rfl ?_|(refine oI ?_;refine azA rfl _ rfl (λ _=>rfl) rfl jZ rfl oZ ?_)|(refine oLt 79 ?_;refine akA rfl (λ _=>rfl) (λ _=>rfl) rfl ?_)|(show LA _ _ _ _ (⟨some 99,.alloc _,_,_,_,_⟩::_) _;refine a4A (hK _ _ (c5A rfl rfl dZ (λ _=>rfl) (λ _=>rfl) (λ _=>rfl) rfl (by intro u hu;simp [Value.cells] at hu;rcases hu with rfl|rfl <;> rfl) (λ bx wx ex hbx hbc=>?_)));clear hK K;refine aiA kZ (λ K hK=>?_))|(refine oF 0 ?_;refine a1A (a:=⟨bx,0,none⟩) (a':=⟨bx,0,none⟩) rfl rfl (λ _=>rfl) ?_)|(refine oF 1 ?_;refine a1A (a:=⟨bx,0,none⟩) (a':=⟨bx,1,none⟩) rfl rfl (λ _=>rfl) ?_)|(refine oLt 79 ?_;refine b2A rfl (λ _=>rfl) (λ _=>rfl) rfl hbc ?_)|(refine oLt 40 ?_;refine a5A rfl (λ _=>rfl) rfl hbc rfl ?_)|(refine c7A ?_;refine btA rfl _ rfl rfl jZ ?_)|refine yO ?_|(refine yC ?_ ?_<;>intro hc)|(refine yN hK ?_;clear hK K))|refine wG ?_|(refine yR ?_;intro K hK)|fail)
 refine agA (ι:=Nat) (λ k=>[(3,.val (.int .i64 (jcA (rs.take k)))),(6,.val v),(7,.val (.int .i64 rs.length)),(8,.val (.int .i64 k))]) (λ k w'=>Ext w w'∧k≤rs.length) (λ k=>rs.length-k) (λ w2 e2=>⟨0,⟨e2,Nat.zero_le _⟩,sZ⟩) ?_
 rintro k w1 ⟨he,hk⟩;have h1:=h.ext he
 by_cases hkl:k<rs.length
 ·obtain ⟨u1,u2,u3,u4⟩:=hu.at k
  have hb:=gkA (λ x=>x.2+1) 65536 (λ x h1 h2=>⟨by omega,by omega⟩) hu k hk;have hs:jcA (rs.take (k+1))=jcA (rs.take k)+(mor rs k+1):=juA _ hkl;have hb:0≤jcA (rs.take k)∧jcA (rs.take k)≤65536*k:=hb
  repeat' (first|(refine yL ?_;first|refine a0A rfl ?_|(refine oI ?_;refine azA rfl _ rfl (λ _=>rfl) rfl jZ rfl oZ ?_)|(refine oLt 79 ?_;refine akA rfl (λ _=>rfl) (λ _=>rfl) rfl ?_)|(show LA _ _ _ _ (⟨some 5,.alloc _,_,_,_,_⟩::_) _;refine a4A (hK _ _ (c5A rfl rfl dZ (λ _=>rfl) (λ _=>rfl) (λ _=>rfl) rfl (by intro u hu;simp [Value.cells] at hu;rcases hu with rfl|rfl <;> rfl) (λ bx wx ex hbx hbc=>?_)));clear hK K;refine aiA kZ (λ K hK=>?_))|(refine oF 0 ?_;refine a1A (a:=⟨bx,0,none⟩) (a':=⟨bx,0,none⟩) rfl rfl (λ _=>rfl) ?_)|(refine oF 1 ?_;refine a1A (a:=⟨bx,0,none⟩) (a':=⟨bx,1,none⟩) rfl rfl (λ _=>rfl) ?_)|(refine oLt 79 ?_;refine b2A rfl (λ _=>rfl) (λ _=>rfl) rfl hbc ?_)|(refine oLt 40 ?_;refine a5A rfl (λ _=>rfl) rfl hbc rfl ?_)|(refine c7A ?_;refine btA rfl _ rfl rfl jZ ?_)|refine yO ?_|(refine yC ?_ ?_<;>intro hc)|(refine yN hK ?_;clear hK K))|refine wG ?_|(refine yR ?_;intro K hK)|fail)
  refine a6A (k+1) (λ w5 e5=>⟨he.trans (ex.trans e5),hkl⟩) oZ (by rw [hs];exact sZ)
 ·obtain rfl:k=rs.length:=oZ
  rw [List.take_length]
  repeat' (first|(refine yL ?_;first|refine a0A rfl ?_|refine yO ?_|(refine yC ?_ ?_<;>intro hc)|(refine yN hK ?_;clear hK K))|refine wG ?_|(refine yR ?_;intro K hK)|fail)
  exact a9A rfl rfl he rfl
theorem tjA (w:World) (v:Value) (rs:List Rn) (x:Int) (h:SlR w v rs) (hu:U16 rs) (hn:rs.length≤70000) (hx:0≤x∧x<9223372036854775808):Fc Tryz.prog 165 #[v,.int .i64 x] w (Ret w (.val (.int .i64 (j9A rs x)))):=by
 have hlen:=h.len;refine Fc.of (args:=[_,_]) Tryz.func165 rfl rfl Tryz.ntmps165 nZ ?_
 repeat' (first|(refine yL ?_;first|refine a0A rfl ?_|(refine oI ?_;refine azA rfl _ rfl (λ _=>rfl) rfl jZ rfl oZ ?_)|(refine oLt 79 ?_;refine akA rfl (λ _=>rfl) (λ _=>rfl) rfl ?_)|(show LA _ _ _ _ (⟨some 99,.alloc _,_,_,_,_⟩::_) _;refine a4A (hK _ _ (c5A rfl rfl dZ (λ _=>rfl) (λ _=>rfl) (λ _=>rfl) rfl (by intro u hu;simp [Value.cells] at hu;rcases hu with rfl|rfl <;> rfl) (λ bx wx ex hbx hbc=>?_)));clear hK K;refine aiA kZ (λ K hK=>?_))|(refine oF 0 ?_;refine a1A (a:=⟨bx,0,none⟩) (a':=⟨bx,0,none⟩) rfl rfl (λ _=>rfl) ?_)|(refine oF 1 ?_;refine a1A (a:=⟨bx,0,none⟩) (a':=⟨bx,1,none⟩) rfl rfl (λ _=>rfl) ?_)|(refine oLt 79 ?_;refine b2A rfl (λ _=>rfl) (λ _=>rfl) rfl hbc ?_)|(refine oLt 40 ?_;refine a5A rfl (λ _=>rfl) rfl hbc rfl ?_)|(refine c7A ?_;refine btA rfl _ rfl rfl jZ ?_)|refine yO ?_|(refine yC ?_ ?_<;>intro hc)|(refine yN hK ?_;clear hK K))|refine wG ?_|(refine yR ?_;intro K hK)|fail)
 refine agA (ι:=Nat) (λ k=>[(1,.val (.int .i64 x)),(5,.val (.int .i64 (j9A (rs.take k) x))),(8,.val v),(9,.val (.int .i64 rs.length)),(10,.val (.int .i64 k))]) (λ k w'=>Ext w w'∧k≤rs.length) (λ k=>rs.length-k) (λ w2 e2=>⟨0,⟨e2,Nat.zero_le _⟩,sZ⟩) ?_
 rintro k w1 ⟨he,hk⟩;have h1:=h.ext he
 by_cases hkl:k<rs.length
 ·obtain ⟨u1,u2,u3,u4⟩:=hu.at k
  have hb:=gkA (λ y=>min (max (x-y.1) 0) (y.2+1)) 65536 (λ x h1 h2=>⟨by omega,by omega⟩) hu k hk;have hs:j9A (rs.take (k+1)) x=j9A (rs.take k) x+min (max (x-fst rs k) 0) (mor rs k+1):=juA _ hkl;have hb:0≤j9A (rs.take k) x∧j9A (rs.take k) x≤65536*k:=hb
  repeat' (first|(refine yL ?_;first|refine a0A rfl ?_|refine f7A rfl rfl rfl ?_|refine cwA rfl rfl rfl ?_|(refine oI ?_;refine azA rfl _ rfl (λ _=>rfl) rfl jZ rfl oZ ?_)|(refine oLt 79 ?_;refine akA rfl (λ _=>rfl) (λ _=>rfl) rfl ?_)|(show LA _ _ _ _ (⟨some 7,.alloc _,_,_,_,_⟩::_) _;refine a4A (hK _ _ (c5A rfl rfl dZ (λ _=>rfl) (λ _=>rfl) (λ _=>rfl) rfl (by intro u hu;simp [Value.cells] at hu;rcases hu with rfl|rfl <;> rfl) (λ bx wx ex hbx hbc=>?_)));clear hK K;refine aiA kZ (λ K hK=>?_))|(refine oF 0 ?_;refine a1A (a:=⟨bx,0,none⟩) (a':=⟨bx,0,none⟩) rfl rfl (λ _=>rfl) ?_)|(refine oF 1 ?_;refine a1A (a:=⟨bx,0,none⟩) (a':=⟨bx,1,none⟩) rfl rfl (λ _=>rfl) ?_)|(refine oLt 79 ?_;refine b2A rfl (λ _=>rfl) (λ _=>rfl) rfl hbc ?_)|(refine oLt 40 ?_;refine a5A rfl (λ _=>rfl) rfl hbc rfl ?_)|(refine c7A ?_;refine btA rfl _ rfl rfl jZ ?_)|refine yO ?_|(refine yC ?_ ?_<;>intro hc)|(refine yN hK ?_;clear hK K))|refine wG ?_|(refine yR ?_;intro K hK)|fail)
  refine a6A (k+1) (λ w5 e5=>⟨he.trans (ex.trans e5),hkl⟩) oZ (by rw [hs];exact sZ)
 ·obtain rfl:k=rs.length:=oZ
  rw [List.take_length]
  repeat' (first|(refine yL ?_;first|refine a0A rfl ?_|refine yO ?_|(refine yC ?_ ?_<;>intro hc)|(refine yN hK ?_;clear hK K))|refine wG ?_|(refine yR ?_;intro K hK)|fail)
  exact a9A rfl rfl he rfl
theorem q3A {rs:List Rn} {k:Nat} (hk:k<rs.length):naA (rs.take (k+1))=naA (rs.take k)++[fst rs k,fst rs k+mor rs k+1]:=by
 rw [gjA hk,jzA];rfl
theorem row_c (w:World) (v:Value) (rs:List Rn) (h:SlR w v rs) (hu:U16 rs) (hn:rs.length≤70000):Fc Tryz.prog 136 #[v] w (Ret w (.pred (bnA w.heap.size 3 .i64 (naA rs)))):=by
 have hlen:=h.len;refine Fc.of (args:=[_]) Tryz.func136 rfl rfl Tryz.ntmps136 nZ ?_
 repeat' (first|(refine yL ?_;first|refine a0A rfl ?_|(refine oI ?_;refine azA rfl _ rfl (λ _=>rfl) rfl jZ rfl oZ ?_)|(refine oLt 79 ?_;refine akA rfl (λ _=>rfl) (λ _=>rfl) rfl ?_)|(show LA _ _ _ _ (⟨some 99,.alloc _,_,_,_,_⟩::_) _;refine a4A (hK _ _ (c5A rfl rfl dZ (λ _=>rfl) (λ _=>rfl) (λ _=>rfl) rfl (by intro u hu;simp [Value.cells] at hu;rcases hu with rfl|rfl <;> rfl) (λ bx wx ex hbx hbc=>?_)));clear hK K;refine aiA kZ (λ K hK=>?_))|(refine oF 0 ?_;refine a1A (a:=⟨bx,0,none⟩) (a':=⟨bx,0,none⟩) rfl rfl (λ _=>rfl) ?_)|(refine oF 1 ?_;refine a1A (a:=⟨bx,0,none⟩) (a':=⟨bx,1,none⟩) rfl rfl (λ _=>rfl) ?_)|(refine oLt 79 ?_;refine b2A rfl (λ _=>rfl) (λ _=>rfl) rfl hbc ?_)|(refine oLt 40 ?_;refine a5A rfl (λ _=>rfl) rfl hbc rfl ?_)|(refine c7A ?_;refine btA rfl _ rfl rfl jZ ?_)|refine yO ?_|(refine yC ?_ ?_<;>intro hc)|(refine yN hK ?_;clear hK K))|refine wG ?_|(refine yR ?_;intro K hK)|fail)
 refine agA (ι:=Nat × Value) (λ i=>[(3,.val i.2),(6,.val v),(7,.val (.int .i64 rs.length)),(8,.val (.int .i64 i.1))]) (λ i w'=>Ext w w'∧i.1≤rs.length∧OwnI w.heap.size 3 .i64 w' i.2 (naA (rs.take i.1))) (λ i=>rs.length-i.1) (λ w2 e2=>⟨(0,.slice none 0 0),⟨e2,Nat.zero_le _,OwnI.nil⟩,sZ⟩) ?_
 rintro ⟨k,so⟩ w1 ⟨he,hk,ho⟩;dsimp only at hk ho ⊢;have h1:=h.ext he
 by_cases hkl:k<rs.length
 ·obtain ⟨u1,u2,u3,u4⟩:=hu.at k
  have hl:=n9A (rs.take k);rw [List.length_take,Nat.min_eq_left hk] at hl
  repeat' (first|(refine yL ?_;first|refine a0A rfl ?_|(refine oD 3 ?_;refine jpA rfl rfl ?_)|refine oiA rfl r7A rfl rfl rfl rfl ?_|(refine a4A (hK _ _ rfl (cpA rfl dZ r7A rfl (ho.ext ex) rfl HasC.own (by intro u hu';simp at hu';rcases hu' with rfl|rfl <;> rfl) (by unfold maxLen;omega) oZ (Nat.le_trans he.size ex.size) (λ v' w' w'' e' ho' hg'=>?_)));clear hK K;dsimp only [vals];refine aiA kZ (λ K hK=>?_))|(refine oI ?_;refine azA rfl _ rfl (λ _=>rfl) rfl jZ rfl oZ ?_)|(refine oLt 79 ?_;refine akA rfl (λ _=>rfl) (λ _=>rfl) rfl ?_)|(show LA _ _ _ _ (⟨some 5,.alloc _,_,_,_,_⟩::_) _;refine a4A (hK _ _ (c5A rfl rfl dZ (λ _=>rfl) (λ _=>rfl) (λ _=>rfl) rfl (by intro u hu;simp [Value.cells] at hu;rcases hu with rfl|rfl <;> rfl) (λ bx wx ex hbx hbc=>?_)));clear hK K;refine aiA kZ (λ K hK=>?_))|(refine oF 0 ?_;refine a1A (a:=⟨bx,0,none⟩) (a':=⟨bx,0,none⟩) rfl rfl (λ _=>rfl) ?_)|(refine oF 1 ?_;refine a1A (a:=⟨bx,0,none⟩) (a':=⟨bx,1,none⟩) rfl rfl (λ _=>rfl) ?_)|(refine oLt 79 ?_;refine b2A rfl (λ _=>rfl) (λ _=>rfl) rfl hbc ?_)|(refine oLt 40 ?_;refine a5A rfl (λ _=>rfl) rfl hbc rfl ?_)|(refine c7A ?_;refine btA rfl _ rfl rfl jZ ?_)|refine yO ?_|(refine yC ?_ ?_<;>intro hc)|(refine yV ?_;first|(refine oC 78 ?_;refine a2A (f:=78) rfl rfl rfl  (.val (.int .i64 (fst rs k+mor rs k+1))) (by intro u1 w e hu1;(try obtain rfl:u1=_:=hu1);exact p1A _ (fst rs k) (mor rs k) ⟨u1,u2⟩ ⟨u3,u4⟩) ?_))|(refine yN hK ?_;clear hK K))|(refine oCX ?_;first|refine dxA 7 kZ kZ dZ (λ K hK=>?_))|refine wG ?_|(refine yR ?_;intro K hK)|fail)
  refine a6A (k+1,v') (λ w5 e5=>⟨(((he.trans ex).trans e').grown hg' (λ q hq=>(Own.lt ho q hq).1)).trans e5,hkl,?_⟩) eZ sZ;dsimp only;rw [q3A hkl];refine OwnI.ext ?_ e5;unfold OwnI;rw [List.map_append,List.length_append];exact ho'
 ·obtain rfl:k=rs.length:=oZ
  rw [List.take_length] at ho
  repeat' (first|(refine yL ?_;first|refine a0A rfl ?_|refine yO ?_|(refine yC ?_ ?_<;>intro hc)|(refine yN hK ?_;clear hK K))|refine wG ?_|(refine yR ?_;intro K hK)|fail)
  exact ajA rfl rfl he (λ u w5 e5 hu'=>by obtain rfl:u=_:=hu';exact ho.ext e5)
theorem mbA (p:Nat→Bool):∀ T,(rnC p T).length≤T
 | 0=>Nat.le_refl _
 | T+1=>by
   have:=mbA p T;simp only [rnC,List.length_append]
   split <;> simp <;> omega
theorem rxA (f m:Int) (w:World):(Instr.build 79 #[(0,.int .u16 f),(1,.int .u16 m)]).run Tryz.prog w=.ok (q0A f m) w:=run_build w _ _ _ kZ
theorem itA (F:Bool→Bool→Bool) (ft:FuncId) (hT:∀ x y w,Fc Tryz.prog ft #[.bool x,.bool y] w (Ret w (.val (.bool (F x y))))) (hF:F false false=false) (w:World) (va vb:Value) (p q:Nat→Bool) (hp:p 65536=false) (hq:q 65536=false)
 (ha:SlI .i64 w va (adA (chg p) 65537)) (hb:SlI .i64 w vb (adA (chg q) 65537)) :
 Fc Tryz.prog 135 #[va,vb,.func (.func ft) #[] #[]] w (Ret w (.pred (erA w.heap.size 79 (avA (two F p q))))):=by
 obtain ⟨P,hP⟩:∃ P,P=chg p:=⟨_,rfl⟩;obtain ⟨Q,hQ⟩:∃ Q,Q=chg q:=⟨_,rfl⟩;obtain ⟨G,hG⟩:∃ G,G=two F p q:=⟨_,rfl⟩;obtain ⟨A,hA⟩:∃ A,A=adA P 65537:=⟨_,rfl⟩;obtain ⟨B,hB⟩:∃ B,B=adA Q 65537:=⟨_,rfl⟩;have hlA:A.length=cnt P 65537:=by rw [hA,baA]
 have hlB:B.length=cnt Q 65537:=by rw [hB,baA]
 rw [← hP,← hA] at ha;rw [← hQ,← hB] at hb;rw [← hG];obtain ⟨na,hna⟩:∃ na,na=cnt P 65537:=⟨_,rfl⟩;obtain ⟨nb,hnb⟩:∃ nb,nb=cnt Q 65537:=⟨_,rfl⟩;rw [← hna] at hlA;rw [← hnb] at hlB;have hna2:na≤65537:=hna▸cnt_le P 65537;have hnb2:nb≤65537:=hnb▸cnt_le Q 65537;have Ae:∀ {i t:Nat},i<na→∃ x:Nat,x<65537∧P x=true∧cnt P x=i∧A.getD i 0=x∧(x≤t↔i<cnt P (t+1)):=λ {i t} hi=>by
  obtain ⟨x,h1,h2,h3,h4,h5⟩:=rhA P (n:=65537) (i:=i) (t:=t) (hna▸hi);exact ⟨x,h1,h2,h3,hA▸h4,h5⟩
 have Be:∀ {i t:Nat},i<nb→∃ x:Nat,x<65537∧Q x=true∧cnt Q x=i∧B.getD i 0=x∧(x≤t↔i<cnt Q (t+1)):=λ {i t} hi=>by
  obtain ⟨x,h1,h2,h3,h4,h5⟩:=rhA Q (n:=65537) (i:=i) (t:=t) (hnb▸hi);exact ⟨x,h1,h2,h3,hB▸h4,h5⟩
 have cA:∀ t,t≤65537→cnt P t≤na:=λ t ht=>hna▸cnt_mono P 65537 ht
 have cB:∀ t,t≤65537→cnt Q t≤nb:=λ t ht=>hnb▸cnt_mono Q 65537 ht
 have stA:∀ T t,T≤t→cnt P t=cnt P T→∀ x,T≤x→x<t→P x=false:=λ T t h1 h2=>o4A P t h1 h2
 have stB:∀ T t,T≤t→cnt Q t=cnt Q T→∀ x,T≤x→x<t→Q x=false:=λ T t h1 h2=>o4A Q t h1 h2
 have oddP:∀ t,cnt P (t+1) % 2=if p t then 1 else 0:=λ t=>hP▸mcA p (t+1)
 have oddQ:∀ t,cnt Q (t+1) % 2=if q t then 1 else 0:=λ t=>hQ▸mcA q (t+1)
 have chG:∀ x,P x=false→Q x=false→chg G x=false:=λ x h1 h2=>by rw [hG];exact zaA hF (hP▸h1) (hQ▸h2)
 have hG6:G 65536=false:=by rw [hG];unfold two;rw [hp,hq];exact hF
 have hGt:∀ t,G t=F (p t) (q t):=λ t=>by rw [hG];rfl
 have gna:Hide (na=cnt P 65537):=⟨hna⟩;have gnb:Hide (nb=cnt Q 65537):=⟨hnb⟩;clear hna hnb hA hB hP hQ hG;refine Fc.of (args:=[_,_,_]) Tryz.func135 rfl rfl Tryz.ntmps135 nZ ?_
 repeat' (first|(refine yL ?_;first|refine a0A rfl ?_|refine yO ?_|(refine yC ?_ ?_<;>intro hc)|(refine yN hK ?_;clear hK K))|refine wG ?_|(refine yR ?_;intro K hK)|fail)
 refine agA (ι:=Nat × Value × Int) (λ i=>[(0,.val va),(1,.val vb),(2,.val (.func (.func ft) #[] #[])),(7,.val i.2.1),(8,.val (.bool (bel G i.1))),(9,.val (.int .i64 i.2.2)),(10,.val (.int .i64 (cnt P i.1))),(11,.val (.int .i64 (cnt Q i.1)))])
  (λ i w'=>Ext w w'∧i.1≤65537∧OwnR w.heap.size 79 w' i.2.1 (rnC G i.1)∧(bel G i.1=true→i.2.2=frm G i.1)∧(0≤i.2.2∧i.2.2≤65537)) (λ i=>65537-i.1)
  (λ w2 e2=>⟨(0,.slice none 0 0,0),⟨e2,Nat.zero_le _,OwnR.nil,λ h=>(by cases h),by decide⟩,sZ⟩) ?_
 rintro ⟨T,so,fr⟩ w1 ⟨he,hT5,ho,hfr,hfrb⟩;dsimp only at hT5 ho hfr hfrb ⊢;have h1:=ha.ext he;have h2:=hb.ext he;have hcT:=cA T hT5;have hdT:=cB T hT5
 by_cases hdone:cnt P T=na∧cnt Q T=nb
 ·obtain ⟨e1,e2⟩:=hdone
  have s1:=stA T 65537 hT5 (by rw [← gna.out,e1]);have s2:=stB T 65537 hT5 (by rw [← gnb.out,e2]);obtain ⟨z1,-,-⟩:=still 65537 hT5 (λ x g1 g2=>chG x (s1 x g1 g2) (s2 x g1 g2));rw [← z1,← aoB hG6] at ho
  repeat' (first|(refine yL ?_;first|refine a0A rfl ?_|refine yO ?_|(refine yC ?_ ?_<;>intro hc)|(refine yN hK ?_;clear hK K))|refine wG ?_|(refine yR ?_;intro K hK)|fail)
  exact ajA rfl rfl he (λ u w5 e5 hu'=>by obtain rfl:u=_:=hu';exact ho.ext e5)
 ·have next:∃ t:Nat,T≤t∧t<65537∧(∀ x,T≤x→x<t→P x=false∧Q x=false)∧(cnt P T<na→cnt Q T<nb→min (A.getD (cnt P T) 0) (B.getD (cnt Q T) 0)=t)∧(cnt P T<na→¬ cnt Q T<nb→A.getD (cnt P T) 0=t)∧(¬ cnt P T<na→cnt Q T<nb→min 65537 (B.getD (cnt Q T) 0)=t):=by
   have fa:cnt P T<na→∃ x:Nat,T≤x∧x<65537∧A.getD (cnt P T) 0=x∧∀ z,T≤z→z<x→P z=false:=λ h=>by
    obtain ⟨x,a1,a2,a3,a4,-⟩:=Ae (t:=0) h;have:T≤x:=by
     rcases Nat.lt_or_ge x T with h' | h'
     ·have:=cnt_mono P (m:=x+1) T h'
      simp only [cnt,a2,if_true] at this;omega
     ·exact h'
    exact ⟨x,this,a1,a4,stA T x this a3⟩
   have fb:cnt Q T<nb→∃ x:Nat,T≤x∧x<65537∧B.getD (cnt Q T) 0=x∧∀ z,T≤z→z<x→Q z=false:=λ h=>by
    obtain ⟨x,a1,a2,a3,a4,-⟩:=Be (t:=0) h;have:T≤x:=by
     rcases Nat.lt_or_ge x T with h' | h'
     ·have:=cnt_mono Q (m:=x+1) T h'
      simp only [cnt,a2,if_true] at this;omega
     ·exact h'
    exact ⟨x,this,a1,a4,stB T x this a3⟩
   have na':¬ cnt P T<na→∀ z,T≤z→z<65537→P z=false:=λ h=>stA T 65537 hT5 (by rw [← gna.out];omega)
   have nb':¬ cnt Q T<nb→∀ z,T≤z→z<65537→Q z=false:=λ h=>stB T 65537 hT5 (by rw [← gnb.out];omega)
   by_cases ca:cnt P T<na <;> by_cases cb:cnt Q T<nb
   ·obtain ⟨x,x1,x2,x3,x4⟩:=fa ca
    obtain ⟨y,y1,y2,y3,y4⟩:=fb cb;refine ⟨min x y,by omega,by omega,λ z g1 g2=>⟨x4 z g1 oZ,y4 z g1 oZ⟩,λ _ _=>by rw [x3,y3];omega,λ _ h=>absurd cb h,λ h=>absurd ca h⟩
   ·obtain ⟨x,x1,x2,x3,x4⟩:=fa ca
    exact ⟨x,x1,x2,λ z g1 g2=>⟨x4 z g1 g2,nb' cb z g1 oZ⟩,λ _ h=>absurd h cb,λ _ _=>x3,λ h=>absurd ca h⟩
   ·obtain ⟨y,y1,y2,y3,y4⟩:=fb cb
    exact ⟨y,y1,y2,λ z g1 g2=>⟨na' ca z g1 oZ,y4 z g1 g2⟩,λ h=>absurd h ca,λ h=>absurd h ca,λ _ _=>by rw [y3];omega⟩
   ·exact absurd ⟨by omega,by omega⟩ hdone
  obtain ⟨t,ht1,ht2,hst,hm1,hm2,hm3⟩:=next;obtain ⟨z1,z2,z3⟩:=still t ht1 (λ x g1 g2=>chG x (hst x g1 g2).1 (hst x g1 g2).2);have cA1:=cA (t+1) oZ;have cB1:=cB (t+1) oZ;have mA1:=cnt_mono P (m:=T) (t+1) oZ;have mB1:=cnt_mono Q (m:=T) (t+1) oZ;obtain ⟨ia,hia⟩:∃ ia,ia=cnt P T:=⟨_,rfl⟩;obtain ⟨ib,hib⟩:∃ ib,ib=cnt Q T:=⟨_,rfl⟩;obtain ⟨ja,hja⟩:∃ ja,ja=cnt P (t+1):=⟨_,rfl⟩;obtain ⟨jb,hjb⟩:∃ jb,jb=cnt Q (t+1):=⟨_,rfl⟩;have od1:=oddP t;have od2:=oddQ t;have Ae':∀ {i:Nat},i<na→(A.getD i 0≤(t:Int)↔i<ja):=λ {i} hi=>by
   obtain ⟨x,-,-,-,a4,a5⟩:=Ae (t:=t) hi;rw [a4,hja,← a5];omega
  have Be':∀ {i:Nat},i<nb→(B.getD i 0≤(t:Int)↔i<jb):=λ {i} hi=>by
   obtain ⟨x,-,-,-,a4,a5⟩:=Be (t:=t) hi;rw [a4,hjb,← a5];omega
  rw [← hia,← hib] at hdone hm1 hm2 hm3;rw [← hia] at hcT mA1;rw [← hib] at hdT mB1;rw [← hja] at cA1 mA1 od1;rw [← hjb] at cB1 mB1 od2;rw [← hia,← hib];have gia:Hide (ia=cnt P T):=⟨hia⟩;have gib:Hide (ib=cnt Q T):=⟨hib⟩;have gja:Hide (ja=cnt P (t+1)):=⟨hja⟩;have gjb:Hide (jb=cnt Q (t+1)):=⟨hjb⟩;clear hia hib hja hjb hst;obtain ⟨a1,ha1,hb1,hb2⟩:∃ a1:Int,(a1=if ia<na then A.getD ia 0 else 65537)∧(ib<nb→min a1 (B.getD ib 0)=(t:Int))∧(¬ ib<nb→a1=t):=by
   refine ⟨_,rfl,λ cb=>?_,λ cb=>?_⟩
   ·by_cases ca:ia<na
    ·rw [if_pos ca];exact hm1 ca cb
    ·rw [if_neg ca];exact hm3 ca cb
   ·by_cases ca:ia<na
    ·rw [if_pos ca];exact hm2 ca cb
    ·exact absurd ⟨by omega,by omega⟩ hdone
  have hl65:(t:Int)<65537:=oZ;clear hm1 hm2 hm3;have ga1:Hide (ia<na→A.getD ia 0=a1):=⟨λ ca=>by rw [ha1,if_pos ca]⟩;have ga2:Hide (¬ ia<na→(65537:Int)=a1):=⟨λ ca=>by rw [ha1,if_neg ca]⟩;have gb1:Hide (ib<nb→min a1 (B.getD ib 0)=(t:Int)):=⟨hb1⟩;have gb2:Hide (¬ ib<nb→a1=t):=⟨hb2⟩;clear ha1 hb1 hb2;have rn1:rnC G (t+1)=rnC G T++(if !G t && bel G T then [((frm G T:Int),(t:Int)-frm G T-1)] else []):=by
   show rnC G t++_=_
   rw [z1,z2,z3]
  have fr1:frm G (t+1)=if G t && !bel G T then t else frm G T:=by
   show (if G t && !bel G t then t else frm G t)=_
   rw [z2,z3]
  have bl1:bel G (t+1)=G t:=rfl;have hltT:=frA G T;obtain ⟨cP,hcP⟩:∃ cP,cP=(cnt P T:Int):=⟨_,rfl⟩
  skip
  repeat' (first|(refine yL ?_;first|refine a0A rfl ?_|(refine oD 31 ?_;refine esA rfl (λ _=>rfl) rfl ?_;rw [ga1.out oZ])|(refine oD 41 ?_;refine cwA rfl rfl rfl ?_;rw [gb1.out oZ])|(refine oD 73 ?_;refine l0A (v:=p t) rfl rfl rfl rfl (by dsimp only [jkA];cases hpt:p t <;> rw [hpt] at od1 <;> simp at od1 ⊢ <;> omega) ?_)|(refine oD 76 ?_;refine l0A (v:=q t) rfl rfl rfl rfl (by dsimp only [jkA];cases hqt:q t <;> rw [hqt] at od2 <;> simp at od2 ⊢ <;> omega) ?_)|refine yO ?_|(refine yC ?_ ?_<;>intro hc)|(refine yN hK ?_;clear hK K))|(refine oCX ?_;first|(show CX _ _ _ (.seq (.seq (.region 4 _ _) _) _) _ _;refine h9A [(0,.val va),(1,.val vb),(2,.val (.func (.func ft) #[] #[])),(7,.val so),(8,.val (.bool (bel G T))),(9,.val (.int .i64 fr)),(10,.val (.int .i64 ia)),(11,.val (.int .i64 ib))] ?_ ?_)|(show CX _ _ _ (.seq (.seq (.region 6 _ _) _) _) _ _;refine h9A [(0,.val va),(1,.val vb),(2,.val (.func (.func ft) #[] #[])),(7,.val so),(8,.val (.bool (bel G T))),(9,.val (.int .i64 fr)),(10,.val (.int .i64 ia)),(11,.val (.int .i64 ib)),(12,.val (.int .i64 a1))] ?_ ?_)|(show CX _ _ _ (.seq (.seq (.region 8 _ _) _) _) _ _;refine h9A [(0,.val va),(1,.val vb),(2,.val (.func (.func ft) #[] #[])),(7,.val so),(8,.val (.bool (bel G T))),(9,.val (.int .i64 fr)),(10,.val (.int .i64 ia)),(11,.val (.int .i64 ib)),(12,.val (.int .i64 t))] ?_ ?_)|(show CX _ _ _ (.seq (.block 2 _) _) _ _;refine h9A [(0,.val va),(1,.val vb),(2,.val (.func (.func ft) #[] #[])),(7,.val so),(8,.val (.bool (bel G T))),(9,.val (.int .i64 fr)),(10,.val (.int .i64 ja)),(11,.val (.int .i64 ib)),(12,.val (.int .i64 t))] ?_ ?_)|(show CX _ _ _ (.seq (.block 4 _) _) _ _;refine h9A [(0,.val va),(1,.val vb),(2,.val (.func (.func ft) #[] #[])),(7,.val so),(8,.val (.bool (bel G T))),(9,.val (.int .i64 fr)),(10,.val (.int .i64 ja)),(11,.val (.int .i64 jb)),(12,.val (.int .i64 t))] ?_ ?_))|refine wG ?_|(refine yR ?_;intro K hK)|(refine oPX ?_;first|(refine caA ?_;first|((repeat' (first|exact Sub.nil|(refine Sub.val rfl ?_ ?_;first|with_reducible rfl|(congr 1;omega))|refine Sub.same rfl ?_));done)|(rw [ga1.out oZ];(repeat' (first|exact Sub.nil|(refine Sub.val rfl ?_ ?_;first|with_reducible rfl|(congr 1;omega))|refine Sub.same rfl ?_));done)|(rw [ga2.out oZ];(repeat' (first|exact Sub.nil|(refine Sub.val rfl ?_ ?_;first|with_reducible rfl|(congr 1;omega))|refine Sub.same rfl ?_));done)|(rw [gb2.out oZ];(repeat' (first|exact Sub.nil|(refine Sub.val rfl ?_ ?_;first|with_reducible rfl|(congr 1;omega))|refine Sub.same rfl ?_));done)))|fail)
  ·refine b5A (ι:=Nat) (λ i=>[(0,.val va),(1,.val vb),(2,.val (.func (.func ft) #[] #[])),(7,.val so),(8,.val (.bool (bel G T))),(9,.val (.int .i64 fr)),(10,.val (.int .i64 i)),(11,.val (.int .i64 ib)),(12,.val (.int .i64 t))]) (λ i=>ia≤i∧i≤ja) (λ i=>ja-i) ia ⟨Nat.le_refl _,mA1⟩ sZ ?_
   rintro i ⟨hi1,hi2⟩
   by_cases hij:i<ja
   ·have hAi:A.getD i 0≤t:=(Ae' oZ).2 hij
    repeat' (first|(refine yL ?_;first|refine a0A rfl ?_|refine yO ?_|(refine yC ?_ ?_<;>intro hc)|(refine yN hK ?_;clear hK K))|refine wG ?_|(refine yR ?_;intro K hK)|fail)
    refine bpA (i+1) ⟨by omega,by omega⟩ oZ sZ
   ·have hAi:i<na→¬ A.getD i 0≤t:=λ h h'=>hij ((Ae' h).1 h')
    obtain rfl:i=ja:=oZ
    by_cases hin:i<na
    ·have hAi:=hAi hin
     repeat' (first|(refine yL ?_;first|refine a0A rfl ?_|refine yO ?_|(refine yC ?_ ?_<;>intro hc)|(refine yN hK ?_;clear hK K))|refine wG ?_|(refine yR ?_;intro K hK)|(refine oPX ?_;first|(refine caA ?_;(repeat' (first|exact Sub.nil|(refine Sub.val rfl ?_ ?_;first|with_reducible rfl|(congr 1;omega))|refine Sub.same rfl ?_));done))|fail)
    ·clear hAi
     repeat' (first|(refine yL ?_;first|refine a0A rfl ?_|refine yO ?_|(refine yC ?_ ?_<;>intro hc)|(refine yN hK ?_;clear hK K))|refine wG ?_|(refine yR ?_;intro K hK)|(refine oPX ?_;first|(refine caA ?_;(repeat' (first|exact Sub.nil|(refine Sub.val rfl ?_ ?_;first|with_reducible rfl|(congr 1;omega))|refine Sub.same rfl ?_));done))|fail)
  ·refine b5A (ι:=Nat) (λ i=>[(0,.val va),(1,.val vb),(2,.val (.func (.func ft) #[] #[])),(7,.val so),(8,.val (.bool (bel G T))),(9,.val (.int .i64 fr)),(10,.val (.int .i64 ja)),(11,.val (.int .i64 i)),(12,.val (.int .i64 t))]) (λ i=>ib≤i∧i≤jb) (λ i=>jb-i) ib ⟨Nat.le_refl _,mB1⟩ sZ ?_
   rintro i ⟨hi1,hi2⟩
   by_cases hij:i<jb
   ·have hBi:B.getD i 0≤t:=(Be' oZ).2 hij
    repeat' (first|(refine yL ?_;first|refine a0A rfl ?_|refine yO ?_|(refine yC ?_ ?_<;>intro hc)|(refine yN hK ?_;clear hK K))|refine wG ?_|(refine yR ?_;intro K hK)|fail)
    refine bpA (i+1) ⟨by omega,by omega⟩ oZ sZ
   ·have hBi:i<nb→¬ B.getD i 0≤t:=λ h h'=>hij ((Be' h).1 h')
    obtain rfl:i=jb:=oZ
    by_cases hin:i<nb
    ·have hBi:=hBi hin
     repeat' (first|(refine yL ?_;first|refine a0A rfl ?_|refine yO ?_|(refine yC ?_ ?_<;>intro hc)|(refine yN hK ?_;clear hK K))|refine wG ?_|(refine yR ?_;intro K hK)|(refine oPX ?_;first|(refine caA ?_;(repeat' (first|exact Sub.nil|(refine Sub.val rfl ?_ ?_;first|with_reducible rfl|(congr 1;omega))|refine Sub.same rfl ?_));done))|fail)
    ·clear hBi
     repeat' (first|(refine yL ?_;first|refine a0A rfl ?_|refine yO ?_|(refine yC ?_ ?_<;>intro hc)|(refine yN hK ?_;clear hK K))|refine wG ?_|(refine yR ?_;intro K hK)|(refine oPX ?_;first|(refine caA ?_;(repeat' (first|exact Sub.nil|(refine Sub.val rfl ?_ ?_;first|with_reducible rfl|(congr 1;omega))|refine Sub.same rfl ?_));done))|fail)
  ·clear Ae' Be' Ae Be od1 od2 oddP oddQ
   cases hg:G t <;> cases hbl:bel G T
   all_goals rw [hg,hbl] at rn1 fr1
   all_goals rw [hg] at bl1
   all_goals simp only [Bool.not_true,Bool.not_false,Bool.and_true,Bool.and_false,Bool.true_and,Bool.false_and,Bool.false_eq_true,if_true,if_false,List.append_nil] at rn1 fr1
   ·skip
    repeat' (first|(refine yL ?_;first|refine a0A rfl ?_|refine yO ?_|(refine yC ?_ ?_<;>intro hc)|(refine yV ?_;first|refine a3A (f:=ft) (r1:=.val (.bool _)) (r2:=.val (.bool _)) rfl rfl rfl rfl (.val (.bool false)) (by intro u1 u2 w e hu1 hu2;obtain rfl:u1=_:=hu1;obtain rfl:u2=_:=hu2;rw [← hg,hGt];exact hT _ _ _) ?_)|(refine yN hK ?_;clear hK K))|refine wG ?_|(refine yR ?_;intro K hK)|fail)
    exact a6A (t+1,so,fr) (λ w5 e5=>⟨he.trans e5,by dsimp only;omega,by dsimp only;rw [rn1];exact ho.ext e5,(λ h=>by dsimp only at h;rw [bl1] at h;cases h),hfrb⟩) eZ (by dsimp only;rw [bl1,← gja.out,← gjb.out];exact sZ)
   ·have hf2:=hfr hbl
    have hlt:=hltT hbl;have hrl:=mbA G T
    skip
    repeat' (first|(refine yL ?_;first|refine a0A rfl ?_|refine cqA (c:=q0A fr (t-fr-1)) rfl rfl rfl (λ w=>rxA _ _ w) ?_|refine e3A rfl jgA rfl rfl dZ ?_|(refine a4A (hK _ _ (h7A rfl dZ jgA rfl ho rfl oZ oZ he (λ v' w' he' ho'=>?_)));clear hK K;dsimp only [vals];refine aiA kZ (λ K hK=>?_))|refine yO ?_|(refine yC ?_ ?_<;>intro hc)|(refine yV ?_;first|refine a3A (f:=ft) (r1:=.val (.bool _)) (r2:=.val (.bool _)) rfl rfl rfl rfl (.val (.bool false)) (by intro u1 u2 w e hu1 hu2;obtain rfl:u1=_:=hu1;obtain rfl:u2=_:=hu2;rw [← hg,hGt];exact hT _ _ _) ?_)|(refine yN hK ?_;clear hK K))|refine wG ?_|(refine yR ?_;intro K hK)|fail)
    exact a6A (t+1,v',(t:Int)) (λ w5 e5=>⟨he'.trans e5,by dsimp only;omega,by dsimp only;rw [rn1,← hf2];exact ho'.ext e5,(λ h=>by dsimp only at h;rw [bl1] at h;cases h),by dsimp only;omega⟩) eZ (by dsimp only;rw [bl1,← gja.out,← gjb.out];exact sZ)
   ·skip
    repeat' (first|(refine yL ?_;first|refine a0A rfl ?_|refine yO ?_|(refine yC ?_ ?_<;>intro hc)|(refine yV ?_;first|refine a3A (f:=ft) (r1:=.val (.bool _)) (r2:=.val (.bool _)) rfl rfl rfl rfl (.val (.bool true)) (by intro u1 u2 w e hu1 hu2;obtain rfl:u1=_:=hu1;obtain rfl:u2=_:=hu2;rw [← hg,hGt];exact hT _ _ _) ?_)|(refine yN hK ?_;clear hK K))|refine wG ?_|(refine yR ?_;intro K hK)|fail)
    exact a6A (t+1,so,(t:Int)) (λ w5 e5=>⟨he.trans e5,by dsimp only;omega,by dsimp only;rw [rn1];exact ho.ext e5,(λ _=>by dsimp only;rw [fr1]),by dsimp only;omega⟩) eZ (by dsimp only;rw [bl1,← gja.out,← gjb.out];exact sZ)
   ·have hf2:=hfr hbl
    skip
    repeat' (first|(refine yL ?_;first|refine a0A rfl ?_|refine yO ?_|(refine yC ?_ ?_<;>intro hc)|(refine yV ?_;first|refine a3A (f:=ft) (r1:=.val (.bool _)) (r2:=.val (.bool _)) rfl rfl rfl rfl (.val (.bool true)) (by intro u1 u2 w e hu1 hu2;obtain rfl:u1=_:=hu1;obtain rfl:u2=_:=hu2;rw [← hg,hGt];exact hT _ _ _) ?_)|(refine yN hK ?_;clear hK K))|refine wG ?_|(refine yR ?_;intro K hK)|fail)
    exact a6A (t+1,so,fr) (λ w5 e5=>⟨he.trans e5,by dsimp only;omega,by dsimp only;rw [rn1];exact ho.ext e5,(λ _=>by dsimp only;rw [fr1];exact hf2),hfrb⟩) eZ (by dsimp only;rw [bl1,← gja.out,← gjb.out];exact sZ)
end Go.Proofs.YtlnaebejmjmepaaGreatDoor
end
