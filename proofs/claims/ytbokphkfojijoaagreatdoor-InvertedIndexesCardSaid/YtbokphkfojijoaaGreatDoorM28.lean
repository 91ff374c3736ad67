import Derived.Test.YtbokphkfojijoaaGreatDoorM26
import Derived.Test.YtbokphkfojijoaaGreatDoorM27
set_option linter.unusedSimpArgs false
set_option linter.unusedVariables false
set_option maxRecDepth 3000
set_option maxHeartbeats 16000000
section
namespace Go.Proofs.YtbokphkfojijoaaGreatDoor.Pt
open Go.LA Go.ArrP Go.RowKit
def orY (ids ys:List Int):Nat→Nat→Bool
 | 0=>λ _=>false
 | k+1=>two (opF 2) (orY ids ys k) (idP ids (ys.getD k 0))
theorem opF2:opF 2=λ x y=>x || y:=by
 funext x y;rfl
theorem rsA {ids ys:List Int} {x:Nat}:∀ k,orY ids ys k x=true↔∃ j,j<k∧idP ids (ys.getD j 0) x=true
 | 0=>by simp [orY]
 | k+1=>by
   have ih:=rsA (ids:=ids) (ys:=ys) (x:=x) k;simp only [orY];rw [opF2,r6A,ih]
   constructor
   ·rintro (⟨j,h1,h2⟩|h)
    ·exact ⟨j,by omega,h2⟩
    ·exact ⟨k,Nat.lt_succ_self k,h⟩
   ·rintro ⟨j,h1,h2⟩
    by_cases e:j=k
    ·subst e;exact .inr h2
    ·exact .inl ⟨j,by omega,h2⟩
theorem c8B {ids ys:List Int} {n:Nat} (h:IdsIn ids n):amP n (λ i=>idP ids i) ys ys.length=orY ids ys ys.length:=lbA λ x=>by
 rw [am_id h,rsA]
 constructor
 ·rintro ⟨h1,h2⟩
  obtain ⟨j,hj,he⟩:=List.getElem_of_mem h2;exact ⟨j,hj,idP_iff.2 ⟨h1,by rw [List.getD_eq_getElem?_getD (l:=ys),List.getElem?_eq_getElem hj];exact he.symm⟩⟩
 ·rintro ⟨j,hj,h2⟩
  obtain ⟨h3,h4⟩:=idP_iff.1 h2;refine ⟨h3,?_⟩;rw [h4,List.getD_eq_getElem?_getD,List.getElem?_eq_getElem hj];exact List.getElem_mem hj
theorem v0A {ids:List Int} {n:Nat} (h:IdsIn ids n) (id:Int):rowP n (λ i=>idP ids i) id=idP ids id:=by
 unfold rowP
 split
 ·rename_i hc
  show idP ids ((id.toNat:Nat):Int)=_
  rw [Int.toNat_of_nonneg hc.1]
 ·rename_i hc
  refine lbA λ x=>⟨λ h'=>(by cases h'),λ h'=>?_⟩
  obtain ⟨h1,h2⟩:=idP_iff.1 h';have:=h x h1;exact absurd ⟨by omega,by omega⟩ hc
theorem iindex_s (w:World) (hT:Tab w) {v u:Value} {ids ys:List Int} (h:SlI .i64 w v ids) (hy:SlI .i64 w u ys) (many:Int):Fc Tryz.prog 6 #[v,.int .i64 many,u] w (Ret w (.val (.bool true))):=by
 have hl:=h.len;have hyl:=hy.len;have htp:=epA;refine Fc.of (args:=[_,_,_]) Tryz.func6 rfl rfl Tryz.ntmps6 nZ ?_
 by_cases hbig:300<(ids.length:Int)
 ·skip
  repeat' (first|(refine yL ?_;first|refine a0A rfl ?_|(refine oD 22 ?_;refine akA rfl _ rfl rfl (HasI.val h).c ?_)|refine yO ?_|(refine yC ?_ ?_<;>intro hc)|(refine yV ?_;first|(refine oC 20 ?_;refine dqA (f:=20) rfl rfl  (.val (.bool true)) (by intro w e;exact m8A _ (hT.ext e)) ?_))|(refine yN hK ?_;clear hK K))|refine wG ?_|(refine yR ?_;intro K hK)|fail)
  all_goals exact afA rfl rfl (Ext.refl _) rfl
 by_cases hbig2:60<many
 ·skip
  repeat' (first|(refine yL ?_;first|refine a0A rfl ?_|(refine oD 22 ?_;refine akA rfl _ rfl rfl (HasI.val h).c ?_)|refine yO ?_|(refine yC ?_ ?_<;>intro hc)|(refine yV ?_;first|(refine oC 20 ?_;refine dqA (f:=20) rfl rfl  (.val (.bool true)) (by intro w e;exact m8A _ (hT.ext e)) ?_))|(refine yN hK ?_;clear hK K))|refine wG ?_|(refine yR ?_;intro K hK)|fail)
  all_goals exact afA rfl rfl (Ext.refl _) rfl
 by_cases hbig3:60<(ys.length:Int)
 ·skip
  repeat' (first|(refine yL ?_;first|refine a0A rfl ?_|(refine oD 22 ?_;refine akA rfl _ rfl rfl (HasI.val h).c ?_)|(refine oD 30 ?_;refine akA rfl _ rfl rfl (HasI.val hy).c ?_)|refine yO ?_|(refine yC ?_ ?_<;>intro hc)|(refine yV ?_;first|(refine oC 20 ?_;refine dqA (f:=20) rfl rfl  (.val (.bool true)) (by intro w e;exact m8A _ (hT.ext e)) ?_))|(refine yN hK ?_;clear hK K))|refine wG ?_|(refine yR ?_;intro K hK)|fail)
  all_goals exact afA rfl rfl (Ext.refl _) rfl
 cases hm:neA ids many with
 | false =>
   repeat' (first|(refine yL ?_;first|refine a0A rfl ?_|(refine oD 22 ?_;refine akA rfl _ rfl rfl (HasI.val h).c ?_)|(refine oD 30 ?_;refine akA rfl _ rfl rfl (HasI.val hy).c ?_)|(refine oD 34 ?_;refine o4A 3 .i64 [] rfl (λ _=>rfl) (λ _=>by kernel_rfl) rfl dZ ?_)|(refine oD 36 ?_;refine a2A (hK _ _ (awA 34 rfl (λ v34 w34 e34 h34=>?_)));clear hK K;replace h34:OwnI w.heap.size tI6 .i64 w34 v34 []:=h34;have h7b:=h.ext e34;refine arA rfl nZ w6A rfl h34 rfl (HasI.val h7b).c c4A (by unfold maxLen;simp only [List.length_nil];omega) (by simp only [List.length_nil];omega) (λ vb wa wb ea hoa hfa hla=>?_);obtain ⟨xb,hob⟩:=appI (a:=[]) (b:=ids) h34 e34 ea hoa hfa hla;rw [List.nil_append] at hob;refine aeA kZ (λ K hK=>?_))|refine bqA (c:=.bool true) rfl rfl rfl (λ _=>rfl) ?_|refine yO ?_|(refine yC ?_ ?_<;>intro hc)|(refine yV ?_;first|(refine oC 21 ?_;refine a4A (f:=21) rfl rfl rfl rfl  (.tup2 (.val (.pointer none)) (.val (.int .i64 2))) (by intro u1 u2 w e hu1 hu2;(try obtain rfl:u1=_:=hu1);(try obtain rfl:u2=_:=hu2);exact y8A (OwnI.slI (OwnI.ext hob e)) (hT.ext (xb.trans e)) hm) ?_)|(refine oC 28 ?_;refine a4A (f:=28) rfl rfl rfl rfl  (.val (.bool false)) (by intro u1 u2 w e hu1 hu2;(try obtain rfl:u1=_:=hu1);(try obtain rfl:u2=_:=hu2);exact atA (by rw [hm]) (xvA (h.ext (xb.trans e)) many oZ oZ)) ?_)|(refine oC 20 ?_;refine dqA (f:=20) rfl rfl  (.val (.bool true)) (by intro w e;exact m8A _ (hT.ext (xb.trans e))) ?_))|(refine yN hK ?_;clear hK K))|refine wG ?_|(refine yR ?_;intro K hK)|fail)
   all_goals exact afA rfl rfl xb rfl
 | true =>
   obtain ⟨m0,-,-,m3⟩:=(l7A _ _).1 hm;obtain ⟨n,rfl⟩:=Int.eq_ofNat_of_zero_le m0;have hin:IdsIn ids n:=IdsIn.of m3;clear m0 m3;have h8:∀ i:Nat,nk (idP ids i)≤8:=λ i=>id8 oZ i
   have ht:∀ (i:Nat) x,TOP≤x→idP ids i x=false:=λ i x hx=>jdA oZ
   have s1:=r9A ids n;rw [mwA hin (T:=TOP) oZ] at s1;have s2:cnt (orN (λ i=>idP ids i) n) TOP=ids.length:=by rw [rtA];exact mwA hin oZ
   have s3:cnt (orN (λ i=>idP ids i) n) ids.length=ids.length:=by rw [rtA];exact mwA hin (Nat.le_refl _)
   have hC:∀ w' u,SlI .u8 w' u (byA (λ i=>eqA (idP ids i)) n)→Tab w'→Fc Tryz.prog 23 #[u,.int .i64 ids.length,.int .i64 n] w' (Ret w' (.tup2 (.pred (ixP tIv n λ i=>idP ids i)) (.val (.int .i64 0)))):=λ w' u hu hT' =>
    a1B (d:=true) (ps:=λ i=>idP ids i) hu hT' (Nat.le_refl _) oZ h8 ht oZ ⟨λ _=>⟨rfl,s1,s2,s3⟩,λ _=>rfl⟩
   have hby:∀ w' u,IX tIv n (λ i=>idP ids i) w' u→Tab w'→w.heap.size≤w'.heap.size→Fc Tryz.prog 22 #[u] w' (Ret w' (.pred (b4A w.heap.size tB .u8 (byA (λ i=>eqA (idP ids i)) n)))):=λ w' u hu hT' hsz =>
    (vwA (.inr hu) oZ h8 hT').mono (a8A hsz)
   have hrby:∀ w',SlI .i64 w' v ids→w.heap.size≤w'.heap.size→Fc Tryz.prog 30 #[v,.int .i64 n] w' (Ret w' (.pred (b4A w.heap.size tB .u8 (byA (λ i=>eqA (idP ids i)) n)))):=λ w' hu hsz =>
    (zdA hu oZ oZ).mono (a8A hsz)
   have hBl:=jjA (ps:=λ i=>idP ids i) h8 n;clear s1 s2 s3 h8 ht;obtain ⟨B,hBB⟩:∃ B,B=byA (λ i=>eqA (idP ids i)) n:=⟨_,rfl⟩;rw [← hBB] at hC hby hrby;replace hBl:B.length≤n*1100000:=by rw [hBB];exact hBl
   clear hBB
   repeat' (first|(refine yL ?_;first|refine a0A rfl ?_|(refine oD 22 ?_;refine akA rfl _ rfl rfl (HasI.val h).c ?_)|(refine oD 30 ?_;refine akA rfl _ rfl rfl (HasI.val hy).c ?_)|(refine oD 34 ?_;refine o4A 3 .i64 [] rfl (λ _=>rfl) (λ _=>by kernel_rfl) rfl dZ ?_)|(refine oD 36 ?_;refine a2A (hK _ _ (awA 34 rfl (λ v34 w34 e34 h34=>?_)));clear hK K;replace h34:OwnI w.heap.size tI6 .i64 w34 v34 []:=h34;have h7b:=h.ext e34;refine arA rfl nZ w6A rfl h34 rfl (HasI.val h7b).c c4A (by unfold maxLen;simp only [List.length_nil];omega) (by simp only [List.length_nil];omega) (λ vb wa wb ea hoa hfa hla=>?_);obtain ⟨xb,hob⟩:=appI (a:=[]) (b:=ids) h34 e34 ea hoa hfa hla;rw [List.nil_append] at hob;refine aeA kZ (λ K hK=>?_))|(refine oD 56 ?_;refine a2A (hK _ _ (awA 8 rfl (λ vx wx ex hx=>?_)));clear hK K;have hX0:IX tIv n (λ i=>idP ids i) wx vx:=hx;obtain ⟨bx,-,-,rfl,-,-⟩:=hx;have xx:=xb.trans ex;have hobx:=OwnI.ext hob ex;refine aeA kZ (λ K hK=>cvA rfl rfl ?_))|(refine oD 57 ?_;refine bqA (c:=.bool false) rfl rfl rfl (λ _=>rfl) ?_)|(refine oD 69 ?_;refine akA rfl _ rfl rfl (HasI.ownV hobx).c ?_)|refine yO ?_|(refine yC ?_ ?_<;>intro hc)|(refine yV ?_;first|(refine oC 21 ?_;refine a4A (f:=21) rfl rfl rfl rfl  (.tup2 (.pred (ixP tIv n λ i=>idP ids i)) (.val (.int .i64 0))) (by intro u1 u2 w e hu1 hu2;(try obtain rfl:u1=_:=hu1);(try obtain rfl:u2=_:=hu2);exact y7A (OwnI.slI (OwnI.ext hob e)) (hT.ext (xb.trans e)) hm) ?_)|(refine oC 28 ?_;refine a4A (f:=28) rfl rfl rfl rfl  (.val (.bool true)) (by intro u1 u2 w e hu1 hu2;(try obtain rfl:u1=_:=hu1);(try obtain rfl:u2=_:=hu2);exact atA (by rw [hm]) (xvA (h.ext (xb.trans e)) n oZ oZ)) ?_)|(refine oC 29 ?_;refine a3A (f:=29) rfl rfl rfl  (.val (.int .i64 n)) (by intro u1 w e hu1;(try obtain rfl:u1=_:=hu1);exact mdA (.inr (hX0.ext e))) ?_))|(refine yN hK ?_;clear hK K))|refine wG ?_|(refine yR ?_;intro K hK)|fail)
   refine abA (ι:=Nat × List Int) (λ j=>[(0,.val v),(1,.val (.int .i64 n)),(2,.val u),(7,.val vb),(8,.val (.pointer (some ⟨bx,0,none⟩))),(69,.val (.int .i64 ids.length)),(70,.val (.int .i64 j.1))])
    (λ j w'=>j.1≤ids.length∧j.2.length=ids.length∧Ext w w'∧OwnI w.heap.size tI6 .i64 w' vb j.2∧IX tIv n (λ i=>idP ids i) w' (.pointer (some ⟨bx,0,none⟩))) (λ j=>ids.length-j.1)
    (λ w2 e2=>⟨(0,ids),⟨Nat.zero_le _,rfl,xx.trans e2,hobx.ext e2,hX0.ext e2⟩,sZ⟩) ?_
   clear hX0 hobx xx hob xb;rintro ⟨k,zs⟩ w1 ⟨hk,hzl,he,hz,hX⟩;dsimp only at hk hzl hz ⊢
   by_cases hkl:k<ids.length
   ·obtain ⟨gb,cap,cur,rfl,t1,t2,t3,t4,t5,t6⟩:=OwnI.row hz oZ
    repeat' (first|(refine yL ?_;first|refine a0A rfl ?_|(refine oD 75 ?_;refine acA rfl _ rfl (λ _=>rfl) rfl (HasI.ownV hz) rfl oZ ?_)|(refine oD 78 ?_;refine bjA (s:=1) rfl rfl (λ _=>rfl) rfl rfl oZ oZ ?_;rw [Int.toNat_natCast,Nat.zero_add,Nat.mul_one])|(refine a2A (hK _ _ (bfA rfl rfl rfl t2 (λ _=>rfl) oZ rfl rfl (λ wB eB=>?_)));clear hK K;dsimp only [LA.vals];refine aeA kZ (λ K hK=>?_))|refine yO ?_|(refine yC ?_ ?_<;>intro hc)|(refine yN hK ?_;clear hK K))|refine wG ?_|(refine yR ?_;intro K hK)|fail)
    have hset:=OwnI.set t1 (eB.block t2) t3 t4 t5 t6 k oZ (IntKind.i64.wrap (zs.getD k 0+1));have hXB:=IX.offG (hX.ext eB) (Fr.one (gb:=gb) (cs:=cur.setIfInBounds k (.int .i64 (IntKind.i64.wrap (zs.getD k 0+1))))) (λ q hq=>⟨cur,tI6,by rw [hq];exact eB.block t2,⟨by decide,by decide,by decide,by decide,by decide⟩,by decide,by decide⟩);exact a5A (k+1,zs.set k (IntKind.i64.wrap (zs.getD k 0+1))) (λ w5 e5=>⟨hkl,by dsimp only;rw [List.length_set];exact hzl,((he.trans eB).setRow t1 _).trans e5,by dsimp only;exact OwnI.ext hset e5,hXB.ext e5⟩) eZ sZ
   obtain rfl:k=ids.length:=oZ;clear hz hzl zs
   repeat' (first|(refine yL ?_;first|refine a0A rfl ?_|refine u7A rfl rfl rfl rfl rfl HasI.own ?_|refine tvA rfl rfl rfl rfl rfl ?_|(refine oD 92 ?_;refine akA rfl _ rfl rfl (HasI.val (h.ext he)).c ?_)|(refine oD 97 ?_;refine a2A (hK _ _ (awA 11 rfl (λ vq wq eq hq=>awA 12 rfl (λ vy wy ey hyy=>?_))));clear hK K;have hY0:IX tIv n (λ i=>idP ids i) wy vy:=hyy;obtain ⟨by0,-,-,rfl,-,-⟩:=hyy;have hq0:=OwnI.ext (show OwnI w.heap.size tB .u8 wq vq B from hq) ey;have hX0:=hX.ext (eq.trans ey);have x0:=he.trans (eq.trans ey);refine aeA kZ (λ K hK=>cvA rfl rfl ?_))|(refine oD 98 ?_;refine bqA (c:=.bool false) rfl rfl rfl (λ _=>rfl) ?_)|(refine oD 104 ?_;refine akA rfl _ rfl rfl (HasI.ownV hq0).c ?_)|refine yO ?_|(refine yC ?_ ?_<;>intro hc)|(refine yV ?_;first|(refine oC 22 ?_;refine a3A (f:=22) rfl rfl rfl  (.pred (b4A w.heap.size tB .u8 B)) (by intro u1 w e hu1;(try obtain rfl:u1=_:=hu1);exact hby _ _ (hX.ext e) (hT.ext (he.trans e)) (he.trans e).size) ?_)|(refine oC 30 ?_;refine a4A (f:=30) rfl rfl rfl rfl  (.pred (b4A w.heap.size tB .u8 B)) (by intro u1 u2 w e hu1 hu2;(try obtain rfl:u1=_:=hu1);(try obtain rfl:u2=_:=hu2);exact hrby _ (h.ext (he.trans e)) (he.trans e).size) ?_)|(refine oC 23 ?_;refine b8A (f:=23) rfl rfl rfl rfl rfl  (.tup2 (.pred (ixP tIv n λ i=>idP ids i)) (.val (.int .i64 0))) (by intro u1 u2 u3 w e hu1 hu2 hu3;(try obtain rfl:u1=_:=hu1);(try obtain rfl:u2=_:=hu2);(try obtain rfl:u3=_:=hu3);exact hC _ _ (OwnI.slI hu1) (hT.ext (he.trans e))) ?_))|(refine yN hK ?_;clear hK K))|refine wG ?_|(refine yR ?_;intro K hK)|fail)
   refine abA (ι:=Nat × List Int) (λ j=>[(0,.val v),(1,.val (.int .i64 n)),(2,.val u),(8,.val (.pointer (some ⟨bx,0,none⟩))),(11,.val vq),(12,.val (.pointer (some ⟨by0,0,none⟩))),(104,.val (.int .i64 B.length)),(105,.val (.int .i64 j.1))])
    (λ j w'=>j.1≤B.length∧j.2.length=B.length∧Ext w w'∧OwnI w.heap.size tB .u8 w' vq j.2∧IX tIv n (λ i=>idP ids i) w' (.pointer (some ⟨bx,0,none⟩))∧IX tIv n (λ i=>idP ids i) w' (.pointer (some ⟨by0,0,none⟩))) (λ j=>B.length-j.1)
    (λ w2 e2=>⟨(0,B),⟨Nat.zero_le _,rfl,x0.trans e2,hq0.ext e2,hX0.ext e2,hY0.ext e2⟩,sZ⟩) ?_
   clear hX hX0 hY0 hq0 x0 he;rintro ⟨k,zs⟩ w1 ⟨hk,hzl,he,hz,hX,hY⟩;dsimp only at hk hzl hz ⊢
   by_cases hkl:k<B.length
   ·obtain ⟨gb,cap,cur,rfl,t1,t2,t3,t4,t5,t6⟩:=OwnI.row hz oZ
    repeat' (first|(refine yL ?_;first|refine a0A rfl ?_|(refine oD 110 ?_;refine acA rfl _ rfl (λ _=>rfl) rfl (HasI.ownV hz) rfl oZ ?_)|(refine oD 113 ?_;refine bjA (s:=1) rfl rfl (λ _=>rfl) rfl rfl oZ oZ ?_;rw [Int.toNat_natCast,Nat.zero_add,Nat.mul_one])|(refine a2A (hK _ _ (bfA rfl rfl rfl t2 (λ _=>rfl) oZ rfl rfl (λ wB eB=>?_)));clear hK K;dsimp only [LA.vals];refine aeA kZ (λ K hK=>?_))|refine yO ?_|(refine yC ?_ ?_<;>intro hc)|(refine yN hK ?_;clear hK K))|refine wG ?_|(refine yR ?_;intro K hK)|fail)
    have hset:=OwnI.set t1 (eB.block t2) t3 t4 t5 t6 k oZ (IntKind.u8.wrap (zs.getD k 0+1));have hoff:∀ {vv:Value},IX tIv n (λ i=>idP ids i) w1 vv→IX tIv n (λ i=>idP ids i) (wB.setRow gb (cur.setIfInBounds k (.int .u8 (IntKind.u8.wrap (zs.getD k 0+1))))) vv:=λ hh=>IX.offG (hh.ext eB) Fr.one (λ q hq=>⟨cur,tB,by rw [hq];exact eB.block t2,⟨by decide,by decide,by decide,by decide,by decide⟩,by decide,by decide⟩)
    exact a5A (k+1,zs.set k (IntKind.u8.wrap (zs.getD k 0+1))) (λ w5 e5=>⟨hkl,by dsimp only;rw [List.length_set];exact hzl,((he.trans eB).setRow t1 _).trans e5,by dsimp only;exact OwnI.ext hset e5,(hoff hX).ext e5,(hoff hY).ext e5⟩) eZ sZ
   obtain rfl:k=B.length:=oZ;clear hz hzl zs
   repeat' (first|(refine yL ?_;first|refine a0A rfl ?_|refine yO ?_|(refine yC ?_ ?_<;>intro hc)|(refine yN hK ?_;clear hK K))|refine wG ?_|(refine yR ?_;intro K hK)|fail)
   refine abA (ι:=Nat) (λ j=>[(0,.val v),(1,.val (.int .i64 n)),(2,.val u),(8,.val (.pointer (some ⟨bx,0,none⟩))),(12,.val (.pointer (some ⟨by0,0,none⟩))),(15,.val (.int .i64 ((j:Int)-1)))])
    (λ j w'=>j≤n+2∧Ext w w'∧IX tIv n (λ i=>idP ids i) w' (.pointer (some ⟨bx,0,none⟩))∧IX tIv n (λ i=>idP ids i) w' (.pointer (some ⟨by0,0,none⟩))) (λ j=>n+2-j)
    (λ w2 e2=>⟨0,⟨by omega,he.trans e2,hX.ext e2,hY.ext e2⟩,sZ⟩) ?_
   clear hX hY he w1;rintro k w1 ⟨hk,he,hX,hY⟩
   by_cases hkl:k<n+2
   ·obtain ⟨id,hid⟩:∃ id:Int,id=(k:Int)-1:=⟨_,rfl⟩
    rw [← hid];have hrp:=v0A hin id;have hrw:∀ w',Ext w1 w'→Fc Tryz.prog 31 #[v,.int .i64 id,.int .i64 id] w' (Ret w' (.pred (k6A w.heap.size tSp .u64 (spL (idP ids id) TOP)))):=λ w' e=>by
     have:=(n6A (h.ext (he.trans e)) id id oZ).mono (elA (he.trans e).size rfl);rw [n8A] at this;exact this
    have hone:∀ w',Ext w1 w'→Fc Tryz.prog 32 #[.pointer (some ⟨bx,0,none⟩),.int .i64 id] w' (Ret w' (.pred (rsP (λ k=>w1.heap.size≤k) TT (idP ids id)))):=λ w' e=>by
     have:=hsA (B:=λ k=>w1.heap.size≤k) (.inr (hX.ext e)) oZ (λ k hk=>Nat.le_trans e.size hk) id;rw [hrp] at this;exact this
    have htwo:∀ w',Ext w1 w'→Fc Tryz.prog 32 #[.pointer (some ⟨by0,0,none⟩),.int .i64 id] w' (Ret w' (.pred (rsP (λ k=>w1.heap.size≤k) TT (idP ids id)))):=λ w' e=>by
     have:=hsA (B:=λ k=>w1.heap.size≤k) (.inr (hY.ext e)) oZ (λ k hk=>Nat.le_trans e.size hk) id;rw [hrp] at this;exact this
    have hrn:∀ w' u,RSet (λ k=>w1.heap.size≤k) TT w' u (idP ids id)→Ext w w'→Fc Tryz.prog 17 #[u] w' (Ret w' (.pred (k6A w.heap.size tSp .u64 (spL (idP ids id) TOP)))):=λ w' u hu x=>(xrA (.inr hu) (hT.ext x)).mono (elA x.size rfl)
    obtain ⟨S,hS⟩:∃ S,S=spL (idP ids id) TOP:=⟨_,rfl⟩;rw [← hS] at hrw hrn;obtain ⟨q,hq⟩:∃ q,q=idP ids id:=⟨_,rfl⟩;rw [← hq] at hone htwo hrn;clear hrp hS hq
    repeat' (first|(refine yL ?_;first|refine a0A rfl ?_|(refine oD 142 ?_;refine a2A (hK _ _ (awA 17 rfl (λ v2 w2 e2 h2=>?_)));clear hK K;obtain ⟨b,kv,lv,rfl,hS2,hB2⟩:=h2;refine aeA kZ (λ K hK=>cvA rfl rfl ?_))|(refine oD 143 ?_;refine a2A (hK _ _ (d5A rfl nZ rfl rfl rfl rfl (λ v w'=>v=.tuple #[]∧∃ wz,Ext w2 wz∧Mut TT wz b kv lv (rng q 0 (min 9 TOP)) w') (λ w8 e8=>(qlA (lo:=0) (hi:=9) (e2.trans e8) (hT.ext he) hB2 (hS2.ext e8) tt dZ dZ).mono λ en w' h=>⟨_,h.1,rfl,_,e8,h.2⟩) (λ v w3 hm=>?_)));clear hK K;refine aeA kZ (λ K hK=>?_))|refine yO ?_|(refine yC ?_ ?_<;>intro hc)|(refine yV ?_;first|(refine oC 31 ?_;refine b8A (f:=31) rfl rfl rfl rfl rfl  (.pred (k6A w.heap.size tSp .u64 S)) (by intro u1 u2 u3 w e hu1 hu2 hu3;(try obtain rfl:u1=_:=hu1);(try obtain rfl:u2=_:=hu2);(try obtain rfl:u3=_:=hu3);exact hrw _ e) ?_)|(refine oD 126 ?_;refine oC 32 ?_;refine a4A (f:=32) rfl rfl rfl rfl  (.pred (rsP (λ k=>w1.heap.size≤k) TT q)) (by intro u1 u2 w e hu1 hu2;(try obtain rfl:u1=_:=hu1);(try obtain rfl:u2=_:=hu2);exact hone _ e) ?_)|(refine oD 129 ?_;refine oC 32 ?_;refine a4A (f:=32) rfl rfl rfl rfl  (.pred (rsP (λ k=>w1.heap.size≤k) TT q)) (by intro u1 u2 w e hu1 hu2;(try obtain rfl:u1=_:=hu1);(try obtain rfl:u2=_:=hu2);exact htwo _ e) ?_)|(refine oC 17 ?_;refine a3A (f:=17) rfl rfl rfl  (.pred (k6A w.heap.size tSp .u64 S)) (by intro u1 w e hu1;(try obtain rfl:u1=_:=hu1);exact hrn _ _ hu1 (he.trans e)) ?_)|(refine oC 16 ?_;refine a4A (f:=16) rfl rfl rfl rfl  (.val (.bool true)) (by intro u1 u2 w e hu1 hu2;(try obtain rfl:u1=_:=hu1);(try obtain rfl:u2=_:=hu2);exact atA (by rw [decide_eq_true rfl]) (rjA _ _ _ S S (OwnP.slP hu1) (OwnP.slP hu2))) ?_))|(refine yN hK ?_;clear hK K))|refine wG ?_|(refine yR ?_;intro K hK)|fail)
    obtain ⟨rfl,wz,ez,kv',lv',hS',hF,hl1,hl2⟩:=hm;have x3:Ext w1 w3:=Fr.ext (e2.trans ez) hF hB2;exact a5A (k+1) (λ w5 e5=>⟨hkl,(he.trans x3).trans e5,hX.ext (x3.trans e5),hY.ext (x3.trans e5)⟩) oZ (by rw [hid];(repeat' (first|exact Sub.nil|(refine Sub.val rfl ?_ ?_;first|with_reducible rfl|(congr 1;omega))|refine Sub.same rfl ?_));done)
   obtain rfl:k=n+2:=oZ;clear hY
   repeat' (first|(refine yL ?_;first|refine a0A rfl ?_|(refine oD 145 ?_;refine akA rfl _ rfl rfl (HasI.val (hy.ext he)).c ?_)|refine yO ?_|(refine yC ?_ ?_<;>intro hc)|(refine yN hK ?_;clear hK K))|refine wG ?_|(refine yR ?_;intro K hK)|fail)
   refine abA (ι:=Nat × Value) (λ j=>[(0,.val v),(1,.val (.int .i64 n)),(2,.val u),(8,.val (.pointer (some ⟨bx,0,none⟩))),(19,.val j.2),(145,.val (.int .i64 ys.length)),(146,.val (.int .i64 j.1))])
    (λ j w'=>j.1≤ys.length∧Ext w w'∧IX tIv n (λ i=>idP ids i) w' (.pointer (some ⟨bx,0,none⟩))∧SlP .u64 w' j.2 (spL (orY ids ys j.1) TOP)) (λ j=>ys.length-j.1)
    (λ w2 e2=>⟨(0,nilS),⟨Nat.zero_le _,he.trans e2,hX.ext e2,by dsimp only [orY];rw [sp_no];exact (OwnP.nil (base:=0) (e:=0)).slP⟩,sZ⟩) ?_
   clear hX he w1;rintro ⟨k,vs⟩ w1 ⟨hk,he,hX,hs⟩;dsimp only at hk hs ⊢;have hye:=hy.ext he
   by_cases hkl:k<ys.length
   ·have hoy:orY ids ys (k+1)=two (opF 2) (orY ids ys k) (idP ids (ys.getD k 0)):=rfl
    obtain ⟨Y,hY⟩:∃ Y,Y=ys.getD k 0:=⟨_,rfl⟩;rw [← hY] at hoy;have hrw:∀ w',Ext w1 w'→Fc Tryz.prog 31 #[v,.int .i64 Y,.int .i64 Y] w' (Ret w' (.pred (k6A w.heap.size tSp .u64 (spL (idP ids Y) TOP)))):=λ w' e=>by
     have:=(n6A (h.ext (he.trans e)) Y Y oZ).mono (elA (he.trans e).size rfl);rw [n8A] at this;exact this
    have hbo:∀ w' u2,Ext w1 w'→SlP .u64 w' u2 (spL (idP ids Y) TOP)→Fc Tryz.prog 34 #[vs,u2,.int .i64 2] w' (Ret w' (.pred (k6A w.heap.size tSp .u64 (spL (orY ids ys (k+1)) TOP)))):=λ w' u2 e hu=>by
     rw [hoy];exact (rnA w' 2 (hs.ext e) hu).mono (elA (he.trans e).size rfl)
    repeat' (first|(refine yL ?_;first|refine a0A rfl ?_|(refine oD 153 ?_;refine acA rfl _ rfl (λ _=>rfl) rfl (HasI.val hye) rfl hkl ?_;rw [← hY])|(refine oD 157 ?_;refine acA rfl _ rfl (λ _=>rfl) rfl (HasI.val hye) rfl hkl ?_;rw [← hY])|refine yO ?_|(refine yC ?_ ?_<;>intro hc)|(refine yV ?_;first|(refine oC 31 ?_;refine b8A (f:=31) rfl rfl rfl rfl rfl  (.pred (k6A w.heap.size tSp .u64 (spL (idP ids Y) TOP))) (by intro u1 u2 u3 w e hu1 hu2 hu3;(try obtain rfl:u1=_:=hu1);(try obtain rfl:u2=_:=hu2);(try obtain rfl:u3=_:=hu3);exact hrw _ e) ?_)|(refine oC 34 ?_;refine b8A (f:=34) rfl rfl rfl rfl rfl  (.pred (k6A w.heap.size tSp .u64 (spL (orY ids ys (k+1)) TOP))) (by intro u1 u2 u3 w e hu1 hu2 hu3;(try obtain rfl:u1=_:=hu1);(try obtain rfl:u2=_:=hu2);(try obtain rfl:u3=_:=hu3);exact hbo _ _ e (OwnP.slP hu2)) ?_))|(refine yN hK ?_;clear hK K))|refine wG ?_|(refine yR ?_;intro K hK)|fail)
    refine fbA 19 rfl (λ v9 w9 e9 h9=>?_);replace h9:OwnP w.heap.size tSp .u64 w9 v9 (spL (orY ids ys (k+1)) TOP):=h9;exact a5A (k+1,v9) (λ w5 e5=>⟨hkl,he.trans (e9.trans e5),hX.ext (e9.trans e5),h9.slP.ext e5⟩) eZ sZ
   obtain rfl:k=ys.length:=oZ;have ham:=c8B (ys:=ys) hin;have hamc:∀ w',Ext w1 w'→Fc Tryz.prog 35 #[.pointer (some ⟨bx,0,none⟩),u] w' (Ret w' (.pred (rsP TT TT (orY ids ys ys.length)))):=λ w' e=>by
    rw [← ham];exact b2B (.inr (hX.ext e)) oZ (hy.ext (he.trans e)) (hT.ext (he.trans e))
   have hrn:∀ w' u,RSet TT TT w' u (orY ids ys ys.length)→Ext w w'→Fc Tryz.prog 17 #[u] w' (Ret w' (.pred (k6A w.heap.size tSp .u64 (spL (orY ids ys ys.length) TOP)))):=λ w' u hu x=>(xrA (.inr hu) (hT.ext x)).mono (elA x.size rfl)
   obtain ⟨S,hS⟩:∃ S,S=spL (orY ids ys ys.length) TOP:=⟨_,rfl⟩;rw [← hS] at hrn hs;obtain ⟨q,hq⟩:∃ q,q=orY ids ys ys.length:=⟨_,rfl⟩;rw [← hq] at hamc hrn;clear ham hS hq
   repeat' (first|(refine yL ?_;first|refine a0A rfl ?_|refine u7A rfl rfl rfl rfl rfl HasI.own ?_|refine twA rfl rfl rfl rfl rfl ?_|refine yO ?_|(refine yC ?_ ?_<;>intro hc)|(refine yV ?_;first|(refine oC 35 ?_;refine a4A (f:=35) rfl rfl rfl rfl  (.pred (rsP TT TT q)) (by intro u1 u2 w e hu1 hu2;(try obtain rfl:u1=_:=hu1);(try obtain rfl:u2=_:=hu2);exact hamc _ e) ?_)|(refine oC 17 ?_;refine a3A (f:=17) rfl rfl rfl  (.pred (k6A w.heap.size tSp .u64 S)) (by intro u1 w e hu1;(try obtain rfl:u1=_:=hu1);exact hrn _ _ hu1 (he.trans e)) ?_)|(refine oC 16 ?_;refine a4A (f:=16) rfl rfl rfl rfl  (.val (.bool true)) (by intro u1 u2 w e hu1 hu2;(try obtain rfl:u1=_:=hu1);(try obtain rfl:u2=_:=hu2);exact atA (by rw [decide_eq_true rfl]) (rjA _ _ _ S S (OwnP.slP hu1) (hs.ext e))) ?_)|(refine oC 22 ?_;refine a3A (f:=22) rfl rfl rfl  (.pred (b4A w.heap.size tB .u8 B)) (by intro u1 w e hu1;(try obtain rfl:u1=_:=hu1);exact hby _ _ (hX.ext e) (hT.ext (he.trans e)) (he.trans e).size) ?_)|(refine oC 30 ?_;refine a4A (f:=30) rfl rfl rfl rfl  (.pred (b4A w.heap.size tB .u8 B)) (by intro u1 u2 w e hu1 hu2;(try obtain rfl:u1=_:=hu1);(try obtain rfl:u2=_:=hu2);exact hrby _ (h.ext (he.trans e)) (he.trans e).size) ?_)|(refine oC 20 ?_;refine dqA (f:=20) rfl rfl  (.val (.bool true)) (by intro w e;exact m8A _ (hT.ext (he.trans e))) ?_))|(refine yN hK ?_;clear hK K))|refine wG ?_|(refine yR ?_;intro K hK)|fail)
   all_goals exact afA rfl rfl he rfl
end Go.Proofs.YtbokphkfojijoaaGreatDoor.Pt
end
