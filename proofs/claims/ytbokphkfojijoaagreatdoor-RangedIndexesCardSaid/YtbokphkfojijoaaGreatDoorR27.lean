import Derived.Test.YtbokphkfojijoaaGreatDoorR26
set_option linter.unusedSimpArgs false
set_option linter.unusedVariables false
set_option maxRecDepth 3000
set_option maxHeartbeats 16000000
section
namespace Go.Proofs.YtbokphkfojijoaaGreatDoor.Pt
open Go.LA Go.ArrP Go.RowKit
def lst (ps:Nat→Nat→Bool):Nat→Nat→Bool
 | 0=>λ _=>false
 | k+1=>ps k
theorem znA {w:World} {v:Value} {ps:Nat→Nat→Bool} {m k rows:Nat} (h:SlI .u8 w v (bzA (λ i=>epA (ps i)) m)) (hT:Tab w) (hk:k≤m) (hm:m≤100) (h8:∀ i,nk (ps i)≤8) (htop:∀ i x,TOP≤x→ps i x=false) (hr:rows≤1000000) (hne:∀ i,cnt (two (λ x y=>x && !y) (lst ps i) (ps i)) TOP=0)
 {d:Bool} (hd:d=true↔((bzA (λ i=>epA (ps i)) k).length=(bzA (λ i=>epA (ps i)) m).length∧cnt (lst ps k) TOP=rows∧cnt (lst ps k) rows=rows)) :
 Fc Tryz.prog 27 #[v,.int .i64 rows,.int .i64 k] w (Ret w (rdX tRg d k ps)):=by
 have hlh:=h.len;have hml:=lpA h8 m;have hmb:=ttA h8 m;have htp:=eoA;refine Fc.of (args:=[_,_,_]) Tryz.func27 rfl rfl Tryz.ntmps27 nZ ?_
 repeat' (first|(refine yL ?_;first|refine a0A rfl ?_|refine foA (c:=.agg #[nilS]) rfl (λ _=>by kernel_rfl) ?_|(refine oD 30 ?_;refine goA rfl rfl ?_)|refine yO ?_|(refine yC ?_ ?_<;>intro hc)|(refine yV ?_;first|(refine oC 40 ?_;refine dsA (f:=40) rfl rfl  (.pred (rsP TT TT (λ _=>false))) (by intro w e;exact Go.Proofs.YtbokphkfojijoaaGreatDoor.new_c _ tt) ?_))|(refine yN hK ?_;clear hK K))|refine wG ?_|(refine yR ?_;intro K hK)|fail)
 refine c3A 8 rfl (λ v8 wx ex hx8=>?_);refine c3A 11 rfl (λ v9 w9 e9 h9=>?_);obtain ⟨b,hbb,rfl,hb9⟩:=hx8;have hbw:w.heap.size≤b:=hbb
 refine abA (ι:=Nat × Value × Value × List Value) (λ j=>[(0,.val v),(1,.val (.int .i64 rows)),(8,.val (.pointer (some ⟨b,0,none⟩))),(9,.val (.int .i64 (bzA (λ i=>epA (ps i)) j.1).length)),(10,.val (.bool true)),(11,.val j.2.1),(32,.val (.int .i64 k)),(33,.val (.int .i64 j.1))])
  (λ j w'=>Ext w w'∧j.1≤k∧w'.heap[b]?=some (.cells #[j.2.2.1] tRg (0,0))∧Sets w' w.heap.size j.2.2.1 j.2.2.2 j.1 ps∧RSet TT TT w' j.2.1 (lst ps j.1))
  (λ j=>k-j.1) (λ w2 e2=>⟨(0,v9,nilS,[]),⟨(ex.trans e9).trans e2,Nat.zero_le _,(e9.trans e2).block hb9,⟨Own.nil,λ i hi=>absurd hi (Nat.not_lt_zero _)⟩,RSet.ext h9 e2⟩,sZ⟩) ?_
 rintro ⟨i,wv,sv,ptrs⟩ w1 ⟨he,hi,hb1,hs,hwv⟩;dsimp only at hi hb1 hs hwv ⊢;have hcl:=lpA h8 i
 by_cases hil:i<k
 ·have hnei:=hne i
  have hcn:(bzA (λ i=>epA (ps i)) i).length+(epA (ps i)).length=(bzA (λ i=>epA (ps i)) (i+1)).length:=by
   show _=(_++epA (ps i)).length;rw [List.length_append]
  have hrd:∀ w',Ext w1 w'→Fc Tryz.prog 15 #[v,.int .i64 ((bzA (λ i=>epA (ps i)) i).length:Nat)] w' (Ret w' (.tup3 (.pred (rsP TT TT (ps i))) (.val (.int .i64 ((bzA (λ i=>epA (ps i)) (i+1)).length:Nat))) (.val (.int .i64 0)))):=λ w' e=>by
   have:=cyB (f:=csA (ps i)) (h.ext (he.trans e)) (hT.ext (he.trans e)) oZ hmb (h8 i) (htop i) (beB (ps:=ps) oZ);rw [show (n6A (ps i) (csA (ps i))).length=(epA (ps i)).length from rfl,hcn] at this;exact this
  obtain ⟨a0,ha0⟩:∃ a,a=(bzA (λ i=>epA (ps i)) i).length:=⟨_,rfl⟩;obtain ⟨a1,ha1⟩:∃ a,a=(bzA (λ i=>epA (ps i)) (i+1)).length:=⟨_,rfl⟩;rw [← ha0,← ha1] at hrd;rw [← ha0]
  repeat' (first|(refine yL ?_;first|refine a0A rfl ?_|(refine oD 45 ?_;refine a3A (hK _ _ (avA 12 rfl (λ v12 w2 e2 h2=>?_)));clear hK K;have hb2:=e2.block hb1;have hs2:=hs.ext e2;have hp2:RSet TT TT w2 v12 (ps i):=h2;obtain ⟨cv1,cv2⟩:=ybA _ _ h2;refine acA kZ (λ K hK=>cuA rfl rfl ?_))|refine a9A rfl rfl ?_|refine a1A (a':=⟨b,0,none⟩) rfl rfl (λ _=>rfl) ?_|(refine oD 49 ?_;refine a6A (c:=sv) rfl (λ _=>rfl) rfl hb2 rfl ?_)|(refine oD 51 ?_;refine e6A rfl woA rfl cv1 ?_)|(refine oD 52 ?_;refine a3A (hK _ _ (arA rfl dZ woA rfl hs2.own rfl HasC.own (λ c hc=>by rw [List.mem_singleton] at hc;subst hc;exact cv2) (by unfold maxLen;omega) oZ (λ sv' w4 w5 e4 hos hf hl=>?_)));clear hK K;have hb5:=hf.at (e4.block hb2) (λ hq=>Own.apart hs2.own hb2 dZ hq);obtain ⟨ck1,ck2⟩:=dfA hos;refine acA kZ (λ K hK=>?_))|(refine a3A (hK _ _ (bgA rfl rfl rfl hb5 (λ _=>rfl) (Nat.lt_succ_self 0) ck1 ck2 (λ w6 e6=>?_)));clear hK K;dsimp only [vals];obtain ⟨w7,hw7'⟩:∃ w7,w7=w6.setRow b (#[sv].setIfInBounds 0 sv'):=⟨_,rfl⟩;rw [← hw7'])|refine yO ?_|(refine yC ?_ ?_<;>intro hc)|(refine yV ?_;first|(refine oC 15 ?_;refine a4A (f:=15) rfl rfl rfl rfl  (.tup3 (.pred (rsP TT TT (ps i))) (.val (.int .i64 (a1:Nat))) (.val (.int .i64 0))) (by intro u1 u2 w e hu1 hu2;(try obtain rfl:u1=_:=hu1);(try obtain rfl:u2=_:=hu2);exact hrd _ e) ?_))|(refine yN hK ?_;clear hK K))|refine wG ?_|(refine yR ?_;intro K hK)|fail)
  rw [show #[sv].setIfInBounds 0 sv'=#[sv'] from rfl] at hw7';have x4:=e2.trans e4;have hR:∀ q,sv.ownBlock=some q→∃ cur,w4.heap[q]?=some (.cells cur tPs (0,0)):=λ q hq=>b0A (hs.own.ext x4) hq
  have hRs:∀ {p:Nat→Bool} {vv:Value},RSet TT TT w4 vv p→RSet TT TT w5 vv p:=λ hh=>hh.off hf (λ q hq=>by obtain ⟨cur,hc⟩:=hR q hq;exact ⟨cur,_,hc,by decide,by decide,by decide,by decide,by decide⟩)
  have hs9:=hRs (RSet.ext hp2 e4);have hw9:=hRs (RSet.ext hwv x4);have hs5:∀ j,j<i+1→RSet TT TT w5 ((ptrs++[v12]).getD j undef) (ps j):=λ j hj=>by
   rw [ghA hs.own.lenV]
   by_cases e:j<i
   ·rw [if_pos e];exact hRs ((hs.at_ j e).ext x4)
   ·obtain rfl:j=i:=oZ
    rw [if_neg e,if_pos rfl];exact hs9
  have hsv5:LA.Own w.heap.size tPs 1 w5 sv' (i+1) (ptrs++[v12]):=Own.rebase hos (hl.ge (λ q hq=>(Own.lt hs.own q hq).1) (Nat.le_trans he.size x4.size));have x5:Ext w w5:=Fr.ext (he.trans x4) hf (λ q hq=>(Own.lt hs.own q hq).1);have hb6:=e6.block hb5;have hfr:Fr (λ q=>q=b) w6 (w6.setRow b #[sv']):=Fr.setRow (R:=λ q=>q=b) (Fr.of (Ext.refl _)) rfl _;have hRb:∀ q,q=b→∃ cur e,w6.heap[q]?=some (.cells cur e (0,0))∧e=tRg:=λ q hq=>by subst hq;exact ⟨_,_,hb6,rfl⟩
  have hoff:∀ {p:Nat→Bool} {vv:Value},RSet TT TT w5 vv p→RSet TT TT (w6.setRow b #[sv']) vv p:=λ hh=>(RSet.ext hh e6).off hfr (λ q hq=>by obtain ⟨cur,e,h1,rfl⟩:=hRb q hq;exact ⟨cur,_,h1,by decide,by decide,by decide,by decide,by decide⟩)
  have hb7:(w6.setRow b #[sv']).heap[b]?=some (.cells #[sv'] tRg (0,0)):=setRow_heap w6 b _ _ _ _ hb6;have hs7:Sets (w6.setRow b #[sv']) w.heap.size sv' (ptrs++[v12]) (i+1) ps :=
   ⟨Own.setRow (hsv5.ext e6) _ (Own.apart (hsv5.ext e6) hb6 dZ),λ j hj=>hoff (hs5 j hj)⟩
  have hp7:=hoff hs9;have hw7:=hoff hw9;have x7:=(x5.trans e6).setRow hbw #[sv'];rw [← hw7'] at hb7 hs7 hp7 hw7 x7;clear hw7' hoff hRb hfr hb6 hsv5 hs5 hs9 hw9 hRs hR;have hdf:∀ w',Ext w7 w'→Fc Tryz.prog 73 #[wv,v12] w' (Ret w' (.pred (rsP TT TT (two (λ x y=>x && !y) (lst ps i) (ps i))))):=λ w' e=>qbA (A:=TT) (B:=TT) (B1:=TT) (B2:=TT) (.inr (hw7.ext e)) (.inr (hp7.ext e)) (hT.ext (x7.trans e)) tt tt
  have hln:∀ w' u,RSet TT TT w' u (two (λ x y=>x && !y) (lst ps i) (ps i))→Fc Tryz.prog 43 #[u] w' (Ret w' (.val (.int .i64 (0:Nat)))):=λ w' u hu=>by
   have:=srA (B:=TT) (A:=TT) (.inr hu);rw [hnei] at this;exact this
  repeat' (first|(refine yL ?_;first|refine a0A rfl ?_|refine yO ?_|(refine yC ?_ ?_<;>intro hc)|(refine yV ?_;first|(refine oC 73 ?_;refine a4A (f:=73) rfl rfl rfl rfl  (.pred (rsP TT TT (two (λ x y=>x && !y) (lst ps i) (ps i)))) (by intro u1 u2 w e hu1 hu2;(try obtain rfl:u1=_:=hu1);(try obtain rfl:u2=_:=hu2);exact hdf _ e) ?_)|(refine oC 43 ?_;refine a2A (f:=43) rfl rfl rfl  (.val (.int .i64 (0:Nat))) (by intro u1 w e hu1;(try obtain rfl:u1=_:=hu1);exact hln _ _ hu1) ?_))|(refine yN hK ?_;clear hK K))|refine wG ?_|(refine yR ?_;intro K hK)|fail)
  exact a5A (i+1,v12,sv',ptrs++[v12]) (λ w8 e8=>⟨x7.trans e8,hil,e8.block hb7,hs7.ext e8,hp7.ext e8⟩) eZ (by dsimp only;rw [← ha1];(repeat' (first|exact Sub.nil|(refine Sub.val rfl ?_ ?_;first|with_reducible rfl|(congr 1;omega))|refine Sub.same rfl ?_));done)
 ·obtain rfl:i=k:=oZ
  have hln:∀ w',Ext w1 w'→_:=λ w' e=>srA (B:=TT) (A:=TT) (.inr (RSet.ext hwv e))
  have hrk:∀ w',Ext w1 w'→_:=λ w' e=>czB (B:=TT) (A:=TT) (x:=rows) (.inr (RSet.ext hwv e)) oZ
  rw [Nat.min_eq_left oZ] at hrk;have hc1:cnt (lst ps i) TOP≤TOP:=cnt_le _ _;have hc2:cnt (lst ps i) rows≤rows:=cnt_le _ _;obtain ⟨a0,ha0⟩:∃ a,a=(bzA (λ i=>epA (ps i)) i).length:=⟨_,rfl⟩;obtain ⟨a1,ha1⟩:∃ a,a=(bzA (λ i=>epA (ps i)) m).length:=⟨_,rfl⟩;obtain ⟨c1,hcc1⟩:∃ a,a=cnt (lst ps i) TOP:=⟨_,rfl⟩;obtain ⟨c2,hcc2⟩:∃ a,a=cnt (lst ps i) rows:=⟨_,rfl⟩;rw [← ha0,← ha1,← hcc1,← hcc2] at hd;rw [← hcc1] at hln hc1;rw [← hcc2] at hrk hc2;rw [← ha0];rw [← ha0] at hcl;have hlen:∀ w',SlI .u8 w' v (bzA (λ i=>epA (ps i)) m)→SlC w' v a1 1 ((bzA (λ i=>epA (ps i)) m).map (Value.int .u8)):=λ w' hh=>by rw [ha1];exact hh
  have hcase:(a0=a1∧c1=rows∧c2=rows∧d=true)∨((a0≠a1∨(a0=a1∧c1≠rows)∨(a0=a1∧c1=rows∧c2≠rows))∧d=false):=by
   cases d with
   | true=>obtain ⟨h1,h2,h3⟩:=hd.1 rfl;exact .inl ⟨h1,h2,h3,rfl⟩
   | false =>
     refine .inr ⟨?_,rfl⟩;have:¬ (a0=a1∧c1=rows∧c2=rows):=λ hh=>by have:=hd.2 hh;cases this
     omega
  clear hcc1 hcc2 ha0 hd
  rcases hcase with ⟨h1,h2,h3,rfl⟩|⟨h1,rfl⟩
  ·skip
   repeat' (first|(refine yL ?_;first|refine a0A rfl ?_|(refine coA ?_;refine apA rfl _ rfl rfl (HasC.val (hlen _ (h.ext he))) ?_)|refine yO ?_|(refine yC ?_ ?_<;>intro hc)|(refine yV ?_;first|(refine oC 43 ?_;refine a2A (f:=43) rfl rfl rfl  (.val (.int .i64 c1)) (by intro u1 w e hu1;(try obtain rfl:u1=_:=hu1);exact hln _ e) ?_)|(refine oC 72 ?_;refine a4A (f:=72) rfl rfl rfl rfl  (.val (.int .i64 c2)) (by intro u1 u2 w e hu1 hu2;(try obtain rfl:u1=_:=hu1);(try obtain rfl:u2=_:=hu2);exact hrk _ e) ?_))|(refine yN hK ?_;clear hK K))|refine wG ?_|(refine yR ?_;intro K hK)|fail)
   refine dvA rfl (λ x y w5 e5 hx hy=>⟨_,rfl,he.trans e5,x,y,rfl,?_,hy⟩);obtain rfl:x=_:=hx;exact ⟨b,sv,ptrs,rfl,e5.block hb1,⟨Own.base (hs.ext e5).own (Nat.zero_le _),(hs.ext e5).at_⟩⟩
  ·rcases h1 with h1|⟨h1,h2⟩|⟨h1,h2,h3⟩
   all_goals
    repeat' (first|(refine yL ?_;first|refine a0A rfl ?_|(refine coA ?_;refine apA rfl _ rfl rfl (HasC.val (hlen _ (h.ext he))) ?_)|refine yO ?_|(refine yC ?_ ?_<;>intro hc)|(refine yV ?_;first|(refine oC 43 ?_;refine a2A (f:=43) rfl rfl rfl  (.val (.int .i64 c1)) (by intro u1 w e hu1;(try obtain rfl:u1=_:=hu1);exact hln _ e) ?_)|(refine oC 72 ?_;refine a4A (f:=72) rfl rfl rfl rfl  (.val (.int .i64 c2)) (by intro u1 u2 w e hu1 hu2;(try obtain rfl:u1=_:=hu1);(try obtain rfl:u2=_:=hu2);exact hrk _ e) ?_))|(refine yN hK ?_;clear hK K))|refine wG ?_|(refine yR ?_;intro K hK)|fail)
    all_goals exact dnA rfl rfl rfl he rfl rfl
end Go.Proofs.YtbokphkfojijoaaGreatDoor.Pt
end
