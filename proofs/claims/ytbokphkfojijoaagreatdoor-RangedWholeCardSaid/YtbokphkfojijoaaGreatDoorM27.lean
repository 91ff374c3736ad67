import Derived.Test.YtbokphkfojijoaaGreatDoorM25
section
set_option linter.unusedSimpArgs false
set_option linter.unusedVariables false
set_option maxRecDepth 3000
namespace Go.Proofs.YtbokphkfojijoaaGreatDoor.Pt
open Go.LA Go.ArrP Go.RowKit
def lst (ps:Nat → Nat → Bool):Nat → Nat → Bool
  | 0=>fun _=>false
  | k + 1=>ps k
set_option maxHeartbeats 8000000 in
theorem q5A {w:World} {v:Value} {ps:Nat → Nat → Bool} {m k rows:Nat} (h:SlI .u8 w v (bdA (fun i=>ccA (ps i)) m)) (hT:Tab w) (hk:k ≤ m) (hm:m ≤ 100) (h8:∀ i,nk (ps i) ≤ 8) (htop:∀ i x,TOP ≤ x → ps i x=false) (hr:rows ≤ 1000000) (hne:∀ i,cnt (two (fun x y=>x && !y) (lst ps i) (ps i)) TOP=0)
    {d:Bool} (hd:d=true ↔ ((bdA (fun i=>ccA (ps i)) k).length=(bdA (fun i=>ccA (ps i)) m).length ∧ cnt (lst ps k) TOP=rows ∧ cnt (lst ps k) rows=rows)) :
    Fc Tryz.prog 27 #[v,.int .i64 rows,.int .i64 k] w (Ret w (rdX tRg d k ps)):=by
  have hlh:=h.len
  have hml:=eqA h8 m
  have hmb:=gkA h8 m
  have htp:=f0A
  refine Fc.of (args:=[_,_,_]) Tryz.func27 rfl rfl Tryz.ntmps27 (Nat.le_of_ble_eq_true rfl) ?_
  repeat' (first|(refine oLA ?_;first|refine a0A rfl ?_|refine dsA (c:=.agg #[nilS]) rfl (fun _=>by kernel_rfl) ?_|(refine oD 30 ?_;refine enA rfl rfl ?_)|refine wOp ?_|(refine wCm ?_ ?_<;>intro hc)|(refine oCv ?_;first|(refine oC 40 ?_;refine c4A (f:=40) rfl rfl  (.pred (rsP TT TT (fun _=>false))) (by intro w e;exact Go.Proofs.YtbokphkfojijoaaGreatDoor.new_c _ tt) ?_))|(refine wNl hK ?_;clear hK K))|refine wG ?_|(refine wCR ?_;intro K hK)|fail)
  all_goals skip
  refine buA 8 rfl (fun v8 wx ex hx8=>?_)
  refine buA 11 rfl (fun v9 w9 e9 h9=>?_)
  obtain ⟨b,hbb,rfl,hb9⟩:=hx8
  have hbw:w.heap.size ≤ b:=hbb
  refine adA (ι:=Nat × Value × Value × List Value) (fun j=>[(0,.val v),(1,.val (.int .i64 rows)),(8,.val (.pointer (some ⟨b,0,none⟩))),(9,.val (.int .i64 (bdA (fun i=>ccA (ps i)) j.1).length)),(10,.val (.bool true)),(11,.val j.2.1),(32,.val (.int .i64 k)),(33,.val (.int .i64 j.1))])
    (fun j w'=>Ext w w' ∧ j.1 ≤ k ∧ w'.heap[b]?=some (.cells #[j.2.2.1] tRg (0,0)) ∧ Sets w' w.heap.size j.2.2.1 j.2.2.2 j.1 ps ∧ RSet TT TT w' j.2.1 (lst ps j.1))
    (fun j=>k - j.1) (fun w2 e2=>⟨(0,v9,nilS,[]),⟨(ex.trans e9).trans e2,Nat.zero_le _,(e9.trans e2).block hb9,⟨Own.nil,fun i hi=>absurd hi (Nat.not_lt_zero _)⟩,RSet.ext h9 e2⟩,(by repeat' (first | exact Sub.nil | refine Sub.val rfl (by first | with_reducible rfl | (congr 1;omega)) ?_ | refine Sub.same rfl ?_))⟩) ?_
  rintro ⟨i,wv,sv,ptrs⟩ w1 ⟨he,hi,hb1,hs,hwv⟩
  dsimp only at hi hb1 hs hwv ⊢
  have hcl:=eqA h8 i
  by_cases hil:i < k
  · have hnei:=hne i
    have hcn:(bdA (fun i=>ccA (ps i)) i).length + (ccA (ps i)).length=(bdA (fun i=>ccA (ps i)) (i + 1)).length:=by
      show _=(_ ++ ccA (ps i)).length;rw [List.length_append]
    have hrd:∀ w',Ext w1 w' → Fc Tryz.prog 15 #[v,.int .i64 ((bdA (fun i=>ccA (ps i)) i).length:Nat)] w' (Ret w' (.tup3 (.pred (rsP TT TT (ps i))) (.val (.int .i64 ((bdA (fun i=>ccA (ps i)) (i + 1)).length:Nat))) (.val (.int .i64 0)))):=fun w' e=>by
      have:=noA (f:=c5A (ps i)) (h.ext (he.trans e)) (hT.ext (he.trans e)) (by omega) hmb (h8 i) (htop i) (klA (ps:=ps) (by omega))
      rw [show (luA (ps i) (c5A (ps i))).length=(ccA (ps i)).length from rfl,hcn] at this
      exact this
    obtain ⟨a0,ha0⟩:∃ a,a=(bdA (fun i=>ccA (ps i)) i).length:=⟨_,rfl⟩
    obtain ⟨a1,ha1⟩:∃ a,a=(bdA (fun i=>ccA (ps i)) (i + 1)).length:=⟨_,rfl⟩
    rw [← ha0,← ha1] at hrd
    rw [← ha0]
    repeat' (first|(refine oLA ?_;first|refine a0A rfl ?_|(refine oD 45 ?_;refine a4A (hK _ _ (b8A 12 rfl (fun v12 w2 e2 h2=>?_)));clear hK K;have hb2:=e2.block hb1;have hs2:=hs.ext e2;have hp2:RSet TT TT w2 v12 (ps i):=h2;obtain ⟨cv1,cv2⟩:=jdA _ _ h2;refine aeA (by kernel_rfl) (fun K hK=>cmA rfl rfl ?_))|refine a8A rfl rfl ?_|refine a1A (a':=⟨b,0,none⟩) rfl rfl (fun _=>rfl) ?_|(refine oD 49 ?_;refine a5A (c:=sv) rfl (fun _=>rfl) rfl hb2 rfl ?_)|(refine oD 51 ?_;refine d6A rfl haA rfl cv1 ?_)|(refine oD 52 ?_;refine a4A (hK _ _ (btA rfl (by decide) haA rfl hs2.own rfl HasC.own (fun c hc=>by rw [List.mem_singleton] at hc;subst hc;exact cv2) (by unfold maxLen;omega) (by omega) (fun sv' w4 w5 e4 hos hf hl=>?_)));clear hK K;have hb5:=hf.at (e4.block hb2) (fun hq=>Own.apart hs2.own hb2 (by decide) hq);obtain ⟨ck1,ck2⟩:=c8A hos;refine aeA (by kernel_rfl) (fun K hK=>?_))|(refine a4A (hK _ _ (bgA rfl rfl rfl hb5 (fun _=>rfl) (Nat.lt_succ_self 0) ck1 ck2 (fun w6 e6=>?_)));clear hK K;dsimp only [vals];obtain ⟨w7,hw7'⟩:∃ w7,w7=w6.setRow b (#[sv].setIfInBounds 0 sv'):=⟨_,rfl⟩;rw [← hw7'])|refine wOp ?_|(refine wCm ?_ ?_<;>intro hc)|(refine oCv ?_;first|(refine oC 15 ?_;refine a3A (f:=15) rfl rfl rfl rfl  (.tup3 (.pred (rsP TT TT (ps i))) (.val (.int .i64 (a1:Nat))) (.val (.int .i64 0))) (by intro u1 u2 w e hu1 hu2;(try obtain rfl:u1=_:=hu1);(try obtain rfl:u2=_:=hu2);exact hrd _ e) ?_))|(refine wNl hK ?_;clear hK K))|refine wG ?_|(refine wCR ?_;intro K hK)|fail)
    all_goals skip
    rw [show #[sv].setIfInBounds 0 sv'=#[sv'] from rfl] at hw7'
    have x4:=e2.trans e4
    have hR:∀ q,sv.ownBlock=some q → ∃ cur,w4.heap[q]?=some (.cells cur tPs (0,0)):=fun q hq=>atA (hs.own.ext x4) hq
    have hRs:∀ {p:Nat → Bool} {vv:Value},RSet TT TT w4 vv p → RSet TT TT w5 vv p:=fun hh=>hh.off hf (fun q hq=>by obtain ⟨cur,hc⟩:=hR q hq;exact ⟨cur,_,hc,by decide,by decide,by decide,by decide,by decide⟩)
    have hs9:=hRs (RSet.ext hp2 e4)
    have hw9:=hRs (RSet.ext hwv x4)
    have hs5:∀ j,j < i + 1 → RSet TT TT w5 ((ptrs ++ [v12]).getD j undef) (ps j):=fun j hj=>by
      rw [ewA hs.own.lenV]
      by_cases e:j < i
      · rw [if_pos e];exact hRs ((hs.at_ j e).ext x4)
      · obtain rfl:j=i:=by omega
        rw [if_neg e,if_pos rfl];exact hs9
    have hsv5:LA.Own w.heap.size tPs 1 w5 sv' (i + 1) (ptrs ++ [v12]):=Own.rebase hos (hl.ge (fun q hq=>(Own.lt hs.own q hq).1) (Nat.le_trans he.size x4.size))
    have x5:Ext w w5:=Fr.ext (he.trans x4) hf (fun q hq=>(Own.lt hs.own q hq).1)
    have hb6:=e6.block hb5
    have hfr:Fr (fun q=>q=b) w6 (w6.setRow b #[sv']):=Fr.setRow (R:=fun q=>q=b) (Fr.of (Ext.refl _)) rfl _
    have hRb:∀ q,q=b → ∃ cur e,w6.heap[q]?=some (.cells cur e (0,0)) ∧ e=tRg:=fun q hq=>by subst hq;exact ⟨_,_,hb6,rfl⟩
    have hoff:∀ {p:Nat → Bool} {vv:Value},RSet TT TT w5 vv p → RSet TT TT (w6.setRow b #[sv']) vv p:=fun hh=>(RSet.ext hh e6).off hfr (fun q hq=>by obtain ⟨cur,e,h1,rfl⟩:=hRb q hq;exact ⟨cur,_,h1,by decide,by decide,by decide,by decide,by decide⟩)
    have hb7:(w6.setRow b #[sv']).heap[b]?=some (.cells #[sv'] tRg (0,0)):=setRow_heap w6 b _ _ _ _ hb6
    have hs7:Sets (w6.setRow b #[sv']) w.heap.size sv' (ptrs ++ [v12]) (i + 1) ps :=
      ⟨Own.setRow (hsv5.ext e6) _ (Own.apart (hsv5.ext e6) hb6 (by decide)),fun j hj=>hoff (hs5 j hj)⟩
    have hp7:=hoff hs9
    have hw7:=hoff hw9
    have x7:=(x5.trans e6).setRow hbw #[sv']
    rw [← hw7'] at hb7 hs7 hp7 hw7 x7
    clear hw7' hoff hRb hfr hb6 hsv5 hs5 hs9 hw9 hRs hR
    have hdf:∀ w',Ext w7 w' → Fc Tryz.prog 73 #[wv,v12] w' (Ret w' (.pred (rsP TT TT (two (fun x y=>x && !y) (lst ps i) (ps i))))):=fun w' e=>knA (A:=TT) (B:=TT) (B1:=TT) (B2:=TT) (.inr (hw7.ext e)) (.inr (hp7.ext e)) (hT.ext (x7.trans e)) tt tt
    have hln:∀ w' u,RSet TT TT w' u (two (fun x y=>x && !y) (lst ps i) (ps i)) → Fc Tryz.prog 43 #[u] w' (Ret w' (.val (.int .i64 (0:Nat)))):=fun w' u hu=>by
      have:=h8A (B:=TT) (A:=TT) (.inr hu);rw [hnei] at this;exact this
    repeat' (first|(refine oLA ?_;first|refine a0A rfl ?_|refine wOp ?_|(refine wCm ?_ ?_<;>intro hc)|(refine oCv ?_;first|(refine oC 73 ?_;refine a3A (f:=73) rfl rfl rfl rfl  (.pred (rsP TT TT (two (fun x y=>x && !y) (lst ps i) (ps i)))) (by intro u1 u2 w e hu1 hu2;(try obtain rfl:u1=_:=hu1);(try obtain rfl:u2=_:=hu2);exact hdf _ e) ?_)|(refine oC 43 ?_;refine a2A (f:=43) rfl rfl rfl  (.val (.int .i64 (0:Nat))) (by intro u1 w e hu1;(try obtain rfl:u1=_:=hu1);exact hln _ _ hu1) ?_))|(refine wNl hK ?_;clear hK K))|refine wG ?_|(refine wCR ?_;intro K hK)|fail)
    all_goals skip
    exact a6A (i + 1,v12,sv',ptrs ++ [v12]) (fun w8 e8=>⟨x7.trans e8,hil,e8.block hb7,hs7.ext e8,hp7.ext e8⟩) (by dsimp only;omega) (by dsimp only;rw [← ha1];(repeat' (first | exact Sub.nil | (refine Sub.val rfl ?_ ?_;first | with_reducible rfl | (congr 1;omega)) | refine Sub.same rfl ?_));done)
  · obtain rfl:i=k:=by omega
    have hln:∀ w',Ext w1 w' → _:=fun w' e=>h8A (B:=TT) (A:=TT) (.inr (RSet.ext hwv e))
    have hrk:∀ w',Ext w1 w' → _:=fun w' e=>vwA (B:=TT) (A:=TT) (x:=rows) (.inr (RSet.ext hwv e)) (by omega)
    rw [Nat.min_eq_left (by omega)] at hrk
    have hc1:cnt (lst ps i) TOP ≤ TOP:=cnt_le _ _
    have hc2:cnt (lst ps i) rows ≤ rows:=cnt_le _ _
    obtain ⟨a0,ha0⟩:∃ a,a=(bdA (fun i=>ccA (ps i)) i).length:=⟨_,rfl⟩
    obtain ⟨a1,ha1⟩:∃ a,a=(bdA (fun i=>ccA (ps i)) m).length:=⟨_,rfl⟩
    obtain ⟨c1,hcc1⟩:∃ a,a=cnt (lst ps i) TOP:=⟨_,rfl⟩
    obtain ⟨c2,hcc2⟩:∃ a,a=cnt (lst ps i) rows:=⟨_,rfl⟩
    rw [← ha0,← ha1,← hcc1,← hcc2] at hd
    rw [← hcc1] at hln hc1
    rw [← hcc2] at hrk hc2
    rw [← ha0]
    rw [← ha0] at hcl
    have hlen:∀ w',SlI .u8 w' v (bdA (fun i=>ccA (ps i)) m) → SlC w' v a1 1 ((bdA (fun i=>ccA (ps i)) m).map (Value.int .u8)):=fun w' hh=>by rw [ha1];exact hh
    have hcase:(a0=a1 ∧ c1=rows ∧ c2=rows ∧ d=true) ∨ ((a0 ≠ a1 ∨ (a0=a1 ∧ c1 ≠ rows) ∨ (a0=a1 ∧ c1=rows ∧ c2 ≠ rows)) ∧ d=false):=by
      cases d with
      | true=>obtain ⟨h1,h2,h3⟩:=hd.1 rfl;exact .inl ⟨h1,h2,h3,rfl⟩
      | false =>
        refine .inr ⟨?_,rfl⟩
        have:¬ (a0=a1 ∧ c1=rows ∧ c2=rows):=fun hh=>by have:=hd.2 hh;cases this
        omega
    clear hcc1 hcc2 ha0 hd
    rcases hcase with ⟨h1,h2,h3,rfl⟩ | ⟨h1,rfl⟩
    · skip
      repeat' (first|(refine oLA ?_;first|refine a0A rfl ?_|(refine dkA ?_;refine azA rfl _ rfl rfl (HasC.val (hlen _ (h.ext he))) ?_)|refine wOp ?_|(refine wCm ?_ ?_<;>intro hc)|(refine oCv ?_;first|(refine oC 43 ?_;refine a2A (f:=43) rfl rfl rfl  (.val (.int .i64 c1)) (by intro u1 w e hu1;(try obtain rfl:u1=_:=hu1);exact hln _ e) ?_)|(refine oC 72 ?_;refine a3A (f:=72) rfl rfl rfl rfl  (.val (.int .i64 c2)) (by intro u1 u2 w e hu1 hu2;(try obtain rfl:u1=_:=hu1);(try obtain rfl:u2=_:=hu2);exact hrk _ e) ?_))|(refine wNl hK ?_;clear hK K))|refine wG ?_|(refine wCR ?_;intro K hK)|fail)
      all_goals skip
      refine d4A rfl (fun x y w5 e5 hx hy=>⟨_,rfl,he.trans e5,x,y,rfl,?_,hy⟩)
      obtain rfl:x=_:=hx
      exact ⟨b,sv,ptrs,rfl,e5.block hb1,⟨Own.base (hs.ext e5).own (Nat.zero_le _),(hs.ext e5).at_⟩⟩
    · rcases h1 with h1 | ⟨h1,h2⟩ | ⟨h1,h2,h3⟩
      all_goals
        repeat' (first|(refine oLA ?_;first|refine a0A rfl ?_|(refine dkA ?_;refine azA rfl _ rfl rfl (HasC.val (hlen _ (h.ext he))) ?_)|refine wOp ?_|(refine wCm ?_ ?_<;>intro hc)|(refine oCv ?_;first|(refine oC 43 ?_;refine a2A (f:=43) rfl rfl rfl  (.val (.int .i64 c1)) (by intro u1 w e hu1;(try obtain rfl:u1=_:=hu1);exact hln _ e) ?_)|(refine oC 72 ?_;refine a3A (f:=72) rfl rfl rfl rfl  (.val (.int .i64 c2)) (by intro u1 u2 w e hu1 hu2;(try obtain rfl:u1=_:=hu1);(try obtain rfl:u2=_:=hu2);exact hrk _ e) ?_))|(refine wNl hK ?_;clear hK K))|refine wG ?_|(refine wCR ?_;intro K hK)|fail)
        all_goals skip
        all_goals exact c2A rfl rfl rfl he rfl rfl
set_option maxHeartbeats 8000000 in
theorem m6A {w:World} {v:Value} {ps:Nat → Nat → Bool} {m rows:Nat} (h:SlI .u8 w v (bdA (fun i=>ccA (ps i)) m)) (hT:Tab w) (hm:m ≤ 100) (h8:∀ i,nk (ps i) ≤ 8) (htop:∀ i x,TOP ≤ x → ps i x=false) (hr:rows ≤ 1000000) (hne:∀ i,cnt (two (fun x y=>x && !y) (lst ps i) (ps i)) TOP=0) :
    Fc Tryz.prog 27 #[v,.int .i64 rows,.int .i64 (m + 1:Nat)] w (Ret w (.tup2 (.val (.pointer none)) (.val (.int .i64 4)))):=by
  have hlh:=h.len
  have hml:=eqA h8 m
  have hmb:=gkA h8 m
  have htp:=f0A
  refine Fc.of (args:=[_,_,_]) Tryz.func27 rfl rfl Tryz.ntmps27 (Nat.le_of_ble_eq_true rfl) ?_
  repeat' (first|(refine oLA ?_;first|refine a0A rfl ?_|refine dsA (c:=.agg #[nilS]) rfl (fun _=>by kernel_rfl) ?_|(refine oD 30 ?_;refine enA rfl rfl ?_)|refine wOp ?_|(refine wCm ?_ ?_<;>intro hc)|(refine oCv ?_;first|(refine oC 40 ?_;refine c4A (f:=40) rfl rfl  (.pred (rsP TT TT (fun _=>false))) (by intro w e;exact Go.Proofs.YtbokphkfojijoaaGreatDoor.new_c _ tt) ?_))|(refine wNl hK ?_;clear hK K))|refine wG ?_|(refine wCR ?_;intro K hK)|fail)
  all_goals skip
  refine buA 8 rfl (fun v8 wx ex hx8=>?_)
  refine buA 11 rfl (fun v9 w9 e9 h9=>?_)
  obtain ⟨b,hbb,rfl,hb9⟩:=hx8
  have hbw:w.heap.size ≤ b:=hbb
  refine adA (ι:=Nat × Value × Value × List Value) (fun j=>[(0,.val v),(1,.val (.int .i64 rows)),(8,.val (.pointer (some ⟨b,0,none⟩))),(9,.val (.int .i64 (bdA (fun i=>ccA (ps i)) j.1).length)),(10,.val (.bool true)),(11,.val j.2.1),(32,.val (.int .i64 (m + 1:Nat))),(33,.val (.int .i64 j.1))])
    (fun j w'=>Ext w w' ∧ j.1 ≤ m ∧ w'.heap[b]?=some (.cells #[j.2.2.1] tRg (0,0)) ∧ Sets w' w.heap.size j.2.2.1 j.2.2.2 j.1 ps ∧ RSet TT TT w' j.2.1 (lst ps j.1))
    (fun j=>m + 1 - j.1) (fun w2 e2=>⟨(0,v9,nilS,[]),⟨(ex.trans e9).trans e2,Nat.zero_le _,(e9.trans e2).block hb9,⟨Own.nil,fun i hi=>absurd hi (Nat.not_lt_zero _)⟩,RSet.ext h9 e2⟩,(by repeat' (first | exact Sub.nil | refine Sub.val rfl (by first | with_reducible rfl | (congr 1;omega)) ?_ | refine Sub.same rfl ?_))⟩) ?_
  rintro ⟨i,wv,sv,ptrs⟩ w1 ⟨he,hi,hb1,hs,hwv⟩
  dsimp only at hi hb1 hs hwv ⊢
  have hcl:=eqA h8 i
  by_cases hil:i < m
  · have hnei:=hne i
    have hcn:(bdA (fun i=>ccA (ps i)) i).length + (ccA (ps i)).length=(bdA (fun i=>ccA (ps i)) (i + 1)).length:=by
      show _=(_ ++ ccA (ps i)).length;rw [List.length_append]
    have hrd:∀ w',Ext w1 w' → Fc Tryz.prog 15 #[v,.int .i64 ((bdA (fun i=>ccA (ps i)) i).length:Nat)] w' (Ret w' (.tup3 (.pred (rsP TT TT (ps i))) (.val (.int .i64 ((bdA (fun i=>ccA (ps i)) (i + 1)).length:Nat))) (.val (.int .i64 0)))):=fun w' e=>by
      have:=noA (f:=c5A (ps i)) (h.ext (he.trans e)) (hT.ext (he.trans e)) (by omega) hmb (h8 i) (htop i) (klA (ps:=ps) (by omega))
      rw [show (luA (ps i) (c5A (ps i))).length=(ccA (ps i)).length from rfl,hcn] at this
      exact this
    obtain ⟨a0,ha0⟩:∃ a,a=(bdA (fun i=>ccA (ps i)) i).length:=⟨_,rfl⟩
    obtain ⟨a1,ha1⟩:∃ a,a=(bdA (fun i=>ccA (ps i)) (i + 1)).length:=⟨_,rfl⟩
    rw [← ha0,← ha1] at hrd
    rw [← ha0]
    repeat' (first|(refine oLA ?_;first|refine a0A rfl ?_|(refine oD 45 ?_;refine a4A (hK _ _ (b8A 12 rfl (fun v12 w2 e2 h2=>?_)));clear hK K;have hb2:=e2.block hb1;have hs2:=hs.ext e2;have hp2:RSet TT TT w2 v12 (ps i):=h2;obtain ⟨cv1,cv2⟩:=jdA _ _ h2;refine aeA (by kernel_rfl) (fun K hK=>cmA rfl rfl ?_))|refine a8A rfl rfl ?_|refine a1A (a':=⟨b,0,none⟩) rfl rfl (fun _=>rfl) ?_|(refine oD 49 ?_;refine a5A (c:=sv) rfl (fun _=>rfl) rfl hb2 rfl ?_)|(refine oD 51 ?_;refine d6A rfl haA rfl cv1 ?_)|(refine oD 52 ?_;refine a4A (hK _ _ (btA rfl (by decide) haA rfl hs2.own rfl HasC.own (fun c hc=>by rw [List.mem_singleton] at hc;subst hc;exact cv2) (by unfold maxLen;omega) (by omega) (fun sv' w4 w5 e4 hos hf hl=>?_)));clear hK K;have hb5:=hf.at (e4.block hb2) (fun hq=>Own.apart hs2.own hb2 (by decide) hq);obtain ⟨ck1,ck2⟩:=c8A hos;refine aeA (by kernel_rfl) (fun K hK=>?_))|(refine a4A (hK _ _ (bgA rfl rfl rfl hb5 (fun _=>rfl) (Nat.lt_succ_self 0) ck1 ck2 (fun w6 e6=>?_)));clear hK K;dsimp only [vals];obtain ⟨w7,hw7'⟩:∃ w7,w7=w6.setRow b (#[sv].setIfInBounds 0 sv'):=⟨_,rfl⟩;rw [← hw7'])|refine wOp ?_|(refine wCm ?_ ?_<;>intro hc)|(refine oCv ?_;first|(refine oC 15 ?_;refine a3A (f:=15) rfl rfl rfl rfl  (.tup3 (.pred (rsP TT TT (ps i))) (.val (.int .i64 (a1:Nat))) (.val (.int .i64 0))) (by intro u1 u2 w e hu1 hu2;(try obtain rfl:u1=_:=hu1);(try obtain rfl:u2=_:=hu2);exact hrd _ e) ?_))|(refine wNl hK ?_;clear hK K))|refine wG ?_|(refine wCR ?_;intro K hK)|fail)
    all_goals skip
    rw [show #[sv].setIfInBounds 0 sv'=#[sv'] from rfl] at hw7'
    have x4:=e2.trans e4
    have hR:∀ q,sv.ownBlock=some q → ∃ cur,w4.heap[q]?=some (.cells cur tPs (0,0)):=fun q hq=>atA (hs.own.ext x4) hq
    have hRs:∀ {p:Nat → Bool} {vv:Value},RSet TT TT w4 vv p → RSet TT TT w5 vv p:=fun hh=>hh.off hf (fun q hq=>by obtain ⟨cur,hc⟩:=hR q hq;exact ⟨cur,_,hc,by decide,by decide,by decide,by decide,by decide⟩)
    have hs9:=hRs (RSet.ext hp2 e4)
    have hw9:=hRs (RSet.ext hwv x4)
    have hs5:∀ j,j < i + 1 → RSet TT TT w5 ((ptrs ++ [v12]).getD j undef) (ps j):=fun j hj=>by
      rw [ewA hs.own.lenV]
      by_cases e:j < i
      · rw [if_pos e];exact hRs ((hs.at_ j e).ext x4)
      · obtain rfl:j=i:=by omega
        rw [if_neg e,if_pos rfl];exact hs9
    have hsv5:LA.Own w.heap.size tPs 1 w5 sv' (i + 1) (ptrs ++ [v12]):=Own.rebase hos (hl.ge (fun q hq=>(Own.lt hs.own q hq).1) (Nat.le_trans he.size x4.size))
    have x5:Ext w w5:=Fr.ext (he.trans x4) hf (fun q hq=>(Own.lt hs.own q hq).1)
    have hb6:=e6.block hb5
    have hfr:Fr (fun q=>q=b) w6 (w6.setRow b #[sv']):=Fr.setRow (R:=fun q=>q=b) (Fr.of (Ext.refl _)) rfl _
    have hRb:∀ q,q=b → ∃ cur e,w6.heap[q]?=some (.cells cur e (0,0)) ∧ e=tRg:=fun q hq=>by subst hq;exact ⟨_,_,hb6,rfl⟩
    have hoff:∀ {p:Nat → Bool} {vv:Value},RSet TT TT w5 vv p → RSet TT TT (w6.setRow b #[sv']) vv p:=fun hh=>(RSet.ext hh e6).off hfr (fun q hq=>by obtain ⟨cur,e,h1,rfl⟩:=hRb q hq;exact ⟨cur,_,h1,by decide,by decide,by decide,by decide,by decide⟩)
    have hb7:(w6.setRow b #[sv']).heap[b]?=some (.cells #[sv'] tRg (0,0)):=setRow_heap w6 b _ _ _ _ hb6
    have hs7:Sets (w6.setRow b #[sv']) w.heap.size sv' (ptrs ++ [v12]) (i + 1) ps :=
      ⟨Own.setRow (hsv5.ext e6) _ (Own.apart (hsv5.ext e6) hb6 (by decide)),fun j hj=>hoff (hs5 j hj)⟩
    have hp7:=hoff hs9
    have hw7:=hoff hw9
    have x7:=(x5.trans e6).setRow hbw #[sv']
    rw [← hw7'] at hb7 hs7 hp7 hw7 x7
    clear hw7' hoff hRb hfr hb6 hsv5 hs5 hs9 hw9 hRs hR
    have hdf:∀ w',Ext w7 w' → Fc Tryz.prog 73 #[wv,v12] w' (Ret w' (.pred (rsP TT TT (two (fun x y=>x && !y) (lst ps i) (ps i))))):=fun w' e=>knA (A:=TT) (B:=TT) (B1:=TT) (B2:=TT) (.inr (hw7.ext e)) (.inr (hp7.ext e)) (hT.ext (x7.trans e)) tt tt
    have hln:∀ w' u,RSet TT TT w' u (two (fun x y=>x && !y) (lst ps i) (ps i)) → Fc Tryz.prog 43 #[u] w' (Ret w' (.val (.int .i64 (0:Nat)))):=fun w' u hu=>by
      have:=h8A (B:=TT) (A:=TT) (.inr hu);rw [hnei] at this;exact this
    repeat' (first|(refine oLA ?_;first|refine a0A rfl ?_|refine wOp ?_|(refine wCm ?_ ?_<;>intro hc)|(refine oCv ?_;first|(refine oC 73 ?_;refine a3A (f:=73) rfl rfl rfl rfl  (.pred (rsP TT TT (two (fun x y=>x && !y) (lst ps i) (ps i)))) (by intro u1 u2 w e hu1 hu2;(try obtain rfl:u1=_:=hu1);(try obtain rfl:u2=_:=hu2);exact hdf _ e) ?_)|(refine oC 43 ?_;refine a2A (f:=43) rfl rfl rfl  (.val (.int .i64 (0:Nat))) (by intro u1 w e hu1;(try obtain rfl:u1=_:=hu1);exact hln _ _ hu1) ?_))|(refine wNl hK ?_;clear hK K))|refine wG ?_|(refine wCR ?_;intro K hK)|fail)
    all_goals skip
    exact a6A (i + 1,v12,sv',ptrs ++ [v12]) (fun w8 e8=>⟨x7.trans e8,hil,e8.block hb7,hs7.ext e8,hp7.ext e8⟩) (by dsimp only;omega) (by dsimp only;rw [← ha1];(repeat' (first | exact Sub.nil | (refine Sub.val rfl ?_ ?_;first | with_reducible rfl | (congr 1;omega)) | refine Sub.same rfl ?_));done)
  · obtain rfl:i=m:=by omega
    have hrd:∀ w',Ext w1 w' → _:=fun w' e=>read_short (h.ext (he.trans e)) (by omega)
    repeat' (first|(refine oLA ?_;first|refine a0A rfl ?_|refine wOp ?_|(refine wCm ?_ ?_<;>intro hc)|(refine oCv ?_;first|(refine oC 15 ?_;refine a3A (f:=15) rfl rfl rfl rfl  (.tup3 (.val (.pointer none)) (.val (.int .i64 0)) (.val (.int .i64 4))) (by intro u1 u2 w e hu1 hu2;(try obtain rfl:u1=_:=hu1);(try obtain rfl:u2=_:=hu2);exact hrd _ e) ?_))|(refine wNl hK ?_;clear hK K))|refine wG ?_|(refine wCR ?_;intro K hK)|fail)
    all_goals skip
    exact c2A rfl rfl rfl he rfl rfl
end Go.Proofs.YtbokphkfojijoaaGreatDoor.Pt
end
