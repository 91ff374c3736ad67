import Derived.Test.YtbokphkfojijoaaGreatDoorM21
import Derived.Test.YtbokphkfojijoaaGreatDoorM25
import Derived.Test.YtbokphkfojijoaaGreatDoorM26
section
set_option linter.unusedSimpArgs false
set_option linter.unusedVariables false
set_option maxRecDepth 3000
namespace Go.Proofs.YtbokphkfojijoaaGreatDoor.Pt
open Go.LA Go.ArrP Go.RowKit
theorem w2A {p:Nat → Bool} (h:∀ x,65536 ≤ x → p x=false):nk p ≤ 1:=by
  have h1:cnt (ne p) 65536=cnt (ne p) 1:=ftA (p:=ne p) (a:=1) 65536 (by omega) (fun k hk _=>by
    cases hn:ne p k with
    | false=>rfl
    | true =>
      obtain ⟨i,hi,hp⟩:=ne_iff.1 hn
      rw [h _ (by omega)] at hp;cases hp)
  have h2:=cnt_le (ne p) 1
  show cnt (ne p) 65536 ≤ 1
  omega
theorem id8 {ids:List Int} (hl:ids.length ≤ 300) (i:Int):nk (idP ids i) ≤ 8:=Nat.le_trans (w2A fun x hx=>ieA (by omega)) (by decide)
theorem nfA {ids:List Int} {k x:Nat} (h:ids.length ≤ x):sumP ids k x=false:=fdA fun h'=>by have:=((dyA _).1 h').1;omega
theorem sum8 {ids:List Int} (hl:ids.length ≤ 300) (k:Nat):nk (sumP ids k) ≤ 8:=Nat.le_trans (w2A fun x hx=>nfA (by omega)) (by decide)
theorem qeA (ids:List Int):∀ k,orN (fun i=>idP ids i) k=sumP ids k
  | 0=>rfl
  | k + 1=>by
    show two _ (orN (fun i=>idP ids i) k) (idP ids k)=two _ (sumP ids k) (idP ids k)
    rw [qeA ids k]
theorem zsA {ids:List Int} {k:Nat} (T:Nat):cnt (sumP ids (k + 1)) T=cnt (sumP ids k) T + cnt (idP ids k) T:=roA T fun i _=>by
  have h1:=dyA (ids:=ids) (x:=i) (k + 1)
  have h2:=dyA (ids:=ids) (x:=i) k
  have h3:idP ids k i=true ↔ _:=idP_iff (ids:=ids) (id:=k) (x:=i)
  by_cases c1:idP ids k i=true
  · have g:=h3.1 c1
    have c2:sumP ids k i=false:=fdA fun h'=>by have:=(h2.1 h').2.2;omega
    have c4:sumP ids (k + 1) i=true:=h1.2 ⟨g.1,by omega,by omega⟩
    rw [c1,c2,c4];rfl
  · have c1':=fdA c1
    by_cases c2:sumP ids k i=true
    · have g:=h2.1 c2
      have c4:sumP ids (k + 1) i=true:=h1.2 ⟨g.1,g.2.1,by omega⟩
      rw [c1',c2,c4];rfl
    · have c4:sumP ids (k + 1) i=false:=fdA fun h'=>by
        have g:=h1.1 h'
        by_cases e:ids.getD i 0=(k:Int)
        · exact c1 (h3.2 ⟨g.1,e⟩)
        · exact c2 (h2.2 ⟨g.1,g.2.1,by omega⟩)
      rw [c1',fdA c2,c4];rfl
theorem pyA (ids:List Int):∀ k,m0A (fun i=>idP ids i) k=cnt (sumP ids k) TOP
  | 0=>(weA fun x h=>by have:=((dyA _).1 h).2;omega).symm
  | k + 1=>by
    show m0A (fun i=>idP ids i) k + cnt (idP ids k) TOP=_
    rw [pyA ids k,zsA]
theorem hvA {ids:List Int} {n T:Nat} (h:IdsIn ids n) (hT:ids.length ≤ T):cnt (sumP ids n) T=ids.length:=yfA (fun x=>by
  rw [dyA]
  constructor
  · exact fun h=>h.1
  · intro hx;have:=h x hx;omega) hT
set_option maxHeartbeats 4000000 in
theorem iwhole_s (w:World) (hT:Tab w) {v:Value} {ids:List Int} (h:SlI .i64 w v ids) (many:Int):Fc Tryz.prog 4 #[v,.int .i64 many] w (Ret w (.val (.bool true))):=by
  have hl:=h.len
  have htp:=f0A
  refine Fc.of (args:=[_,_]) Tryz.func4 rfl rfl Tryz.ntmps4 (Nat.le_of_ble_eq_true rfl) ?_
  by_cases hbig:300 < (ids.length:Int)
  · skip
    repeat' (first|(refine oLA ?_;first|refine a0A rfl ?_|refine wOp ?_|(refine wCm ?_ ?_<;>intro hc)|(refine oCv ?_;first|(refine oC 20 ?_;refine c4A (f:=20) rfl rfl  (.val (.bool true)) (by intro w e;exact lfA _ (hT.ext e)) ?_))|(refine wNl hK ?_;clear hK K))|refine wG ?_|(refine wCR ?_;intro K hK)|fail)
    all_goals exact abA rfl rfl (Ext.refl _) rfl
  by_cases hbig2:60 < many
  · skip
    repeat' (first|(refine oLA ?_;first|refine a0A rfl ?_|refine wOp ?_|(refine wCm ?_ ?_<;>intro hc)|(refine oCv ?_;first|(refine oC 20 ?_;refine c4A (f:=20) rfl rfl  (.val (.bool true)) (by intro w e;exact lfA _ (hT.ext e)) ?_))|(refine wNl hK ?_;clear hK K))|refine wG ?_|(refine wCR ?_;intro K hK)|fail)
    all_goals exact abA rfl rfl (Ext.refl _) rfl
  cases hm:jgA ids many with
  | false =>
    repeat' (first|(refine oLA ?_;first|refine a0A rfl ?_|refine wOp ?_|(refine wCm ?_ ?_<;>intro hc)|(refine oCv ?_;first|(refine oC 21 ?_;refine a3A (f:=21) rfl rfl rfl rfl  (.tup2 (.val (.pointer none)) (.val (.int .i64 2))) (by intro u1 u2 w e hu1 hu2;(try obtain rfl:u1=_:=hu1);(try obtain rfl:u2=_:=hu2);exact w6A (h.ext e) (hT.ext e) hm) ?_)|(refine oC 20 ?_;refine c4A (f:=20) rfl rfl  (.val (.bool true)) (by intro w e;exact lfA _ (hT.ext e)) ?_))|(refine wNl hK ?_;clear hK K))|refine wG ?_|(refine wCR ?_;intro K hK)|fail)
    all_goals skip
    all_goals exact abA rfl rfl (Ext.refl _) rfl
  | true =>
    obtain ⟨m0,-,-,m3⟩:=(hhA _ _).1 hm
    obtain ⟨n,rfl⟩:=Int.eq_ofNat_of_zero_le m0
    have hin:IdsIn ids n:=IdsIn.of m3
    clear m0 m3
    have h8:∀ i:Nat,nk (idP ids i) ≤ 8:=fun i=>id8 (by omega) i
    have ht:∀ (i:Nat) x,TOP ≤ x → idP ids i x=false:=fun i x hx=>ieA (by omega)
    have s1:=pyA ids n
    rw [hvA hin (T:=TOP) (by omega)] at s1
    have s2:cnt (orN (fun i=>idP ids i) n) TOP=ids.length:=by rw [qeA];exact hvA hin (by omega)
    have s3:cnt (orN (fun i=>idP ids i) n) ids.length=ids.length:=by rw [qeA];exact hvA hin (Nat.le_refl _)
    have hA:∀ w' u,SlI .u8 w' u (bdA (fun i=>ccA (idP ids i)) n) → Tab w' → Fc Tryz.prog 23 #[u,.int .i64 (ids.length + 1:Nat),.int .i64 n] w' (Ret w' (.tup2 (.val (.pointer none)) (.val (.int .i64 5)))):=fun w' u hu hT' =>
      mdA (d:=false) (ps:=fun i=>idP ids i) hu hT' (Nat.le_refl _) (by omega) h8 ht (by omega) ⟨fun h=>(by cases h),fun h=>by have:=h.2.1;omega⟩
    have hB:∀ w' u,SlI .u8 w' u (bdA (fun i=>ccA (idP ids i)) n) → Tab w' → Fc Tryz.prog 23 #[u,.int .i64 ids.length,.int .i64 (n + 1:Nat)] w' (Ret w' (.tup2 (.val (.pointer none)) (.val (.int .i64 4)))):=fun w' u hu hT' =>
      mcA (ps:=fun i=>idP ids i) hu hT' (by omega) h8 ht (by omega)
    have hC:∀ w' u,SlI .u8 w' u (bdA (fun i=>ccA (idP ids i)) n) → Tab w' → Fc Tryz.prog 23 #[u,.int .i64 ids.length,.int .i64 n] w' (Ret w' (.tup2 (.pred (ixP tIv n fun i=>idP ids i)) (.val (.int .i64 0)))):=fun w' u hu hT' =>
      mdA (d:=true) (ps:=fun i=>idP ids i) hu hT' (Nat.le_refl _) (by omega) h8 ht (by omega) ⟨fun _=>⟨rfl,s1,s2,s3⟩,fun _=>rfl⟩
    have hby:∀ w' u,IX tIv n (fun i=>idP ids i) w' u → Tab w' → w.heap.size ≤ w'.heap.size → Fc Tryz.prog 22 #[u] w' (Ret w' (.pred (bfA w.heap.size tB .u8 (bdA (fun i=>ccA (idP ids i)) n)))):=fun w' u hu hT' hsz =>
      (u1A (.inr hu) (by omega) h8 hT').mono (aaA hsz)
    have hD:0 < n → ∀ w' u,SlI .u8 w' u (bdA (fun i=>ccA (idP ids i)) n) → Tab w' → Fc Tryz.prog 23 #[u,.int .i64 ids.length,.int .i64 (n - 1:Nat)] w' (Ret w' (.tup2 (.val (.pointer none)) (.val (.int .i64 5)))):=fun hn w' u hu hT' =>
      mdA (d:=false) (ps:=fun i=>idP ids i) hu hT' (Nat.sub_le _ _) (by omega) h8 ht (by omega) ⟨fun h=>(by cases h),fun h=>by
        have h1:=ykA (ps:=fun i=>idP ids i) h8 (n - 1)
        rw [show n - 1 + 1=n by omega] at h1
        omega⟩
    clear s1 s2 s3 h8 ht
    obtain ⟨B,hBB⟩:∃ B,B=bdA (fun i=>ccA (idP ids i)) n:=⟨_,rfl⟩
    rw [← hBB] at hA hB hC hD hby
    clear hBB
    by_cases hn:0 < n
    · have hD':=hD hn
      repeat' (first|(refine oLA ?_;first|refine a0A rfl ?_|(refine oD 39 ?_;refine avA rfl rfl rfl (by dsimp only [fits];omega) ?_;rw [show (ids.length:Int) + 1=((ids.length + 1:Nat):Int) by omega])|(refine oD 49 ?_;refine avA rfl rfl rfl (by dsimp only [fits];omega) ?_;rw [show (n:Int) + 1=((n + 1:Nat):Int) by omega])|(refine oD 86 ?_;refine afA rfl rfl rfl (by dsimp only [fits];omega) ?_;rw [show (n:Int) - 1=((n - 1:Nat):Int) by omega])|refine n5A rfl rfl rfl rfl rfl HasI.own ?_|refine lrA rfl rfl rfl rfl rfl ?_|refine wOp ?_|(refine wCm ?_ ?_<;>intro hc)|(refine oCv ?_;first|(refine oC 21 ?_;refine a3A (f:=21) rfl rfl rfl rfl  (.tup2 (.pred (ixP tIv n fun i=>idP ids i)) (.val (.int .i64 0))) (by intro u1 u2 w e hu1 hu2;(try obtain rfl:u1=_:=hu1);(try obtain rfl:u2=_:=hu2);exact r6A (h.ext e) (hT.ext e) hm) ?_)|(refine oC 22 ?_;refine a2A (f:=22) rfl rfl rfl  (.pred (bfA w.heap.size tB .u8 B)) (by intro u1 w e hu1;(try obtain rfl:u1=_:=hu1);exact hby _ _ hu1 (hT.ext e) e.size) ?_)|(refine oD 41 ?_;refine oC 23 ?_;refine beA (f:=23) rfl rfl rfl rfl rfl  (.tup2 (.val (.pointer none)) (.val (.int .i64 5))) (by intro u1 u2 u3 w e hu1 hu2 hu3;(try obtain rfl:u1=_:=hu1);(try obtain rfl:u2=_:=hu2);(try obtain rfl:u3=_:=hu3);exact hA _ _ (OwnI.slI hu1) (hT.ext e)) ?_)|(refine oD 50 ?_;refine oC 23 ?_;refine beA (f:=23) rfl rfl rfl rfl rfl  (.tup2 (.val (.pointer none)) (.val (.int .i64 4))) (by intro u1 u2 u3 w e hu1 hu2 hu3;(try obtain rfl:u1=_:=hu1);(try obtain rfl:u2=_:=hu2);(try obtain rfl:u3=_:=hu3);exact hB _ _ (OwnI.slI hu1) (hT.ext e)) ?_)|(refine oD 58 ?_;refine oC 23 ?_;refine beA (f:=23) rfl rfl rfl rfl rfl  (.tup2 (.pred (ixP tIv n fun i=>idP ids i)) (.val (.int .i64 0))) (by intro u1 u2 u3 w e hu1 hu2 hu3;(try obtain rfl:u1=_:=hu1);(try obtain rfl:u2=_:=hu2);(try obtain rfl:u3=_:=hu3);exact hC _ _ (OwnI.slI hu1) (hT.ext e)) ?_)|(refine oD 87 ?_;refine oC 23 ?_;refine beA (f:=23) rfl rfl rfl rfl rfl  (.tup2 (.val (.pointer none)) (.val (.int .i64 5))) (by intro u1 u2 u3 w e hu1 hu2 hu3;(try obtain rfl:u1=_:=hu1);(try obtain rfl:u2=_:=hu2);(try obtain rfl:u3=_:=hu3);exact hD' _ _ (OwnI.slI hu1) (hT.ext e)) ?_)|(refine oC 20 ?_;refine c4A (f:=20) rfl rfl  (.val (.bool true)) (by intro w e;exact lfA _ (hT.ext e)) ?_))|(refine wNl hK ?_;clear hK K))|refine wG ?_|(refine wCR ?_;intro K hK)|fail)
      all_goals skip
      all_goals exact abA rfl rfl (Ext.refl _) rfl
    · skip
      repeat' (first|(refine oLA ?_;first|refine a0A rfl ?_|(refine oD 39 ?_;refine avA rfl rfl rfl (by dsimp only [fits];omega) ?_;rw [show (ids.length:Int) + 1=((ids.length + 1:Nat):Int) by omega])|(refine oD 49 ?_;refine avA rfl rfl rfl (by dsimp only [fits];omega) ?_;rw [show (n:Int) + 1=((n + 1:Nat):Int) by omega])|refine n5A rfl rfl rfl rfl rfl HasI.own ?_|refine lrA rfl rfl rfl rfl rfl ?_|refine wOp ?_|(refine wCm ?_ ?_<;>intro hc)|(refine oCv ?_;first|(refine oC 21 ?_;refine a3A (f:=21) rfl rfl rfl rfl  (.tup2 (.pred (ixP tIv n fun i=>idP ids i)) (.val (.int .i64 0))) (by intro u1 u2 w e hu1 hu2;(try obtain rfl:u1=_:=hu1);(try obtain rfl:u2=_:=hu2);exact r6A (h.ext e) (hT.ext e) hm) ?_)|(refine oC 22 ?_;refine a2A (f:=22) rfl rfl rfl  (.pred (bfA w.heap.size tB .u8 B)) (by intro u1 w e hu1;(try obtain rfl:u1=_:=hu1);exact hby _ _ hu1 (hT.ext e) e.size) ?_)|(refine oD 41 ?_;refine oC 23 ?_;refine beA (f:=23) rfl rfl rfl rfl rfl  (.tup2 (.val (.pointer none)) (.val (.int .i64 5))) (by intro u1 u2 u3 w e hu1 hu2 hu3;(try obtain rfl:u1=_:=hu1);(try obtain rfl:u2=_:=hu2);(try obtain rfl:u3=_:=hu3);exact hA _ _ (OwnI.slI hu1) (hT.ext e)) ?_)|(refine oD 50 ?_;refine oC 23 ?_;refine beA (f:=23) rfl rfl rfl rfl rfl  (.tup2 (.val (.pointer none)) (.val (.int .i64 4))) (by intro u1 u2 u3 w e hu1 hu2 hu3;(try obtain rfl:u1=_:=hu1);(try obtain rfl:u2=_:=hu2);(try obtain rfl:u3=_:=hu3);exact hB _ _ (OwnI.slI hu1) (hT.ext e)) ?_)|(refine oD 58 ?_;refine oC 23 ?_;refine beA (f:=23) rfl rfl rfl rfl rfl  (.tup2 (.pred (ixP tIv n fun i=>idP ids i)) (.val (.int .i64 0))) (by intro u1 u2 u3 w e hu1 hu2 hu3;(try obtain rfl:u1=_:=hu1);(try obtain rfl:u2=_:=hu2);(try obtain rfl:u3=_:=hu3);exact hC _ _ (OwnI.slI hu1) (hT.ext e)) ?_)|(refine oC 20 ?_;refine c4A (f:=20) rfl rfl  (.val (.bool true)) (by intro w e;exact lfA _ (hT.ext e)) ?_))|(refine wNl hK ?_;clear hK K))|refine wG ?_|(refine wCR ?_;intro K hK)|fail)
      all_goals skip
      all_goals exact abA rfl rfl (Ext.refl _) rfl
end Go.Proofs.YtbokphkfojijoaaGreatDoor.Pt
end
