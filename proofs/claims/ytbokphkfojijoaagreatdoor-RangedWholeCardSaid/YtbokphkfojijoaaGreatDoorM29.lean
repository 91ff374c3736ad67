import Derived.Test.YtbokphkfojijoaaGreatDoorM27
section
set_option linter.unusedSimpArgs false
set_option linter.unusedVariables false
set_option maxRecDepth 3000
namespace Go.Proofs.YtbokphkfojijoaaGreatDoor.Pt
open Go.LA Go.ArrP Go.RowKit
theorem maA (ids:List Int):∀ k,lst (fun i=>sumP ids (i + 1)) k=sumP ids k
  | 0=>rfl
  | k + 1=>rfl
theorem k7A (ids:List Int) (i:Nat):cnt (two (fun x y=>x && !y) (lst (fun i=>sumP ids (i + 1)) i) (sumP ids (i + 1))) TOP=0:=weA fun x hx=>by
  rw [maA,ncA] at hx
  refine hx.2 ((dyA _).2 ?_)
  have:=(dyA _).1 hx.1
  omega
set_option maxHeartbeats 4000000 in
theorem rwhole_s (w:World) (hT:Tab w) {v:Value} {ids:List Int} (h:SlI .i64 w v ids) (many:Int):Fc Tryz.prog 5 #[v,.int .i64 many] w (Ret w (.val (.bool true))):=by
  have hl:=h.len
  have htp:=f0A
  refine Fc.of (args:=[_,_]) Tryz.func5 rfl rfl Tryz.ntmps5 (Nat.le_of_ble_eq_true rfl) ?_
  by_cases hbig:300 < (ids.length:Int)
  · skip
    repeat' (first|(refine oLA ?_;first|refine a0A rfl ?_|refine wOp ?_|(refine wCm ?_ ?_<;>intro hc)|(refine oCv ?_;first|(refine oC 24 ?_;refine c4A (f:=24) rfl rfl  (.val (.bool true)) (by intro w e;exact o2A _ (hT.ext e)) ?_))|(refine wNl hK ?_;clear hK K))|refine wG ?_|(refine wCR ?_;intro K hK)|fail)
    all_goals exact abA rfl rfl (Ext.refl _) rfl
  by_cases hbig2:60 < many
  · skip
    repeat' (first|(refine oLA ?_;first|refine a0A rfl ?_|refine wOp ?_|(refine wCm ?_ ?_<;>intro hc)|(refine oCv ?_;first|(refine oC 24 ?_;refine c4A (f:=24) rfl rfl  (.val (.bool true)) (by intro w e;exact o2A _ (hT.ext e)) ?_))|(refine wNl hK ?_;clear hK K))|refine wG ?_|(refine wCR ?_;intro K hK)|fail)
    all_goals exact abA rfl rfl (Ext.refl _) rfl
  cases hm:jgA ids many with
  | false =>
    repeat' (first|(refine oLA ?_;first|refine a0A rfl ?_|refine wOp ?_|(refine wCm ?_ ?_<;>intro hc)|(refine oCv ?_;first|(refine oC 25 ?_;refine a3A (f:=25) rfl rfl rfl rfl  (.tup2 (.val (.pointer none)) (.val (.int .i64 2))) (by intro u1 u2 w e hu1 hu2;(try obtain rfl:u1=_:=hu1);(try obtain rfl:u2=_:=hu2);exact zyA (h.ext e) (hT.ext e) hm) ?_)|(refine oC 24 ?_;refine c4A (f:=24) rfl rfl  (.val (.bool true)) (by intro w e;exact o2A _ (hT.ext e)) ?_))|(refine wNl hK ?_;clear hK K))|refine wG ?_|(refine wCR ?_;intro K hK)|fail)
    all_goals skip
    all_goals exact abA rfl rfl (Ext.refl _) rfl
  | true =>
    obtain ⟨m0,-,-,m3⟩:=(hhA _ _).1 hm
    obtain ⟨n,rfl⟩:=Int.eq_ofNat_of_zero_le m0
    have hin:IdsIn ids n:=IdsIn.of m3
    clear m0 m3
    have h8:∀ i:Nat,nk (sumP ids (i + 1)) ≤ 8:=fun i=>sum8 (by omega) _
    have ht:∀ (i:Nat) x,TOP ≤ x → sumP ids (i + 1) x=false:=fun i x hx=>nfA (by omega)
    have s2:cnt (lst (fun i=>sumP ids (i + 1)) n) TOP=ids.length:=by rw [maA];exact hvA hin (by omega)
    have s3:cnt (lst (fun i=>sumP ids (i + 1)) n) ids.length=ids.length:=by rw [maA];exact hvA hin (Nat.le_refl _)
    have hA:∀ w' u,SlI .u8 w' u (bdA (fun i=>ccA (sumP ids (i + 1))) n) → Tab w' → Fc Tryz.prog 27 #[u,.int .i64 (ids.length + 1:Nat),.int .i64 n] w' (Ret w' (.tup2 (.val (.pointer none)) (.val (.int .i64 5)))):=fun w' u hu hT' =>
      q5A (d:=false) (ps:=fun i=>sumP ids (i + 1)) hu hT' (Nat.le_refl _) (by omega) h8 ht (by omega) (k7A ids) ⟨fun h=>(by cases h),fun h=>by have:=h.2.1;omega⟩
    have hB:∀ w' u,SlI .u8 w' u (bdA (fun i=>ccA (sumP ids (i + 1))) n) → Tab w' → Fc Tryz.prog 27 #[u,.int .i64 ids.length,.int .i64 (n + 1:Nat)] w' (Ret w' (.tup2 (.val (.pointer none)) (.val (.int .i64 4)))):=fun w' u hu hT' =>
      m6A (ps:=fun i=>sumP ids (i + 1)) hu hT' (by omega) h8 ht (by omega) (k7A ids)
    have hC:∀ w' u,SlI .u8 w' u (bdA (fun i=>ccA (sumP ids (i + 1))) n) → Tab w' → Fc Tryz.prog 27 #[u,.int .i64 ids.length,.int .i64 n] w' (Ret w' (.tup2 (.pred (ixP tRg n fun i=>sumP ids (i + 1))) (.val (.int .i64 0)))):=fun w' u hu hT' =>
      q5A (d:=true) (ps:=fun i=>sumP ids (i + 1)) hu hT' (Nat.le_refl _) (by omega) h8 ht (by omega) (k7A ids) ⟨fun _=>⟨rfl,s2,s3⟩,fun _=>rfl⟩
    have hby:∀ w' u,IX tRg n (fun i=>sumP ids (i + 1)) w' u → Tab w' → w.heap.size ≤ w'.heap.size → Fc Tryz.prog 26 #[u] w' (Ret w' (.pred (bfA w.heap.size tB .u8 (bdA (fun i=>ccA (sumP ids (i + 1))) n)))):=fun w' u hu hT' hsz =>
      (teA (.inr hu) (by omega) h8 hT').mono (aaA hsz)
    clear s2 s3 h8 ht
    obtain ⟨B,hBB⟩:∃ B,B=bdA (fun i=>ccA (sumP ids (i + 1))) n:=⟨_,rfl⟩
    rw [← hBB] at hA hB hC hby
    clear hBB
    repeat' (first|(refine oLA ?_;first|refine a0A rfl ?_|(refine oD 37 ?_;refine avA rfl rfl rfl (by dsimp only [fits];omega) ?_;rw [show (ids.length:Int) + 1=((ids.length + 1:Nat):Int) by omega])|(refine oD 47 ?_;refine avA rfl rfl rfl (by dsimp only [fits];omega) ?_;rw [show (n:Int) + 1=((n + 1:Nat):Int) by omega])|refine n5A rfl rfl rfl rfl rfl HasI.own ?_|refine sgA rfl rfl rfl rfl rfl ?_|refine wOp ?_|(refine wCm ?_ ?_<;>intro hc)|(refine oCv ?_;first|(refine oC 25 ?_;refine a3A (f:=25) rfl rfl rfl rfl  (.tup2 (.pred (ixP tRg n fun i=>sumP ids (i + 1))) (.val (.int .i64 0))) (by intro u1 u2 w e hu1 hu2;(try obtain rfl:u1=_:=hu1);(try obtain rfl:u2=_:=hu2);exact vuA (h.ext e) (hT.ext e) hm) ?_)|(refine oC 26 ?_;refine a2A (f:=26) rfl rfl rfl  (.pred (bfA w.heap.size tB .u8 B)) (by intro u1 w e hu1;(try obtain rfl:u1=_:=hu1);exact hby _ _ hu1 (hT.ext e) e.size) ?_)|(refine oD 39 ?_;refine oC 27 ?_;refine beA (f:=27) rfl rfl rfl rfl rfl  (.tup2 (.val (.pointer none)) (.val (.int .i64 5))) (by intro u1 u2 u3 w e hu1 hu2 hu3;(try obtain rfl:u1=_:=hu1);(try obtain rfl:u2=_:=hu2);(try obtain rfl:u3=_:=hu3);exact hA _ _ (OwnI.slI hu1) (hT.ext e)) ?_)|(refine oD 48 ?_;refine oC 27 ?_;refine beA (f:=27) rfl rfl rfl rfl rfl  (.tup2 (.val (.pointer none)) (.val (.int .i64 4))) (by intro u1 u2 u3 w e hu1 hu2 hu3;(try obtain rfl:u1=_:=hu1);(try obtain rfl:u2=_:=hu2);(try obtain rfl:u3=_:=hu3);exact hB _ _ (OwnI.slI hu1) (hT.ext e)) ?_)|(refine oD 56 ?_;refine oC 27 ?_;refine beA (f:=27) rfl rfl rfl rfl rfl  (.tup2 (.pred (ixP tRg n fun i=>sumP ids (i + 1))) (.val (.int .i64 0))) (by intro u1 u2 u3 w e hu1 hu2 hu3;(try obtain rfl:u1=_:=hu1);(try obtain rfl:u2=_:=hu2);(try obtain rfl:u3=_:=hu3);exact hC _ _ (OwnI.slI hu1) (hT.ext e)) ?_)|(refine oC 24 ?_;refine c4A (f:=24) rfl rfl  (.val (.bool true)) (by intro w e;exact o2A _ (hT.ext e)) ?_))|(refine wNl hK ?_;clear hK K))|refine wG ?_|(refine wCR ?_;intro K hK)|fail)
    all_goals skip
    all_goals exact abA rfl rfl (Ext.refl _) rfl
end Go.Proofs.YtbokphkfojijoaaGreatDoor.Pt
end
