import Derived.Test.YtbokphkfojijoaaGreatDoorM17
import Derived.Test.YtbokphkfojijoaaGreatDoorM18
import Derived.Test.YtbokphkfojijoaaGreatDoorM19
section
set_option linter.unusedSimpArgs false
set_option linter.unusedVariables false
namespace Go.Proofs.YtbokphkfojijoaaGreatDoor
open Go.LA Go.ArrP Go.RowKit
variable {A B:Nat → Prop}
def RowCn (base:Nat) (A:Nat → Prop) (p:Nat → Bool) (kk:Int) (v:Value) (w:World):Prop:=∃ qc:Qd,Own base tC 4 w v 1 (qcs qc) ∧ Cn A w (qv qc) p kk ∧ ∀ u ∈ qcs qc,u.oneCell'=true
def x1A (base:Nat) (A:Nat → Prop) (p:Nat → Bool) (kk:Int):AV:=⟨fun v w=>RowCn base A p kk v w,fun _ _ _ e ⟨qc,h1,h2,h3⟩=>⟨qc,h1.ext e,h2.ext e,h3⟩⟩
section
variable {P:Program} {l:List Oper} {N:Nn} {wb:World} {K:List Oper → Env → Prop} {rest:List Oper} {E:Env} {Q:Exit → Act → World → Prop}
variable {d:Tmp} {ty t:TypeId} {pos:String} {after:Array Edge} {g:Option (Nat × Bool)} {x y z:Operand}
theorem daA {z0:Value} {b base:Nat} {r:AD} {p:Nat → Bool} {kk:Int} (hbase:base ≤ wb.heap.size) (hg:baA l E g=some true) (hel:El P t tC z0 4 b) (hx:opE E x=r) (hr:∀ v w,Ext wb w → r.ok v w → Cn A w v p kk) (h:LA P l wb K rest ((d,.pred (x1A base A p kk)) :: E)) :
    LA P l wb K (⟨some d,.buildSlice t 1 #[(0,x)],ty,pos,after,g⟩ :: rest) E:=by
  refine b2A (.pred (x1A base A p kk)) hg (fun a w he hh=>?_) h
  have h1:=hh x (by simp [Op.operands])
  rw [hx] at h1
  have hcn:=hr _ _ he h1
  obtain ⟨qc,hqc,h1c⟩:=hcn.qd
  have hc:(a.eval x).cells=(qcs qc).toArray:=by rw [hqc];rfl
  have hcz:(a.eval x).cells.size=4:=by rw [hc];rfl
  have hrun:(Instr.buildSlice t 1 #[(0,a.eval x)]).run P w=.ok (.slice (some ⟨w.heap.size,0,none⟩) 1 1) (w.alloc (.cells (a.eval x).cells tC)):=by
    have hf:=ljA (c:=a.eval x) (z:=z0.cells) (s:=4) hcz
    simp only [Instr.buildSlice,Sem.run_bind,run_underlying hel.ht,Result.andThen_ok,hel.sizeOf,Nat.one_mul,gt_iff_lt,show ¬ (2 ^ 24 < 4) by omega,if_false,show ¬ (4=0) by omega,Sem.run_pure,hel.zero]
    simp only [Nat.one_mul] at hf
    rw [hf]
    rfl
  simp only [execOp,List.map_toArray,List.map_cons,List.map_nil,Sem.run_bind,hrun,Result.andThen_ok,Sem.run_pure]
  have x1:Ext w (w.alloc (.cells (a.eval x).cells tC)):=Ext.alloc _ _
  refine ⟨x1,qc,⟨by simp [qcs],.inr ⟨w.heap.size,1,(a.eval x).cells,rfl,Nat.le_trans hbase he.size,heap_alloc_new w _,Nat.le_refl _,by decide,by rw [hcz],?_⟩⟩,(hqc ▸ hcn).ext x1,h1c⟩
  rw [hc];rfl
end
theorem RowCn.fr {base:Nat} {A R:Nat → Prop} {p:Nat → Bool} {kk:Int} {v:Value} {w w':World} (h:RowCn base A p kk v w) (hf:Fr R w w') (hR:Plain A R w) (hb:∀ k,base ≤ k → ¬ R k):RowCn base A p kk v w':=by
  obtain ⟨qc,h1,h2,h3⟩:=h
  exact ⟨qc,hf.own h1 (fun k hk=>hb k (Own.lt h1 k hk).1),h2.fr hf hR,h3⟩
theorem RS.app {w w':World} {b:Nat} {kv lv kv' lv':Value} {p:Nat → Bool} (hS:RS A w b kv lv p) {k:Nat} (hk:k < 65536) (hlast:∀ j,k ≤ j → ne p j=false) {q:Nat → Bool} (hq:∀ i,65536 ≤ i → q i=false) (hq0:0 < cnt q 65536) {Q:List Qd} {qc:Qd} (q1:Q.length=nk p)
    (q3:∀ i,i < nk p → Cn (fun k=>A k ∧ kv.ownBlock ≠ some k) w (qv (Q.getD i q0)) (blk p (kp p i)) (apA (blk p (kp p i)))) (hc:Cn (fun j=>A j ∧ kv'.ownBlock ≠ some j) w' (qv qc) q (apA q))
    (hf:Fr (onw b kv lv) w w') (hb:w'.heap[b]?=some (.cells #[kv',lv'] tS (0,0))) (hkk:OwnI 0 tK .u16 w' kv' (blA p ++ [(k:Int)])) (hl:Own 0 tC 4 w' lv' (nk p + 1) (clA Q ++ qcs qc)) (hk1:LocR w kv kv') (hl1:LocR w lv lv'):Mut A w b kv lv (upd p k q) w':=by
  have hn:=hlast k (Nat.le_refl _)
  have hcn:cnt (ne p) k=nk p:=(ftA 65536 (Nat.le_of_lt hk) (fun x h1 _=>hlast x h1)).symm
  have hkeys:=kzA p hk hq hq0 hn
  have hkl:=bsA p
  have hnk:=vpA p hk hq hq0 hn
  rw [hcn,List.take_of_length_le (by omega),List.drop_of_length_le (by omega),List.append_nil] at hkeys
  have hcells:clA (Q ++ [qc])=clA Q ++ qcs qc:=by rw [ezA];rfl
  refine ⟨kv',lv',⟨hb,by rw [hkeys];exact hkk,pvA hS.top hk,Q ++ [qc],by rw [List.length_append,List.length_singleton,q1,hnk],by rw [hnk,hcells];exact hl,fun i hi=>?_⟩,hf,hk1,hl1⟩
  rw [hnk] at hi
  rw [znA p hk hq hq0 hn hi,hcn]
  have hne:∀ j,j < nk p → kp p j ≠ k:=fun j hj h=>by
    have:=(kaA hj).2.1
    rw [h,hn] at this;cases this
  split
  · rename_i h1
    rw [jpA p q (hne i h1),igA (by omega)]
    refine Cn.fr ((q3 i h1).mono (A':=fun k=>A k ∧ kv'.ownBlock ≠ some k ∧ kv.ownBlock ≠ some k) fun j hlt ha=>⟨ha.1,fun h=>?_,ha.2⟩) hf (hS.plainA fun k h1 h2=>h2.2.2 h1) |>.mono fun k _ h=>⟨h.1,h.2.1⟩
    rcases hk1 with h' | h'
    · exact ha.2 (h' ▸ h)
    · have:=h' j h;omega
  · have hi':i=nk p:=by omega
    rw [if_pos hi',lwA p k hq,ifA (by omega),show i - Q.length=0 by omega]
    exact hc
theorem Cn.loc {w w1 w':World} {kv kv' v:Value} {p:Nat → Bool} {kk:Int} (hl:LocR w1 kv kv') (hs:w.heap.size ≤ w1.heap.size) (h:Cn (fun j=>A j ∧ kv.ownBlock ≠ some j ∧ j < w.heap.size) w' v p kk):Cn (fun j=>A j ∧ kv'.ownBlock ≠ some j) w' v p kk :=
  h.mono fun j _ ha=>⟨ha.1,fun h=>by
    rcases hl with h' | h'
    · exact ha.2.1 (h' ▸ h)
    · have h9:=h' j h
      have h10:=ha.2.2
      omega⟩
theorem Cn.loc3 {w w1 w':World} {kv kv' v:Value} {p:Nat → Bool} {kk:Int} (hl:LocR w1 kv kv') (hs:w.heap.size ≤ w1.heap.size) (h:Cn (fun j=>A j ∧ kv.ownBlock ≠ some j ∧ j < w.heap.size) w' v p kk):Cn (fun j=>A j ∧ kv.ownBlock ≠ some j ∧ kv'.ownBlock ≠ some j) w' v p kk :=
  h.mono fun j _ ha=>⟨ha.1,ha.2.1,fun h=>by
    rcases hl with h' | h'
    · exact ha.2.1 (h' ▸ h)
    · have h9:=h' j h
      have h10:=ha.2.2
      omega⟩
end Go.Proofs.YtbokphkfojijoaaGreatDoor
end
section
set_option linter.unusedSimpArgs false
set_option linter.unusedVariables false
set_option maxRecDepth 3000
namespace Go.Proofs.YtbokphkfojijoaaGreatDoor
open Go.LA Go.ArrP Go.RowKit
variable {A B:Nat → Prop}
theorem acB (w:World):Fc Tryz.prog 40 #[] w (Ret w (.pred (vyA w.heap.size #[nilS,nilS] tS))):=by
  refine Fc.of (args:=[]) Tryz.func40 rfl rfl Tryz.ntmps40 (Nat.le_of_ble_eq_true rfl) ?_
  repeat' (first|(refine oLA ?_;first|refine a0A rfl ?_|refine dsA (c:=.agg #[nilS,nilS]) rfl (fun _=>by kernel_rfl) ?_|refine enA rfl rfl ?_|refine wOp ?_|(refine wCm ?_ ?_<;>intro hc)|(refine wNl hK ?_;clear hK K))|refine wG ?_|(refine wCR ?_;intro K hK)|fail)
  exact akA rfl rfl (Ext.refl _) (fun v w' e hv=>hv)
theorem nnA {w:World} {base base':Nat} {cs:Array Value} {e:TypeId} (hb:base' ≤ base) (en:Ending) (w':World) (h:Ret w (.pred (vyA base cs e)) en w'):Ret w (.pred (vyA base' cs e)) en w':=by
  obtain ⟨v,h1,h2,b,h3,h4⟩:=h
  exact ⟨v,h1,h2,b,Nat.le_trans hb h3,h4⟩
theorem qiA {w:World} {v:Value} {p:Nat → Bool} (h:NSet B A w v p):NSet B (fun k=>A k ∧ k < w.heap.size) w v p:=h.imp id (fun h=>h.mono (fun _ _ h=>h) (fun k hk ha=>⟨ha,hk⟩))
theorem el_ss:El Tryz.prog 210 27 (.slice none 0 0) 1 24:=⟨rfl,rfl,rfl,by decide⟩
set_option maxHeartbeats 4000000 in
theorem wbA {w:World} {va vb fv:Value} {p q:Nat → Bool} {F:Bool → Bool → Bool} {B1 B2:Nat → Prop} (ha:NSet B1 A w va p) (hb:NSet B2 A w vb q) (hF:F false false=false)
    (hfv:∀ w' A' u v' kp kq p' q',Ext w w' → Cn A' w' u p' kp → Cn A' w' v' q' kq → Fsh A' w' → Clb Tryz.prog fv [u,v'] w' (Ret w' (.pred (cnP A' (two F p' q') (apA (two F p' q'))))))
    (hT:Tab w) (hB:Fsh B w) (hA:Fsh A w):Fc Tryz.prog 106 #[va,vb,fv] w (Ret w (.pred (rsP B A (two F p q)))):=by
  have hk1:∀ w',Ext w w' → _:=fun w' e=>lgA (ha.ext e)
  have hk2:∀ w',Ext w w' → _:=fun w' e=>lgA (hb.ext e)
  have hl1:=bsA p
  have hl2:=bsA q
  have hn1:=g5A p
  have hn2:=g5A q
  have hdd:=ycA p q
  obtain ⟨xs,hxs⟩:∃ xs,xs=(blA p ++ blA q).mergeSort (fun x y=>decide (x ≤ y)):=⟨_,rfl⟩
  have hxl:xs.length ≤ 131072:=by rw [hxs,List.length_mergeSort,List.length_append];omega
  obtain ⟨e,he⟩:∃ e,e=fun k=>ne p k || ne q k:=⟨_,rfl⟩
  obtain ⟨U,hU⟩:∃ U,U=ahA e 65536:=⟨_,rfl⟩
  rw [← he,← hU,← hxs] at hdd
  have hUl:U.length=cnt e 65536:=by rw [hU,b7A]
  have hUle:cnt e 65536 ≤ 65536:=cnt_le _ _
  refine Fc.of (args:=[_,_,_]) Tryz.func106 rfl rfl Tryz.ntmps106 (Nat.le_of_ble_eq_true rfl) ?_
  repeat' (first|(refine oLA ?_;first|refine a0A rfl ?_|(refine oD 13 ?_;refine a4A (hK _ _ (b8A 7 rfl (fun v7 w7 e7 h7=>?_)));clear hK K;obtain ⟨b,hbb,rfl,h7⟩:=h7;refine aeA (by kernel_rfl) (fun K hK=>cmA rfl rfl ?_))|(refine oD 14 ?_;refine oC 64 ?_;refine a2A (f:=64) rfl rfl rfl  (.pred (bfA w.heap.size tK .u16 (blA p))) (by intro u1 w e hu1;(try obtain rfl:u1=_:=hu1);exact (hk1 _ (e7.trans e)).mono (aaA (e7.trans e).size)) ?_)|(refine oD 16 ?_;refine oC 64 ?_;refine a2A (f:=64) rfl rfl rfl  (.pred (bfA w.heap.size tK .u16 (blA q))) (by intro u1 w e hu1;(try obtain rfl:u1=_:=hu1);exact (hk2 _ (e7.trans e)).mono (aaA (e7.trans e).size)) ?_)|refine wOp ?_|(refine wCm ?_ ?_<;>intro hc)|(refine oCv ?_;first|(refine oC 40 ?_;refine c4A (f:=40) rfl rfl  (.pred (vyA w.heap.size #[nilS,nilS] tS)) (by intro w e;exact (acB _).mono (nnA e.size)) ?_))|(refine wNl hK ?_;clear hK K))|refine wG ?_|(refine wCR ?_;intro K hK)|fail)
  all_goals skip
  refine a4A (hK _ _ (b8A 16 rfl (fun v16 w16 e16 h16=>b8A 14 rfl (fun v14 w14 e14 h14=>?_))))
  clear hK K
  replace h16:OwnI w.heap.size tK .u16 w14 v16 (blA q):=OwnI.ext h16 e14
  replace h14:OwnI w.heap.size tK .u16 w14 v14 (blA p):=h14
  have x14:=e7.trans (e16.trans e14)
  replace h7:=(e16.trans e14).block h7
  have hcc:∀ w',Ext w14 w' → ∀ u,Own w14.heap.size 27 1 w' u 2 [v14,v16] → _:=fun w' x u hu=>ufA (Own.slC hu) (h14.ext x).slI (h16.ext x).slI (by omega) (by omega)
  refine aeA (by kernel_rfl) (fun K hK=>whA rfl el_ss rfl rfl (OwnI.cells h14) (OwnI.cells h16) ?_)
  repeat' (first|(refine oLA ?_;first|refine a0A rfl ?_|(refine oD 19 ?_;refine a4A (hK _ _ (b8A 8 rfl (fun v8 w8 e8 h8=>?_)));clear hK K;replace h8:OwnI w14.heap.size tK .u16 w8 v8 (blA p ++ blA q):=h8;refine aeA (by kernel_rfl) (fun K hK=>cmA rfl rfl ?_))|(refine oD 20 ?_;refine a4A (hK _ _ (c3A rfl (by decide) rfl rfl (fun v w'=>v=.tuple #[] ∧ Ext w14 w' ∧ OwnI w14.heap.size tK .u16 w' v8 xs) (fun w1 e1=>(Srt.sort16_c (e8.trans e1) (h8.ext e1) (by rw [List.length_append];omega)).mono (fun en w' h=>⟨_,h.1,rfl,h.2.1,hxs ▸ h.2.2⟩)) (fun v w20 hm=>?_)));clear hK K;obtain ⟨rfl,x20,h20⟩:=hm)|(refine oD 22 ?_;refine a4A (hK _ _ (c3A rfl (by decide) rfl rfl (fun v w'=>Ext w14 w' ∧ OwnI w14.heap.size tK .u16 w' v U) (fun w1 e1=>(rlA (x20.trans e1) (h20.ext e1) (by omega)).mono (fun en w' h=>by obtain ⟨v',h1,h2,h3⟩:=h;exact ⟨v',h1,h2,hdd ▸ h3⟩)) (fun v22 w22 hm=>?_)));clear hK K;obtain ⟨x22,h22⟩:=hm;refine aeA (by kernel_rfl) (fun K hK=>?_))|(refine dkA ?_;refine azA rfl _ rfl rfl (HasI.ownV h22).c ?_)|refine wOp ?_|(refine wCm ?_ ?_<;>intro hc)|(refine oCv ?_;first|(refine oC 137 ?_;refine a2A (f:=137) rfl rfl rfl  (.pred (bfA w14.heap.size tK .u16 (blA p ++ blA q))) (by intro u1 w e hu1;(try obtain rfl:u1=_:=hu1);exact (hcc _ e _ hu1).mono (aaA e.size)) ?_))|(refine wNl hK ?_;clear hK K))|refine wG ?_|(refine wCR ?_;intro K hK)|fail)
  all_goals skip
  clear hdd hcc hk1 hk2 h20 h8 hxs
  replace h7:=x22.block h7
  have lt22:∀ k,v22.ownBlock=some k → k < w22.heap.size:=fun k hk=>(Own.lt h22 k hk).2
  have nb22:v22.ownBlock ≠ some b:=Own.apart h22 h7 (by decide)
  have x022:Ext w w22:=x14.trans x22
  obtain ⟨R,hR⟩:∃ R,R=two F p q:=⟨_,rfl⟩
  have hRe:∀ k,e k=false → ne R k=false:=fun k hk=>by rw [hR];exact zqA hF (by rw [he] at hk;exact hk)
  have hRtop:∀ x,TOP ≤ x → R x=false:=fun x hx=>by rw [hR];unfold two;rw [k6A ha x hx,k6A hb x hx,hF]
  have hRb:∀ k,blk R k=two F (blk p k) (blk q k):=fun k=>by rw [hR];exact yrA hF p q k
  rw [← hR]
  refine adA (ι:=Nat) (fun i=>[(0,.val va),(1,.val vb),(2,.val fv),(7,.val (.pointer (some ⟨b,0,none⟩))),(22,.val v22),(23,.val (.int .i64 U.length)),(24,.val (.int .i64 i))]) (fun i w'=>i ≤ U.length ∧ Ext w w' ∧ w22.heap.size ≤ w'.heap.size ∧ OwnI w.heap.size tK .u16 w' v22 U ∧ ∃ kv lv,RS A w' b kv lv (hmA R (kq e i)) ∧ ∀ k,onw b kv lv k → k=b ∨ w22.heap.size ≤ k) (fun i=>U.length - i)
    (fun w2 e2=>⟨0,⟨Nat.zero_le _,x022.trans e2,e2.size,Own.base (h22.ext e2) x14.size,nilS,nilS,by rw [udA (fun j hj=>hRe j (tvA hj))];exact RS.new (e2.block h7),fun k hk=>by
      rcases hk with rfl | hk | hk
      · exact .inl rfl
      · cases hk
      · cases hk⟩,(by repeat' (first | exact Sub.nil | refine Sub.val rfl (by first | with_reducible rfl | (congr 1;omega)) ?_ | refine Sub.same rfl ?_))⟩) ?_
  rintro i w1 ⟨hi,hx1,hs1,hu1,kv,lv,hS,hon⟩
  have honw:∀ k,onw b kv lv k → w.heap.size ≤ k:=fun k hk=>by
    rcases hon k hk with rfl | h
    · exact hbb
    · exact Nat.le_trans x022.size h
  by_cases hil:i < U.length
  · obtain ⟨k1,k2,k3,k4⟩:=twA (e:=e) (i:=i) (by omega)
    rw [← hU] at k4
    have hst:=ubA hRe (i:=i) (by omega)
    obtain ⟨k,hk⟩:∃ k,k=kq e i:=⟨_,rfl⟩
    rw [← hk] at k1 k2 k4 hst hS
    have hA1:Fsh A w1:=hA.ext hx1
    have hF1:=hS.fsh hA1
    have g1:∀ w',Ext w1 w' → _:=fun w' x=>y4A ((qiA ha).ext (hx1.trans x)) k1
    have g2:∀ w',Ext w1 w' → _:=fun w' x=>y4A ((qiA hb).ext (hx1.trans x)) k1
    have hmn:∀ w' v' p' kk,Cn (fun k=>A k ∧ k < w.heap.size) w' v' p' kk → Cn (fun k=>A k ∧ kv.ownBlock ≠ some k) w' v' p' kk:=fun w' v' p' kk h=>h.mono fun j _ hj=>⟨hj.1,fun hkv=>by
      have:=honw j (.inr (.inl hkv));omega⟩
    have hof:∀ w',Ext w1 w' → ∀ u v',Cn (fun k=>A k ∧ k < w.heap.size) w' u (blk p k) (apA (blk p k)) → Cn (fun k=>A k ∧ k < w.heap.size) w' v' (blk q k) (apA (blk q k)) → Clb Tryz.prog fv [u,v'] w' (Ret w' (.pred (cnP (fun k=>A k ∧ kv.ownBlock ≠ some k) (blk R k) (apA (blk R k))))) :=
      fun w' x u v' h1 h2=>by rw [hRb];exact hfv w' _ u v' _ _ _ _ (hx1.trans x) (hmn _ _ _ _ h1) (hmn _ _ _ _ h2) (hF1.ext x)
    have hlen:∀ w' u,Cn (fun k=>A k ∧ kv.ownBlock ≠ some k) w' u (blk R k) (apA (blk R k)) → _:=fun w' u h=>g6A h
    have hne:ne R k=true ↔ 0 < cnt (blk R k) 65536:=ne_cnt
    obtain ⟨c,hc⟩:∃ c,c=cnt (blk R k) 65536:=⟨_,rfl⟩
    have hcl:=cnt_le (blk R k) 65536
    rw [← hc] at hlen hne hcl
    by_cases hc0:c=0
    · have hnf:ne R k=false:=by
        cases h:ne R k
        · rfl
        · have:=hne.1 h;omega
      rw [ucA hnf] at hst
      clear hc hne
      repeat' (first|(refine oLA ?_;first|refine a0A rfl ?_|(refine oD 26 ?_;refine acA rfl _ rfl (fun _=>rfl) rfl (HasI.ownV hu1) rfl hil ?_;rw [k4])|(refine oD 31 ?_;refine oC 76 ?_;refine a3A (f:=76) rfl rfl rfl rfl  (.pred (cnP (fun k=>A k ∧ k < w.heap.size) (blk p k) (apA (blk p k)))) (by intro u1 u2 w e hu1 hu2;(try obtain rfl:u1=_:=hu1);(try obtain rfl:u2=_:=hu2);exact g1 _ e) ?_)|(refine oD 34 ?_;refine oC 76 ?_;refine a3A (f:=76) rfl rfl rfl rfl  (.pred (cnP (fun k=>A k ∧ k < w.heap.size) (blk q k) (apA (blk q k)))) (by intro u1 u2 w e hu1 hu2;(try obtain rfl:u1=_:=hu1);(try obtain rfl:u2=_:=hu2);exact g2 _ e) ?_)|(refine oD 11 ?_;refine a4A (hK _ _ (irA (q:=35) (φ:=cnP (fun k=>A k ∧ kv.ownBlock ≠ some k) (blk R k) (apA (blk R k))) (n:=4) rfl rfl (by decide) rfl rfl b5A (fun _=>rfl) rfl (fun _=>rfl) (fun b11 c11 w11 e11 hb11 hh11 hn11 hc11=>?_)));clear hK K)|(refine oD 36 ?_;refine bnA rfl hh11 hn11 rfl (fun _=>rfl) (fun _=>rfl) ?_)|(refine oD 37 ?_;refine oC 65 ?_;refine a2A (f:=65) rfl rfl rfl  (.val (.int .i64 c)) (by intro u1 w e hu1;(try obtain rfl:u1=_:=hu1);exact hlen _ _ (Cn.ext hc11 e)) ?_)|refine wOp ?_|(refine wCm ?_ ?_<;>intro hc)|(refine oCv ?_;first|(refine oD 35 ?_;refine ltA rfl rfl rfl rfl (.pred (cnP (fun k=>A k ∧ kv.ownBlock ≠ some k) (blk R k) (apA (blk R k)))) (by intro vf u1 u2 w' e hf hu1 hu2;obtain rfl:vf=_:=hf;exact hof _ e _ _ hu1 hu2) ?_))|(refine wNl hK ?_;clear hK K))|refine wG ?_|(refine wCR ?_;intro K hK)|fail)
      all_goals skip
      exact a6A (i + 1) (fun w5 e5=>⟨hil,hx1.trans (e11.trans e5),Nat.le_trans hs1 (e11.trans e5).size,hu1.ext (e11.trans e5),kv,lv,by rw [hst];exact hS.ext (e11.trans e5),hon⟩) (by omega) (by repeat' (first | exact Sub.nil | refine Sub.val rfl (by first | with_reducible rfl | (congr 1;omega)) ?_ | refine Sub.same rfl ?_))
    · clear hne
      have hq1:∀ i,65536 ≤ i → blk R k i=false:=fun i hi=>ehA (by omega)
      have hq0:0 < cnt (blk R k) 65536:=by rw [← hc];exact Nat.pos_of_ne_zero hc0
      have hlast:∀ j,k ≤ j → ne (hmA R k) j=false:=fun j hj=>ocA R hj
      have hnkc:=g5A (hmA R k)
      clear hc
      repeat' (first|(refine oLA ?_;first|refine wBk ?_|(refine oD 26 ?_;refine acA rfl _ rfl (fun _=>rfl) rfl (HasI.ownV hu1) rfl hil ?_;rw [k4])|(refine oD 31 ?_;refine oC 76 ?_;refine a3A (f:=76) rfl rfl rfl rfl  (.pred (cnP (fun k=>A k ∧ k < w.heap.size) (blk p k) (apA (blk p k)))) (by intro u1 u2 w e hu1 hu2;(try obtain rfl:u1=_:=hu1);(try obtain rfl:u2=_:=hu2);exact g1 _ e) ?_)|(refine oD 34 ?_;refine oC 76 ?_;refine a3A (f:=76) rfl rfl rfl rfl  (.pred (cnP (fun k=>A k ∧ k < w.heap.size) (blk q k) (apA (blk q k)))) (by intro u1 u2 w e hu1 hu2;(try obtain rfl:u1=_:=hu1);(try obtain rfl:u2=_:=hu2);exact g2 _ e) ?_)|(refine oD 11 ?_;refine a4A (hK _ _ (irA (q:=35) (φ:=cnP (fun k=>A k ∧ kv.ownBlock ≠ some k) (blk R k) (apA (blk R k))) (n:=4) rfl rfl (by decide) rfl rfl b5A (fun _=>rfl) rfl (fun _=>rfl) (fun b11 c11 w11 e11 hb11 hh11 hn11 hc11=>?_)));clear hK K)|(refine oD 36 ?_;refine bnA rfl hh11 hn11 rfl (fun _=>rfl) (fun _=>rfl) ?_)|(refine oD 37 ?_;refine oC 65 ?_;refine a2A (f:=65) rfl rfl rfl  (.val (.int .i64 c)) (by intro u1 w e hu1;(try obtain rfl:u1=_:=hu1);exact hlen _ _ (Cn.ext hc11 e)) ?_)|(refine oD 39 ?_;refine cmA rfl rfl ?_;have hS11:=hS.ext e11;have hcA:Cn (fun j=>A j ∧ kv.ownBlock ≠ some j ∧ j < w11.heap.size) w11 (.agg c11) (blk R k) (apA (blk R k)):=Cn.mono hc11 fun j hj ha=>⟨ha.1,ha.2,hj⟩)|(refine oNc ?_;refine a8A rfl rfl ?_)|(refine oF 0 ?_;refine a1A (a':=⟨b,0,none⟩) rfl rfl (fun _=>rfl) ?_)|(refine oF 1 ?_;refine a1A (a':=⟨b,1,none⟩) rfl rfl (fun _=>rfl) ?_)|(refine oLt 27 ?_;refine a5A (c:=kv) rfl (fun _=>rfl) rfl hS11.hb rfl ?_)|(refine oLt 92 ?_;refine a5A (c:=lv) rfl (fun _=>rfl) rfl hS11.hb rfl ?_)|(refine oD 46 ?_;refine d6A rfl czA rfl rfl ?_)|(refine oD 52 ?_;refine bnA rfl hh11 hn11 rfl (fun _=>rfl) (fun _=>rfl) ?_)|(refine oD 53 ?_;refine daA (base:=w11.heap.size) (Nat.le_refl _) rfl dbA rfl (fun v w e h=>by obtain rfl:v=_:=h;exact hcA.ext e) ?_)|refine wOp ?_|(refine wCm ?_ ?_<;>intro hc)|(refine oCv ?_;first|(refine oD 35 ?_;refine ltA rfl rfl rfl rfl (.pred (cnP (fun k=>A k ∧ kv.ownBlock ≠ some k) (blk R k) (apA (blk R k)))) (by intro vf u1 u2 w' e hf hu1 hu2;obtain rfl:vf=_:=hf;exact hof _ e _ _ hu1 hu2) ?_))|(refine wNl hK ?_;clear hK K))|(refine oCX ?_;first|refine ajA (id:=9) [8,15,18,21] (by kernel_rfl) (by kernel_rfl) (by kernel_rfl) (a7A ?_))|refine wG ?_|(refine wCR ?_;intro K hK)|refine wPh ?_|fail)
      have hplK:∀ w',Ext w11 w' → Plain (fun j=>A j ∧ kv.ownBlock ≠ some j ∧ j < w11.heap.size) (fun j=>kv.ownBlock=some j) w':=fun w' x j hj=>by
        obtain ⟨cur,hcur⟩:=atA (hS11.hk.ext x) hj
        exact ⟨cur,_,_,hcur,by decide,by decide,fun ha=>absurd hj ha.2.1⟩
      have hplL:∀ (AA:Nat → Prop) w' n cs,Own 0 tC 4 w' lv n cs → Plain AA (fun j=>lv.ownBlock=some j) w':=fun AA w' n cs ho j hj=>by
        obtain ⟨cur,hcur⟩:=atA ho hj
        exact ⟨cur,_,_,hcur,by decide,by decide,fun _=>by decide⟩
      have lkv:∀ k,kv.ownBlock=some k → k < w11.heap.size:=fun k h=>hS11.lt (.inr (.inl h))
      have llv:∀ k,lv.ownBlock=some k → k < w11.heap.size:=fun k h=>hS11.lt (.inr (.inr h))
      have hsn:=slot_ne hS11
      obtain ⟨Q,q1,q2,q3⟩:=hS11.hl
      have hklen:=bsA (hmA R k)
      have hnkl:=g5A (hmA R k)
      refine cqA rfl czA rfl hS11.hk rfl HasC.own (fun u hu=>by rw [List.mem_singleton] at hu;subst hu;rfl) (by unfold maxLen;omega) (by omega) (fun kv' w1' w2 e1 ho' hf hl=>⟨(53,.pred (x1A w11.heap.size (fun j=>A j ∧ kv.ownBlock ≠ some j ∧ j < w11.heap.size) (blk R k) (apA (blk R k)))) :: _,fun t u _ hu=>r2A (fun u hu=>?_) bbA t u hu,a7A ?_⟩)
      · exact RowCn.fr hu hf (hplK _ e1) (fun j hj h=>by have:=lkv j h;omega)
      have hb2:=hf.at (e1.block hS11.hb) (fun h=>hsn.1 h)
      have hh2:=hf.at (e1.block hh11) (fun h=>Own.apart hS11.hk hh11 (by decide) h)
      have q22:Own 0 tC 4 w2 lv (nk (hmA R k)) (clA Q):=hf.own (q2.ext e1) (fun k h1 h2=>hsn.2.2 k h2 h1)
      have hc2:=(hcA.ext e1).fr hf (hplK _ e1)
      have sz2:=Nat.le_trans e1.size hf.size
      repeat' (first|(refine oLA ?_;first|refine wBk ?_|(refine oNc ?_;refine a8A rfl rfl ?_)|(refine oF 0 ?_;refine a1A (a':=⟨b,0,none⟩) rfl rfl (fun _=>rfl) ?_)|(refine oF 1 ?_;refine a1A (a':=⟨b,1,none⟩) rfl rfl (fun _=>rfl) ?_)|(refine oLt 27 ?_;refine a5A (c:=kv) rfl (fun _=>rfl) rfl hb2 rfl ?_)|(refine oLt 92 ?_;refine a5A (c:=lv) rfl (fun _=>rfl) rfl hb2 rfl ?_)|(refine oLt 96 ?_;refine bnA (n:=4) rfl hh2 hn11 rfl (fun _=>rfl) (fun _=>rfl) ?_)|(refine oD 53 ?_;refine daA (base:=w11.heap.size) sz2 rfl dbA rfl (fun v w e h=>by obtain rfl:v=_:=h;exact hc2.ext e) ?_)|refine wOp ?_|(refine wCm ?_ ?_<;>intro hc)|(refine wNl hK ?_;clear hK K))|refine wG ?_|(refine wCR ?_;intro K hK)|refine wPh ?_|fail)
      refine gaA 53 rfl (by decide) rfl (fun v53 w3 e3 h53=>?_)
      obtain ⟨qc,r1,r2,r3⟩:=h53
      refine cqA rfl dbA rfl (q22.ext e3) rfl (HasC.ownV r1) r3 (by unfold maxLen;omega) (by omega) (fun lv' w3' w4 e3' hol hfl hll=>⟨_,fun t u _ hu=>bbA t u hu,a7A ?_⟩)
      have x23:=e3.trans e3'
      have hb4:=hfl.at (x23.block hb2) (fun h=>hsn.2.1 h)
      have r14:=hfl.own (ho'.ext x23) (fun k h1 h2=>by
        obtain ⟨cur,hcur⟩:=atA (ho'.ext x23) h1
        exact Own.apart (q22.ext x23) hcur (by decide) h2)
      have rc4:=(r2.ext e3').fr hfl (hplL _ _ _ _ (q22.ext x23))
      obtain ⟨ck1,ck2⟩:=c8A r14
      obtain ⟨cl1,cl2⟩:=c8A hol
      have hF4:Fr (onw b kv lv) w11 w4:=(((Fr.of e1).trans (hf.mono fun k h=>.inr (.inl h))).trans (Fr.of x23)).trans (hfl.mono fun k h=>.inr (.inr h))
      repeat' (first|(refine oLA ?_;first|refine wBk ?_|(refine oNc ?_;refine a8A rfl rfl ?_)|(refine oF 0 ?_;refine a1A (a':=⟨b,0,none⟩) rfl rfl (fun _=>rfl) ?_)|(refine oF 1 ?_;refine a1A (a':=⟨b,1,none⟩) rfl rfl (fun _=>rfl) ?_)|(refine oLt 27 ?_;refine a5A (c:=kv) rfl (fun _=>rfl) rfl hb4 rfl ?_)|(refine oLt 92 ?_;refine a5A (c:=lv) rfl (fun _=>rfl) rfl hb4 rfl ?_)|refine wOp ?_|(refine wCm ?_ ?_<;>intro hc)|(refine wNl hK ?_;clear hK K))|refine wG ?_|(refine wCR ?_;intro K hK)|refine wPh ?_|fail)
      refine dpA (news:=[kv']) rfl rfl rfl hb4 ck1 (fun _=>rfl) (Nat.le_of_ble_eq_true rfl) (fun u hu=>by rw [List.mem_singleton] at hu;subst hu;exact ck2) (fun w6 e6=>⟨_,fun t u hu=>bbA t u hu,a7A ?_⟩)
      have hb6:(w6.setRow b #[kv',lv]).heap[b]?=_:=setRow_heap w6 b _ _ _ _ (e6.block hb4)
      have rc7:=(rc4.ext e6).setRow (e6.block hb4) ⟨by decide,by decide,by decide⟩ #[kv',lv]
      obtain ⟨w7,hw7⟩:∃ w7,w7=w6.setRow b #[kv',lv]:=⟨_,rfl⟩
      have hF7:Fr (onw b kv lv) w11 w7:=hw7 ▸ ((hF4.trans (Fr.of e6)).setRow (.inl rfl) _)
      have r17:Own 0 tK 1 w7 kv' _ _:=hw7 ▸ Own.setRow (r14.ext e6) _ (Own.apart (r14.ext e6) (e6.block hb4) (by decide))
      have s17:Own 0 tC 4 w7 lv' _ _:=hw7 ▸ Own.setRow (hol.ext e6) _ (Own.apart (hol.ext e6) (e6.block hb4) (by decide))
      rw [show (#[kv,lv].toList.take 0 ++ [kv'] ++ #[kv,lv].toList.drop (0 + [kv'].length)).toArray=#[kv',lv] from rfl]
      rw [← hw7] at hb6 rc7 ⊢
      clear hw7
      repeat' (first|(refine oLA ?_;first|refine wBk ?_|(refine oNc ?_;refine a8A rfl rfl ?_)|(refine oF 0 ?_;refine a1A (a':=⟨b,0,none⟩) rfl rfl (fun _=>rfl) ?_)|(refine oF 1 ?_;refine a1A (a':=⟨b,1,none⟩) rfl rfl (fun _=>rfl) ?_)|(refine oLt 27 ?_;refine a5A (c:=kv) rfl (fun _=>rfl) rfl hb6 rfl ?_)|(refine oLt 92 ?_;refine a5A (c:=lv) rfl (fun _=>rfl) rfl hb6 rfl ?_)|refine wOp ?_|(refine wCm ?_ ?_<;>intro hc)|(refine wNl hK ?_;clear hK K))|refine wG ?_|(refine wCR ?_;intro K hK)|refine wPh ?_|fail)
      refine dpA (news:=[lv']) rfl rfl rfl hb6 cl1 (fun _=>rfl) (Nat.le_of_ble_eq_true rfl) (fun u hu=>by rw [List.mem_singleton] at hu;subst hu;exact cl2) (fun w8 e8=>⟨_,fun t u hu=>bbA t u hu,aiA ?_⟩)
      have hb8:(w8.setRow b #[kv',lv']).heap[b]?=_:=setRow_heap w8 b _ _ _ _ (e8.block hb6)
      have rc9:=(rc7.ext e8).setRow (e8.block hb6) ⟨by decide,by decide,by decide⟩ #[kv',lv']
      obtain ⟨w9,hw9⟩:∃ w9,w9=w8.setRow b #[kv',lv']:=⟨_,rfl⟩
      have hF9:Fr (onw b kv lv) w11 w9:=hw9 ▸ ((hF7.trans (Fr.of e8)).setRow (.inl rfl) _)
      have r19:Own 0 tK 1 w9 kv' _ _:=hw9 ▸ Own.setRow (r17.ext e8) _ (Own.apart (r17.ext e8) (e8.block hb6) (by decide))
      have s19:Own 0 tC 4 w9 lv' _ _:=hw9 ▸ Own.setRow (s17.ext e8) _ (Own.apart (s17.ext e8) (e8.block hb6) (by decide))
      rw [show (#[kv',lv].toList.take 1 ++ [lv'] ++ #[kv',lv].toList.drop (1 + [lv'].length)).toArray=#[kv',lv'] from rfl]
      rw [← hw9] at hb8 rc9 ⊢
      clear hw9
      have hkk9:OwnI 0 tK .u16 w9 kv' (blA (hmA R k) ++ [(k:Int)]):=by unfold OwnI;rw [List.map_append,List.length_append,List.length_singleton];exact r19
      have hmut:Mut A w11 b kv lv _ w9:=hS11.app k1 hlast hq1 hq0 q1 q3 (Cn.loc hl e1.size rc9) hF9 hb8 hkk9 s19 (hl.le e1.size) (hll.le (by have:=x23.size;omega))
      repeat' (first|(refine oLA ?_;first|refine wBk ?_|(refine oNc ?_;refine a8A rfl rfl ?_)|(refine oF 0 ?_;refine a1A (a':=⟨b,0,none⟩) rfl rfl (fun _=>rfl) ?_)|(refine oF 1 ?_;refine a1A (a':=⟨b,1,none⟩) rfl rfl (fun _=>rfl) ?_)|(refine oLt 27 ?_;refine a5A (c:=kv) rfl (fun _=>rfl) rfl hb8 rfl ?_)|(refine oLt 92 ?_;refine a5A (c:=lv) rfl (fun _=>rfl) rfl hb8 rfl ?_)|refine wOp ?_|(refine wCm ?_ ?_<;>intro hc)|(refine wNl hK ?_;clear hK K))|refine wG ?_|(refine wCR ?_;intro K hK)|refine wPh ?_|fail)
      all_goals skip
      obtain ⟨kv9,lv9,m1,m2,m3,m4⟩:=hmut
      have hu9:=m2.own (hu1.ext e11) (fun j h1 h2=>by
        rcases hon j h2 with rfl | h3
        · exact nb22 h1
        · have:=lt22 j h1;omega)
      have hon9:∀ j,onw b kv9 lv9 j → j=b ∨ w22.heap.size ≤ j:=fun j hj=>by
        have hs11:=e11.size
        rcases hj with rfl | hj | hj
        · exact .inl rfl
        · rcases m3 with m3 | m3
          · exact hon j (.inr (.inl (m3 ▸ hj)))
          · have:=m3 j hj;exact .inr (by omega)
        · rcases m4 with m4 | m4
          · exact hon j (.inr (.inr (m4 ▸ hj)))
          · have:=m4 j hj;exact .inr (by omega)
      have x9:=Fr.ext (hx1.trans e11) m2 honw
      have sz9:=Nat.le_trans (Nat.le_trans hs1 e11.size) m2.size
      exact a6A (i + 1) (fun w5 e5=>⟨hil,x9.trans e5,Nat.le_trans sz9 e5.size,Own.ext hu9 e5,kv9,lv9,by rw [hst];exact m1.ext e5,hon9⟩) (by omega) (by repeat' (first | exact Sub.nil | refine Sub.val rfl (by first | with_reducible rfl | (congr 1;omega)) ?_ | refine Sub.same rfl ?_))
  · have hie:i=U.length:=by omega
    rw [hie,hUl,w5A (Nat.le_refl _),ydA hRtop] at hS
    repeat' (first|(refine oLA ?_;first|refine a0A rfl ?_|refine wOp ?_|(refine wCm ?_ ?_<;>intro hc)|(refine wNl hK ?_;clear hK K))|refine wG ?_|(refine wCR ?_;intro K hK)|fail)
    all_goals skip
    exact akA rfl rfl hx1 (fun u w5 e5 hu=>by obtain rfl:u=_:=hu;exact ⟨b,kv,lv,rfl,hS.ext e5,fun k hk=>hB k (honw k hk)⟩)
end Go.Proofs.YtbokphkfojijoaaGreatDoor
end
section
set_option linter.unusedSimpArgs false
set_option linter.unusedVariables false
set_option maxRecDepth 3000
namespace Go.Proofs.YtbokphkfojijoaaGreatDoor
open Go.LA Go.ArrP Go.RowKit
variable {A B:Nat → Prop}
theorem or_s {w:World} {va vb:Value} {p q:Nat → Bool} {B1 B2:Nat → Prop} (ha:NSet B1 A w va p) (hb:NSet B2 A w vb q) (hT:Tab w) (hB:Fsh B w) (hA:Fsh A w) :
    Fc Tryz.prog 71 #[va,vb] w (Ret w (.pred (rsP B A (two (fun x y=>x || y) p q)))):=by
  refine Fc.of (args:=[_,_]) Tryz.func71 rfl rfl Tryz.ntmps71 (Nat.le_of_ble_eq_true rfl) ?_
  repeat' (first|(refine oLA ?_;first|refine a0A rfl ?_|refine wOp ?_|(refine wCm ?_ ?_<;>intro hc)|(refine oCv ?_;first|(refine oC 106 ?_;refine beA (f:=106) rfl rfl rfl rfl rfl  (.pred (rsP B A (two (fun x y=>x || y) p q))) (by intro u1 u2 u3 w e hu1 hu2 hu3;(try obtain rfl:u1=_:=hu1);(try obtain rfl:u2=_:=hu2);(try obtain rfl:u3=_:=hu3);exact wbA (ha.ext e) (hb.ext e) rfl (fun w' A' u v' kp kq p' q' x h1 h2 hF=>Clb.of (cor_c h1 h2 ((hT.ext e).ext x) hF)) (hT.ext e) (hB.ext e) (hA.ext e)) ?_))|(refine wNl hK ?_;clear hK K))|refine wG ?_|(refine wCR ?_;intro K hK)|fail)
  exact akA rfl rfl (Ext.refl _) (fun _ _ _ hv=>hv)
theorem knA {w:World} {va vb:Value} {p q:Nat → Bool} {B1 B2:Nat → Prop} (ha:NSet B1 A w va p) (hb:NSet B2 A w vb q) (hT:Tab w) (hB:Fsh B w) (hA:Fsh A w) :
    Fc Tryz.prog 73 #[va,vb] w (Ret w (.pred (rsP B A (two (fun x y=>x && !y) p q)))):=by
  refine Fc.of (args:=[_,_]) Tryz.func73 rfl rfl Tryz.ntmps73 (Nat.le_of_ble_eq_true rfl) ?_
  repeat' (first|(refine oLA ?_;first|refine a0A rfl ?_|refine wOp ?_|(refine wCm ?_ ?_<;>intro hc)|(refine oCv ?_;first|(refine oC 106 ?_;refine beA (f:=106) rfl rfl rfl rfl rfl  (.pred (rsP B A (two (fun x y=>x && !y) p q))) (by intro u1 u2 u3 w e hu1 hu2 hu3;(try obtain rfl:u1=_:=hu1);(try obtain rfl:u2=_:=hu2);(try obtain rfl:u3=_:=hu3);exact wbA (ha.ext e) (hb.ext e) rfl (fun w' A' u v' kp kq p' q' x h1 h2 hF=>Clb.of (rvA h1 h2 ((hT.ext e).ext x) hF)) (hT.ext e) (hB.ext e) (hA.ext e)) ?_))|(refine wNl hK ?_;clear hK K))|refine wG ?_|(refine wCR ?_;intro K hK)|fail)
  exact akA rfl rfl (Ext.refl _) (fun _ _ _ hv=>hv)
end Go.Proofs.YtbokphkfojijoaaGreatDoor
end
section
set_option linter.unusedSimpArgs false
set_option linter.unusedVariables false
set_option maxRecDepth 3000
namespace Go.Proofs.YtbokphkfojijoaaGreatDoor
open Go.LA Go.ArrP Go.RowKit
variable {A B:Nat → Prop}
set_option maxHeartbeats 400000 in
theorem vxA {w0 w:World} {b:Nat} {kv lv va:Value} {p:Nat → Bool} {xs:List Int} {k:Nat} (hx0:Ext w0 w) (hT:Tab w0) (hB:∀ k,onw b kv lv k → w0.heap.size ≤ k) (hS:RS A w b kv lv p) (hA:Fsh A w) (hk:k < 65536) (hlast:∀ j,k ≤ j → ne p j=false) (ha:SlI .u16 w va xs) (hi:Inc xs) (hlo:Low xs) (h0:0 < xs.length) :
    Fc Tryz.prog 83 #[.pointer (some ⟨b,0,none⟩),.int .u16 k,va] w (fun en w'=>en=.returned (.tuple #[]) ∧ Mut A w b kv lv (upd p k (c7A xs)) w'):=by
  have hF:=hS.fsh hA
  have hq1:∀ i,65536 ≤ i → c7A xs i=false:=fun i hi'=>by
    unfold c7A;exact decide_eq_false fun h=>by have:=hlo _ h;omega
  have hq0:0 < cnt (c7A xs) 65536:=by
    rw [← b7A,jhA hi hlo];exact h0
  have hnkc:=g5A p
  obtain ⟨q,hq⟩:∃ q,q=c7A xs:=⟨_,rfl⟩
  have hof:∀ w',Ext w w' → _:=fun w' e=>qfA (ha.ext e) hi hlo (hF.ext e)
  rw [← hq] at hq1 hq0 hof ⊢
  clear hq
  refine Fc.of (args:=[_,_,_]) Tryz.func83 rfl rfl Tryz.ntmps83 (Nat.le_of_ble_eq_true rfl) ?_
  repeat' (first|(refine oLA ?_;first|refine wBk ?_|(refine oD 6 ?_;refine a4A (hK _ _ (irA (q:=11) (φ:=cnP (fun k=>A k ∧ kv.ownBlock ≠ some k) q 1) (n:=4) rfl rfl (by decide) rfl rfl b5A (fun _=>rfl) rfl (fun _=>rfl) (fun b11 c11 w11 e11 hb11 hh11 hn11 hc11=>?_)));clear hK K;refine aeA (by kernel_rfl) (fun K hK=>?_))|(refine oD 13 ?_;refine cmA rfl rfl ?_;have hS11:=hS.ext e11;have hcA:Cn (fun j=>A j ∧ kv.ownBlock ≠ some j ∧ j < w11.heap.size) w11 (.agg c11) q 1:=Cn.mono hc11 fun j hj ha=>⟨ha.1,ha.2,hj⟩)|(refine oNc ?_;refine a8A rfl rfl ?_)|(refine oF 0 ?_;refine a1A (a':=⟨b,0,none⟩) rfl rfl (fun _=>rfl) ?_)|(refine oF 1 ?_;refine a1A (a':=⟨b,1,none⟩) rfl rfl (fun _=>rfl) ?_)|(refine oLt 27 ?_;refine a5A (c:=kv) rfl (fun _=>rfl) rfl hS11.hb rfl ?_)|(refine oLt 92 ?_;refine a5A (c:=lv) rfl (fun _=>rfl) rfl hS11.hb rfl ?_)|(refine oD 20 ?_;refine d6A rfl czA rfl rfl ?_)|(refine oD 26 ?_;refine bnA rfl hh11 hn11 rfl (fun _=>rfl) (fun _=>rfl) ?_)|refine wOp ?_|(refine wCm ?_ ?_<;>intro hc)|(refine oCv ?_;first|(refine oC 121 ?_;refine a2A (f:=121) rfl rfl rfl  (.tup2 (.pred (cnP (fun k=>A k ∧ kv.ownBlock ≠ some k) q 1)) (.val (.bool true))) (by intro u1 w e hu1;(try obtain rfl:u1=_:=hu1);exact hof _ e) ?_))|(refine wNl hK ?_;clear hK K))|(refine oCX ?_;first|refine ajA (id:=1) [8,16,19,22] (by kernel_rfl) (by kernel_rfl) (by kernel_rfl) (a7A ?_))|refine wG ?_|(refine wCR ?_;intro K hK)|refine wPh ?_|fail)
  all_goals skip
  have hplK:∀ w',Ext w11 w' → Plain (fun j=>A j ∧ kv.ownBlock ≠ some j ∧ j < w11.heap.size) (fun j=>kv.ownBlock=some j) w':=fun w' x j hj=>by
    obtain ⟨cur,hcur⟩:=atA (hS11.hk.ext x) hj
    exact ⟨cur,_,_,hcur,by decide,by decide,fun ha=>absurd hj ha.2.1⟩
  have hplL:∀ (AA:Nat → Prop) w' n cs,Own 0 tC 4 w' lv n cs → Plain AA (fun j=>lv.ownBlock=some j) w':=fun AA w' n cs ho j hj=>by
    obtain ⟨cur,hcur⟩:=atA ho hj
    exact ⟨cur,_,_,hcur,by decide,by decide,fun _=>by decide⟩
  have lkv:∀ k,kv.ownBlock=some k → k < w11.heap.size:=fun k h=>hS11.lt (.inr (.inl h))
  have llv:∀ k,lv.ownBlock=some k → k < w11.heap.size:=fun k h=>hS11.lt (.inr (.inr h))
  have hsn:=slot_ne hS11
  obtain ⟨Q,q1,q2,q3⟩:=hS11.hl
  have hklen:=bsA p
  have hnkl:=g5A p
  refine cqA rfl czA rfl hS11.hk rfl HasC.own (fun u hu=>by rw [List.mem_singleton] at hu;subst hu;rfl) (by unfold maxLen;omega) (by omega) (fun kv' w1' w2 e1 ho' hf hl=>⟨_,fun t u _ hu=>bbA t u hu,a7A ?_⟩)
  have hT2:=hT.ext (Fr.ext (hx0.trans (e11.trans e1)) hf (fun j h=>hB j (.inr (.inl h))));have hF3:Fsh (fun j=>A j ∧ kv.ownBlock ≠ some j ∧ kv'.ownBlock ≠ some j) w2:=fun j hj=>⟨hA j (Nat.le_trans (Nat.le_trans e11.size e1.size) (Nat.le_trans hf.size hj)),fun h=>by have h1:=lkv j h;have h2:=e1.size;have h3:=hf.size;omega,fun h=>by have h1:=(Own.lt ho' j h).2;omega⟩
  have hb2:=hf.at (e1.block hS11.hb) (fun h=>hsn.1 h)
  have hh2:=hf.at (e1.block hh11) (fun h=>Own.apart hS11.hk hh11 (by decide) h)
  have q22:Own 0 tC 4 w2 lv (nk p) (clA Q):=hf.own (q2.ext e1) (fun k h1 h2=>hsn.2.2 k h2 h1)
  have hc2:=(hcA.ext e1).fr hf (hplK _ e1)
  have sz2:=Nat.le_trans e1.size hf.size
  repeat' (first|(refine oLA ?_;first|refine wBk ?_|(refine oNc ?_;refine a8A rfl rfl ?_)|(refine oF 0 ?_;refine a1A (a':=⟨b,0,none⟩) rfl rfl (fun _=>rfl) ?_)|(refine oF 1 ?_;refine a1A (a':=⟨b,1,none⟩) rfl rfl (fun _=>rfl) ?_)|(refine oLt 27 ?_;refine a5A (c:=kv) rfl (fun _=>rfl) rfl hb2 rfl ?_)|(refine oLt 92 ?_;refine a5A (c:=lv) rfl (fun _=>rfl) rfl hb2 rfl ?_)|(refine oLt 96 ?_;refine bnA (n:=4) rfl hh2 hn11 rfl (fun _=>rfl) (fun _=>rfl) ?_)|(first | (refine oD 27 ?_;refine oC 93 ?_;refine a2A (f:=93) rfl rfl rfl  (.pred (cnP (fun j=>A j ∧ kv.ownBlock ≠ some j ∧ kv'.ownBlock ≠ some j) q (apA q))) (by intro u1 w e hu1;(try obtain rfl:u1=_:=hu1);exact d3A ((Cn.loc3 hl e1.size hc2).ext e) (hT2.ext e) (hF3.ext e)) ?_) | (refine oD 28 ?_;refine daA (base:=w11.heap.size) sz2 rfl dbA rfl (fun v w e h=>h) ?_))|refine wOp ?_|(refine wCm ?_ ?_<;>intro hc)|(refine wNl hK ?_;clear hK K))|refine wG ?_|(refine wCR ?_;intro K hK)|refine wPh ?_|fail)
  refine gaA 28 rfl (by decide) rfl (fun v53 w3 e3 h53=>?_)
  obtain ⟨qc,r1,r2,r3⟩:=h53
  refine cqA rfl dbA rfl (q22.ext e3) rfl (HasC.ownV r1) r3 (by unfold maxLen;omega) (by omega) (fun lv' w3' w4 e3' hol hfl hll=>⟨_,fun t u _ hu=>bbA t u hu,a7A ?_⟩)
  have x23:=e3.trans e3'
  have hb4:=hfl.at (x23.block hb2) (fun h=>hsn.2.1 h)
  have r14:=hfl.own (ho'.ext x23) (fun k h1 h2=>by
    obtain ⟨cur,hcur⟩:=atA (ho'.ext x23) h1
    exact Own.apart (q22.ext x23) hcur (by decide) h2)
  have rc4:=(r2.ext e3').fr hfl (hplL _ _ _ _ (q22.ext x23))
  obtain ⟨ck1,ck2⟩:=c8A r14
  obtain ⟨cl1,cl2⟩:=c8A hol
  have hF4:Fr (onw b kv lv) w11 w4:=(((Fr.of e1).trans (hf.mono fun k h=>.inr (.inl h))).trans (Fr.of x23)).trans (hfl.mono fun k h=>.inr (.inr h))
  repeat' (first|(refine oLA ?_;first|refine wBk ?_|(refine oNc ?_;refine a8A rfl rfl ?_)|(refine oF 0 ?_;refine a1A (a':=⟨b,0,none⟩) rfl rfl (fun _=>rfl) ?_)|(refine oF 1 ?_;refine a1A (a':=⟨b,1,none⟩) rfl rfl (fun _=>rfl) ?_)|(refine oLt 27 ?_;refine a5A (c:=kv) rfl (fun _=>rfl) rfl hb4 rfl ?_)|(refine oLt 92 ?_;refine a5A (c:=lv) rfl (fun _=>rfl) rfl hb4 rfl ?_)|refine wOp ?_|(refine wCm ?_ ?_<;>intro hc)|(refine wNl hK ?_;clear hK K))|refine wG ?_|(refine wCR ?_;intro K hK)|refine wPh ?_|fail)
  refine dpA (news:=[kv']) rfl rfl rfl hb4 ck1 (fun _=>rfl) (Nat.le_of_ble_eq_true rfl) (fun u hu=>by rw [List.mem_singleton] at hu;subst hu;exact ck2) (fun w6 e6=>⟨_,fun t u hu=>bbA t u hu,a7A ?_⟩)
  have hb6:(w6.setRow b #[kv',lv]).heap[b]?=_:=setRow_heap w6 b _ _ _ _ (e6.block hb4)
  have rc7:=(rc4.ext e6).setRow (e6.block hb4) ⟨by decide,by decide,by decide⟩ #[kv',lv]
  obtain ⟨w7,hw7⟩:∃ w7,w7=w6.setRow b #[kv',lv]:=⟨_,rfl⟩
  have hF7:Fr (onw b kv lv) w11 w7:=hw7 ▸ ((hF4.trans (Fr.of e6)).setRow (.inl rfl) _)
  have r17:Own 0 tK 1 w7 kv' _ _:=hw7 ▸ Own.setRow (r14.ext e6) _ (Own.apart (r14.ext e6) (e6.block hb4) (by decide))
  have s17:Own 0 tC 4 w7 lv' _ _:=hw7 ▸ Own.setRow (hol.ext e6) _ (Own.apart (hol.ext e6) (e6.block hb4) (by decide))
  rw [show (#[kv,lv].toList.take 0 ++ [kv'] ++ #[kv,lv].toList.drop (0 + [kv'].length)).toArray=#[kv',lv] from rfl]
  rw [← hw7] at hb6 rc7 ⊢
  clear hw7
  repeat' (first|(refine oLA ?_;first|refine wBk ?_|(refine oNc ?_;refine a8A rfl rfl ?_)|(refine oF 0 ?_;refine a1A (a':=⟨b,0,none⟩) rfl rfl (fun _=>rfl) ?_)|(refine oF 1 ?_;refine a1A (a':=⟨b,1,none⟩) rfl rfl (fun _=>rfl) ?_)|(refine oLt 27 ?_;refine a5A (c:=kv) rfl (fun _=>rfl) rfl hb6 rfl ?_)|(refine oLt 92 ?_;refine a5A (c:=lv) rfl (fun _=>rfl) rfl hb6 rfl ?_)|refine wOp ?_|(refine wCm ?_ ?_<;>intro hc)|(refine wNl hK ?_;clear hK K))|refine wG ?_|(refine wCR ?_;intro K hK)|refine wPh ?_|fail)
  refine dpA (news:=[lv']) rfl rfl rfl hb6 cl1 (fun _=>rfl) (Nat.le_of_ble_eq_true rfl) (fun u hu=>by rw [List.mem_singleton] at hu;subst hu;exact cl2) (fun w8 e8=>⟨_,fun t u hu=>bbA t u hu,aiA ?_⟩)
  have hb8:(w8.setRow b #[kv',lv']).heap[b]?=_:=setRow_heap w8 b _ _ _ _ (e8.block hb6)
  have rc9:=(rc7.ext e8).setRow (e8.block hb6) ⟨by decide,by decide,by decide⟩ #[kv',lv']
  obtain ⟨w9,hw9⟩:∃ w9,w9=w8.setRow b #[kv',lv']:=⟨_,rfl⟩
  have hF9:Fr (onw b kv lv) w11 w9:=hw9 ▸ ((hF7.trans (Fr.of e8)).setRow (.inl rfl) _)
  have r19:Own 0 tK 1 w9 kv' _ _:=hw9 ▸ Own.setRow (r17.ext e8) _ (Own.apart (r17.ext e8) (e8.block hb6) (by decide))
  have s19:Own 0 tC 4 w9 lv' _ _:=hw9 ▸ Own.setRow (s17.ext e8) _ (Own.apart (s17.ext e8) (e8.block hb6) (by decide))
  rw [show (#[kv',lv].toList.take 1 ++ [lv'] ++ #[kv',lv].toList.drop (1 + [lv'].length)).toArray=#[kv',lv'] from rfl]
  rw [← hw9] at hb8 rc9 ⊢
  clear hw9
  have hkk9:OwnI 0 tK .u16 w9 kv' (blA p ++ [(k:Int)]):=by unfold OwnI;rw [List.map_append,List.length_append,List.length_singleton];exact r19
  have hmut:Mut A w11 b kv lv _ w9:=hS11.app hk hlast hq1 hq0 q1 q3 (rc9.mono fun j _ ha=>⟨ha.1,ha.2.2⟩) hF9 hb8 hkk9 s19 (hl.le e1.size) (hll.le (by have:=x23.size;omega))
  repeat' (first|(refine oLA ?_;first|refine wBk ?_|(refine oNc ?_;refine a8A rfl rfl ?_)|(refine oF 0 ?_;refine a1A (a':=⟨b,0,none⟩) rfl rfl (fun _=>rfl) ?_)|(refine oF 1 ?_;refine a1A (a':=⟨b,1,none⟩) rfl rfl (fun _=>rfl) ?_)|(refine oLt 27 ?_;refine a5A (c:=kv) rfl (fun _=>rfl) rfl hb8 rfl ?_)|(refine oLt 92 ?_;refine a5A (c:=lv) rfl (fun _=>rfl) rfl hb8 rfl ?_)|refine wOp ?_|(refine wCm ?_ ?_<;>intro hc)|(refine wNl hK ?_;clear hK K))|refine wG ?_|(refine wCR ?_;intro K hK)|refine wPh ?_|fail)
  all_goals skip
  exact bmA rfl (fun w5 e5=>⟨rfl,(hmut.from e11).ext e5⟩) (.inl rfl)
end Go.Proofs.YtbokphkfojijoaaGreatDoor
end
section
set_option linter.unusedSimpArgs false
set_option linter.unusedVariables false
set_option maxRecDepth 3000
namespace Go.Proofs.YtbokphkfojijoaaGreatDoor
open Go.LA Go.ArrP Go.RowKit
variable {A B:Nat → Prop}
theorem b0B:El Tryz.prog 72 71 (.int .u32 0) 1 4:=⟨rfl,rfl,rfl,by decide⟩
theorem rtA (w:World) (v:Value) (n:Nat) (cs:List Value) (h:SlC w v n 1 cs) (h1:∀ u ∈ cs,u.oneCell'=true) (hb:n * 4 ≤ 140737488355328):Fc Tryz.prog 81 #[v] w (Ret w (.pred (j5A w.heap.size 71 1 n cs))):=by
  obtain ⟨h0,a,cap,rfl,hc,hm,hn,hcs⟩:=id h
  have hlen:=h.len
  cases a with
  | none =>
    obtain rfl:=hn rfl
    obtain rfl:n=0:=by omega
    obtain rfl:cs=[]:=List.eq_nil_of_length_eq_zero (by omega)
    refine Fc.of (args:=[_]) Tryz.func81 rfl rfl Tryz.ntmps81 (Nat.le_of_ble_eq_true rfl) ?_
    repeat' (first|(refine oLA ?_;first|refine a0A rfl ?_|refine bpA (c:=.bool true) rfl rfl rfl (fun _=>rfl) ?_|refine wOp ?_|(refine wCm ?_ ?_<;>intro hc)|(refine wNl hK ?_;clear hK K))|refine wG ?_|(refine wCR ?_;intro K hK)|(refine oPX ?_;first|exact akA rfl rfl (Ext.refl _) (fun u w2 e2 hu=>by obtain rfl:u=_:=hu;exact Own.nil))|fail)
  | some a =>
    refine Fc.of (args:=[_]) Tryz.func81 rfl rfl Tryz.ntmps81 (Nat.le_of_ble_eq_true rfl) ?_
    repeat' (first|(refine oLA ?_;first|refine a0A rfl ?_|refine bpA (c:=.bool false) rfl rfl rfl (fun _=>rfl) ?_|refine ivA 71 (s:=1) rfl (fun _=>by kernel_rfl) ?_|(refine a4A (hK _ _ (b8A 5 rfl (fun v5 w5 e5 h5=>?_)));clear hK K;have h6:=h.ext e5;have ho:Own w.heap.size _ _ w5 v5 0 []:=h5;refine aeA (by kernel_rfl) (fun K hK=>?_))|(refine a4A (hK _ _ (cxA rfl (by decide) b0B rfl ho rfl (HasC.val h6) h1 (by rw [Nat.zero_add];unfold maxLen;omega) (by rw [Nat.zero_add];exact hb) e5.size (fun v' w2 w3 he2 ho3 hg3=>?_)));clear hK K;dsimp only [vals];refine aeA (by kernel_rfl) (fun K hK=>?_))|refine wOp ?_|(refine wCm ?_ ?_<;>intro hc)|(refine wNl hK ?_;clear hK K))|refine wG ?_|(refine wCR ?_;intro K hK)|fail)
    exact akA rfl rfl ((e5.trans he2).grown hg3 (fun q hq=>(Own.lt ho q hq).1)) (fun u w4 e4 hu=>by
      obtain rfl:u=_:=hu
      have h9:Own w.heap.size 71 1 w3 u n cs:=by simpa using ho3
      exact h9.ext e4)
theorem RS.beside {w1 wa wb:World} {b:Nat} {kv lv va va':Value} {p:Nat → Bool} {base n:Nat} {cs:List Value} (hS:RS (fun j=>A j ∧ va.ownBlock ≠ some j) w1 b kv lv p) (hn:∀ k,va.ownBlock=some k → ¬ onw b kv lv k) (hva:Own base tK 1 w1 va n cs) (e:Ext w1 wa) (hf:Fr (fun k=>va.ownBlock=some k) wa wb) (hl:LocR wa va va') :
    RS (fun j=>A j ∧ va'.ownBlock ≠ some j) wb b kv lv p ∧ ∀ k,va'.ownBlock=some k → ¬ onw b kv lv k:=by
  have hSa:=hS.ext e
  have h1:RS (fun j=>(A j ∧ va.ownBlock ≠ some j) ∧ va'.ownBlock ≠ some j) wa b kv lv p:=hSa.mono fun k hk ha _=>⟨ha,fun h=>by
    rcases hl with h' | h'
    · exact ha.2 (h' ▸ h)
    · have:=h' k h;omega⟩
  have h2:Plain (fun j=>(A j ∧ va.ownBlock ≠ some j) ∧ va'.ownBlock ≠ some j) (fun k=>va.ownBlock=some k) wa:=fun k hk=>by
    obtain ⟨cur,hc⟩:=atA (hva.ext e) hk
    exact ⟨cur,_,_,hc,by decide,by decide,fun ha=>absurd hk ha.1.2⟩
  refine ⟨(h1.fr hf h2 (fun k hk h=>hn k h hk)).mono fun k _ ha _=>⟨ha.1.1,ha.2⟩,fun k hk ho=>?_⟩
  rcases hl with h' | h'
  · exact hn k (h' ▸ hk) ho
  · have h3:=h' k hk
    have h4:=hSa.lt ho
    omega
theorem RS.off {w:World} {b:Nat} {kv lv v:Value} {p:Nat → Bool} {base e s n:Nat} {cs:List Value} (hS:RS A w b kv lv p) (ho:Own base e s w v n cs) (he:e ≠ tS ∧ e ≠ tK ∧ e ≠ tC) (k:Nat) (hk:v.ownBlock=some k):¬ onw b kv lv k:=by
  obtain ⟨Q,h1,h2,h3⟩:=hS.hl
  rintro (rfl | h | h)
  · exact Own.apart ho hS.hb he.1 hk
  · obtain ⟨cur,hc⟩:=atA hS.hk h
    exact Own.apart ho hc he.2.1 hk
  · obtain ⟨cur,hc⟩:=atA h2 h
    exact Own.apart ho hc he.2.2 hk
theorem w3A {q:Nat → Bool} (hq:∀ i,65536 ≤ i → q i=false):c7A (ahA q 65536)=q:=by
  funext i
  by_cases h:i < 65536
  · exact ckA q h
  · rw [hq i (by omega)]
    unfold c7A
    exact decide_eq_false fun hm=>by
      obtain ⟨j,h1,_,h3⟩:=(c9A _ _ _).1 hm
      omega
set_option maxHeartbeats 1000000 in
theorem of_s {w:World} {v:Value} {ys:List Int} (h:SlI .u32 w v ys) (hu0:∀ x ∈ ys,0 ≤ x ∧ x < 4294967296) (hn:ys.length ≤ 1000000000) (hT:Tab w) (hB:Fsh B w) (hA:Fsh A w):Fc Tryz.prog 41 #[v] w (Ret w (.pred (rsP B A (c7A ys)))):=by
  have hcl:∀ w',Ext w w' → Fc Tryz.prog 81 #[v] w' (Ret w' (.pred (bfA w'.heap.size 71 .u32 ys))):=fun w' e=>rtA w' v ys.length (ys.map (Value.int .u32)) (h.ext e) (fun u hu=>by obtain ⟨z,_,rfl⟩:=List.mem_map.1 hu;rfl) (by omega)
  obtain ⟨xs,hxs⟩:∃ xs,xs=ys.mergeSort (fun x y=>decide (x ≤ y)):=⟨_,rfl⟩
  have hs:=qlA ys
  have hmm:=xnA ys
  have hxl:xs.length=ys.length:=by rw [hxs,List.length_mergeSort]
  have hu:∀ x ∈ xs,0 ≤ x ∧ x < 4294967296:=fun x hx=>hu0 x (by rw [hxs,List.mem_mergeSort] at hx;exact hx)
  rw [← hxs] at hs hmm
  rw [← hmm]
  refine Fc.of (args:=[_]) Tryz.func41 rfl rfl Tryz.ntmps41 (Nat.le_of_ble_eq_true rfl) ?_
  repeat' (first|(refine oLA ?_;first|refine a0A rfl ?_|(refine oD 9 ?_;refine a4A (hK _ _ (b8A 0 rfl (fun v8 w8 e8 h8=>?_)));clear hK K;replace h8:OwnI w.heap.size 71 .u32 w8 v8 ys:=h8;refine aeA (by kernel_rfl) (fun K hK=>cmA rfl rfl ?_))|(refine oD 10 ?_;refine a4A (hK _ _ (c3A rfl (by decide) rfl rfl (fun v w'=>v=.tuple #[] ∧ Ext w w' ∧ OwnI w.heap.size 71 .u32 w' v8 xs) (fun w1 e1=>(Srt.sort32_c (e8.trans e1) (h8.ext e1) (by omega)).mono (fun en w' h=>⟨_,h.1,rfl,h.2.1,hxs ▸ h.2.2⟩)) (fun v w20 hm=>?_)));clear hK K;obtain ⟨rfl,x20,h20⟩:=hm)|(refine oD 12 ?_;refine a4A (hK _ _ (b8A 3 rfl (fun v3 w3 e3 h3=>?_)));clear hK K;obtain ⟨b,hbb,rfl,h3⟩:=h3;replace h20:=h20.ext e3;refine aeA (by kernel_rfl) (fun K hK=>cmA rfl rfl ?_))|(refine dkA ?_;refine azA rfl _ rfl rfl (HasI.ownV h20).c ?_)|refine wOp ?_|(refine wCm ?_ ?_<;>intro hc)|(refine oCv ?_;first|(refine oC 81 ?_;refine a2A (f:=81) rfl rfl rfl  (.pred (bfA w.heap.size 71 .u32 ys)) (by intro u1 w e hu1;(try obtain rfl:u1=_:=hu1);exact (hcl _ e).mono (aaA e.size)) ?_)|(refine oC 40 ?_;refine c4A (f:=40) rfl rfl  (.pred (vyA w.heap.size #[nilS,nilS] tS)) (by intro w e;exact (acB _).mono (nnA (Nat.le_trans x20.size e.size))) ?_))|(refine wNl hK ?_;clear hK K))|refine wG ?_|(refine wCR ?_;intro K hK)|fail)
  all_goals skip
  have hon0:∀ k,onw b nilS nilS k → w.heap.size ≤ k:=fun k hk=>by
    rcases hk with rfl | hk | hk
    · exact hbb
    · cases hk
    · cases hk
  refine adA (ι:=Nat × Value) (fun i=>[(0,.val v8),(3,.val (.pointer (some ⟨b,0,none⟩))),(4,.val i.2),(12,.val v8),(13,.val (.int .i64 xs.length)),(14,.val (.int .i64 i.1))]) (fun i w'=>i.1 ≤ xs.length ∧ Ext w w' ∧ OwnI w.heap.size 71 .u32 w' v8 xs ∧ OwnI w.heap.size tK .u16 w' i.2 (ofA xs i.1) ∧ ∃ kv lv,RS (fun j=>A j ∧ i.2.ownBlock ≠ some j) w' b kv lv (ofS xs i.1) ∧ (∀ k,onw b kv lv k → w.heap.size ≤ k) ∧ ∀ k,i.2.ownBlock=some k → ¬ onw b kv lv k) (fun i=>xs.length - i.1)
    (fun w2 e2=>⟨(0,nilS),⟨Nat.zero_le _,x20.trans (e3.trans e2),h20.ext e2,OwnI.nil,nilS,nilS,RS.new (e2.block h3),hon0,fun k hk=>by cases hk⟩,(by repeat' (first | exact Sub.nil | refine Sub.val rfl (by first | with_reducible rfl | (congr 1;omega)) ?_ | refine Sub.same rfl ?_))⟩) ?_
  rintro ⟨i,va⟩ w1 ⟨hi,hx1,hv1,hva,kv,lv,hS,hon,hnv⟩
  dsimp only at hi hva hS hnv ⊢
  have hT1:=hT.ext hx1
  have hal:(ofA xs i).length ≤ 65536:=by
    unfold ofA
    split
    · exact Nat.zero_le _
    · rw [b7A];exact cnt_le _ _
  by_cases hil:i < xs.length
  · obtain ⟨c,hc⟩:∃ c:Nat,xs.getD i 0=(c:Int):=⟨(xs.getD i 0).toNat,by have:=j6A hu hil;omega⟩
    have hcb:c < 4294967296:=by have:=j6A hu hil;omega
    have hnew:=a8B hs hu hil
    have hK2:ofK xs (i + 1)=c / 65536:=by unfold ofK;rw [Nat.add_sub_cancel,hc,Int.toNat_natCast]
    have ec:IntKind.u16.wrap (c:Int)=((c % 65536:Nat):Int):=by rw [IntKind.wrap_u16];omega
    rw [hc,Int.toNat_natCast] at hnew
    by_cases hi0:i=0
    · rw [if_neg (by omega),if_neg (by omega)] at hnew
      replace hnew:=hnew (.inl hi0)
      have hA0:ofA xs i=[]:=by rw [hi0];rfl
      have hS0:ofS xs i=fun _=>false:=by rw [hi0];rfl
      have hm0:c7A (xs.take i)=fun _=>false:=by funext x;rw [hi0,List.take_zero];unfold c7A;exact decide_eq_false (fun h=>by cases h)
      rw [hm0] at hnew
      rw [hA0] at hva;rw [hS0] at hS
      repeat' (first|(refine oLA ?_;first|refine a0A rfl ?_|(refine oD 31 ?_;refine azA (n:=0) rfl _ rfl rfl (HasI.ownV hva).c ?_)|(refine oD 32 ?_;refine h2A rfl rfl rfl rfl (by decide) ?_)|(refine oD 17 ?_;refine acA rfl _ rfl (fun _=>rfl) rfl (HasI.ownV hv1) rfl hil ?_;rw [hc])|(refine oD 56 ?_;refine foA rfl rfl rfl rfl ?_;rw [ec])|(refine oD 57 ?_;refine d6A rfl czA rfl rfl ?_)|(refine oD 58 ?_;refine a4A (hK _ _ (btA (n:=0) (cs:=[]) rfl (by decide) czA rfl hva rfl HasC.own (by intro u hu;rw [List.mem_singleton] at hu;subst hu;rfl) (by unfold maxLen;omega) (by omega) (fun v' wa wb' e' ho' hf hl=>?_)));clear hK K;refine aeA (by kernel_rfl) (fun K hK=>?_))|refine wOp ?_|(refine wCm ?_ ?_<;>intro hc)|(refine wNl hK ?_;clear hK K))|refine wG ?_|(refine wCR ?_;intro K hK)|fail)
      all_goals skip
      have x4:=hx1.trans e'
      have ho2:OwnI w.heap.size tK .u16 wb' v' (ofA xs (i + 1)):=by
        rw [hnew.1];unfold OwnI;rw [List.map_append,List.length_append,List.length_singleton]
        exact Own.rebase ho' (hl.ge (fun k hk=>(Own.lt hva k hk).1) x4.size)
      obtain ⟨hS9,hn9⟩:=RS.beside hS hnv hva e' hf hl
      have hv9:=hf.own (hv1.ext e') (fun k h1 h2=>by
        obtain ⟨cur,hcur⟩:=atA (hv1.ext e') h1
        exact Own.apart (hva.ext e') hcur (by decide) h2)
      have x9:=Fr.ext x4 hf (fun k hk=>(Own.lt hva k hk).1)
      exact a6A (i + 1,v') (fun w5 e5=>⟨hil,x9.trans e5,Own.ext hv9 e5,ho2.ext e5,kv,lv,by dsimp only;rw [hnew.2];exact hS9.ext e5,hon,hn9⟩) (by dsimp only;omega) (by repeat' (first | exact Sub.nil | refine Sub.val rfl (by first | with_reducible rfl | (congr 1;omega)) ?_ | refine Sub.same rfl ?_))
    · obtain ⟨a,ha⟩:∃ a:Nat,xs.getD (i - 1) 0=(a:Int):=⟨(xs.getD (i - 1) 0).toNat,by have:=j6A hu (i:=i - 1) (by omega);omega⟩
      have hab:a < 4294967296:=by have:=j6A hu (i:=i - 1) (by omega);omega
      have hK1:ofK xs i=a / 65536:=by unfold ofK;rw [ha,Int.toNat_natCast]
      have hpos:=qhA hu (Nat.pos_of_ne_zero hi0) hi
      obtain ⟨K,hKd⟩:∃ K,K=ofK xs i:=⟨_,rfl⟩
      have hKlt:=w0A hu (Nat.pos_of_ne_zero hi0) hi
      have hfull:upd (ofS xs i) (ofK xs i) (c7A (ofA xs i))=c7A (xs.take i):=by
        have h1:c7A (ofA xs i)=blk (c7A (xs.take i)) (ofK xs i):=by
          unfold ofA;rw [if_neg hi0];exact w3A (fun j hj=>ehA (by omega))
        rw [h1];exact qgA hs hu (Nat.pos_of_ne_zero hi0) hi
      have hlast:∀ j,ofK xs i ≤ j → ne (ofS xs i) j=false:=fun j hj=>by unfold ofS;rw [if_neg hi0];exact ocA _ hj
      have hAinc:Inc (ofA xs i):=by unfold ofA;rw [if_neg hi0];exact bvA _ _
      have hAlow:Low (ofA xs i):=by unfold ofA;rw [if_neg hi0];exact d1A _
      have hFva:Fsh (fun j=>A j ∧ va.ownBlock ≠ some j) w1:=fun j hj=>⟨hA j (Nat.le_trans hx1.size hj),fun h=>by have:=(Own.lt hva j h).2;omega⟩
      have eK:(a:Int) / 65536=(K:Int):=by rw [hKd,hK1];omega
      rw [← hKd] at hKlt hfull hlast
      by_cases hac:a=c
      · have hsame:=j7A (Nat.pos_of_ne_zero hi0) hil (by rw [ha,hc,hac])
        have hKK:ofK xs (i + 1)=ofK xs i:=by rw [hK1,hK2,hac]
        have hA':ofA xs (i + 1)=ofA xs i:=by unfold ofA;rw [if_neg hi0,if_neg (Nat.succ_ne_zero i),hsame,hKK]
        have hS':ofS xs (i + 1)=ofS xs i:=by unfold ofS;rw [if_neg hi0,if_neg (Nat.succ_ne_zero i),hsame,hKK]
        repeat' (first|(refine oLA ?_;first|refine a0A rfl ?_|(refine oD 17 ?_;refine acA rfl _ rfl (fun _=>rfl) rfl (HasI.ownV hv1) rfl hil ?_;rw [hc])|(refine oD 24 ?_;refine afA rfl rfl rfl (by dsimp only [fits];omega) ?_;rw [show ((i:Int) - 1)=((i - 1:Nat):Int) by omega])|(refine oD 25 ?_;refine acA rfl _ rfl (fun _=>rfl) rfl (HasI.ownV hv1) rfl (by omega) ?_;rw [ha])|(refine oD 36 ?_;refine afA rfl rfl rfl (by dsimp only [fits];omega) ?_;rw [show ((i:Int) - 1)=((i - 1:Nat):Int) by omega])|(refine oD 37 ?_;refine acA rfl _ rfl (fun _=>rfl) rfl (HasI.ownV hv1) rfl (by omega) ?_;rw [ha])|(refine oD 47 ?_;refine afA rfl rfl rfl (by dsimp only [fits];omega) ?_;rw [show ((i:Int) - 1)=((i - 1:Nat):Int) by omega])|(refine oD 48 ?_;refine acA rfl _ rfl (fun _=>rfl) rfl (HasI.ownV hv1) rfl (by omega) ?_;rw [ha])|(refine oB .shr ?_;refine flA rfl rfl rfl (by decide) (by decide) ?_;rw [show (2:Int) ^ Int.toNat 16=65536 by decide])|(refine oD 56 ?_;refine foA rfl rfl rfl rfl ?_;rw [ec])|(refine oD 57 ?_;refine d6A rfl czA rfl rfl ?_)|refine wOp ?_|(refine wCm ?_ ?_<;>intro hc)|(refine wNl hK ?_;clear hK K))|refine wG ?_|(refine wCR ?_;intro K hK)|fail)
        all_goals skip
        exact a6A (i + 1,va) (fun w5 e5=>⟨hil,hx1.trans e5,hv1.ext e5,by dsimp only;rw [hA'];exact hva.ext e5,kv,lv,by dsimp only;rw [hS'];exact hS.ext e5,hon,hnv⟩) (by dsimp only;omega) (by repeat' (first | exact Sub.nil | refine Sub.val rfl (by first | with_reducible rfl | (congr 1;omega)) ?_ | refine Sub.same rfl ?_))
      · replace hnew:=hnew (.inr (by rw [ha];exact fun h=>hac (by omega)))
        by_cases hKK:ofK xs i=ofK xs (i + 1)
        · rw [if_pos ⟨Nat.pos_of_ne_zero hi0,hKK⟩,if_pos ⟨Nat.pos_of_ne_zero hi0,hKK⟩] at hnew
          have hk12:a / 65536=c / 65536:=by rw [← hK1,hKK,hK2]
          repeat' (first|(refine oLA ?_;first|refine a0A rfl ?_|(refine oD 31 ?_;refine azA rfl _ rfl rfl (HasI.ownV hva).c ?_)|(refine oD 17 ?_;refine acA rfl _ rfl (fun _=>rfl) rfl (HasI.ownV hv1) rfl hil ?_;rw [hc])|(refine oD 24 ?_;refine afA rfl rfl rfl (by dsimp only [fits];omega) ?_;rw [show ((i:Int) - 1)=((i - 1:Nat):Int) by omega])|(refine oD 25 ?_;refine acA rfl _ rfl (fun _=>rfl) rfl (HasI.ownV hv1) rfl (by omega) ?_;rw [ha])|(refine oD 36 ?_;refine afA rfl rfl rfl (by dsimp only [fits];omega) ?_;rw [show ((i:Int) - 1)=((i - 1:Nat):Int) by omega])|(refine oD 37 ?_;refine acA rfl _ rfl (fun _=>rfl) rfl (HasI.ownV hv1) rfl (by omega) ?_;rw [ha])|(refine oD 47 ?_;refine afA rfl rfl rfl (by dsimp only [fits];omega) ?_;rw [show ((i:Int) - 1)=((i - 1:Nat):Int) by omega])|(refine oD 48 ?_;refine acA rfl _ rfl (fun _=>rfl) rfl (HasI.ownV hv1) rfl (by omega) ?_;rw [ha])|(refine oB .shr ?_;refine flA rfl rfl rfl (by decide) (by decide) ?_;rw [show (2:Int) ^ Int.toNat 16=65536 by decide])|(refine oD 56 ?_;refine foA rfl rfl rfl rfl ?_;rw [ec])|(refine oD 57 ?_;refine d6A rfl czA rfl rfl ?_)|(refine oD 58 ?_;refine a4A (hK _ _ (btA (n:=(ofA xs i).length) (cs:=(ofA xs i).map (Value.int .u16)) rfl (by decide) czA rfl hva rfl HasC.own (by intro u hu;rw [List.mem_singleton] at hu;subst hu;rfl) (by unfold maxLen;omega) (by omega) (fun v' wa wb' e' ho' hf hl=>?_)));clear hK K;refine aeA (by kernel_rfl) (fun K hK=>?_))|refine wOp ?_|(refine wCm ?_ ?_<;>intro hc)|(refine wNl hK ?_;clear hK K))|refine wG ?_|(refine wCR ?_;intro K hK)|fail)
          all_goals skip
          have x4:=hx1.trans e'
          have ho2:OwnI w.heap.size tK .u16 wb' v' (ofA xs (i + 1)):=by
            rw [hnew.1];unfold OwnI;rw [List.map_append,List.length_append,List.length_singleton]
            exact Own.rebase ho' (hl.ge (fun k hk=>(Own.lt hva k hk).1) x4.size)
          obtain ⟨hS9,hn9⟩:=RS.beside hS hnv hva e' hf hl
          have hv9:=hf.own (hv1.ext e') (fun k h1 h2=>by
            obtain ⟨cur,hcur⟩:=atA (hv1.ext e') h1
            exact Own.apart (hva.ext e') hcur (by decide) h2)
          have x9:=Fr.ext x4 hf (fun k hk=>(Own.lt hva k hk).1)
          exact a6A (i + 1,v') (fun w5 e5=>⟨hil,x9.trans e5,Own.ext hv9 e5,ho2.ext e5,kv,lv,by dsimp only;rw [hnew.2];exact hS9.ext e5,hon,hn9⟩) (by dsimp only;omega) (by repeat' (first | exact Sub.nil | refine Sub.val rfl (by first | with_reducible rfl | (congr 1;omega)) ?_ | refine Sub.same rfl ?_))
        · rw [if_neg (fun h=>hKK h.2),if_neg (fun h=>hKK h.2)] at hnew
          have hk12:a / 65536 ≠ c / 65536:=by rw [← hK1,← hK2];exact hKK
          repeat' (first|(refine oLA ?_;first|refine a0A rfl ?_|(refine oD 31 ?_;refine azA rfl _ rfl rfl (HasI.ownV hva).c ?_)|(refine oD 17 ?_;refine acA rfl _ rfl (fun _=>rfl) rfl (HasI.ownV hv1) rfl hil ?_;rw [hc])|(refine oD 24 ?_;refine afA rfl rfl rfl (by dsimp only [fits];omega) ?_;rw [show ((i:Int) - 1)=((i - 1:Nat):Int) by omega])|(refine oD 25 ?_;refine acA rfl _ rfl (fun _=>rfl) rfl (HasI.ownV hv1) rfl (by omega) ?_;rw [ha])|(refine oD 36 ?_;refine afA rfl rfl rfl (by dsimp only [fits];omega) ?_;rw [show ((i:Int) - 1)=((i - 1:Nat):Int) by omega])|(refine oD 37 ?_;refine acA rfl _ rfl (fun _=>rfl) rfl (HasI.ownV hv1) rfl (by omega) ?_;rw [ha])|(refine oD 47 ?_;refine afA rfl rfl rfl (by dsimp only [fits];omega) ?_;rw [show ((i:Int) - 1)=((i - 1:Nat):Int) by omega])|(refine oD 48 ?_;refine acA rfl _ rfl (fun _=>rfl) rfl (HasI.ownV hv1) rfl (by omega) ?_;rw [ha])|(refine oB .shr ?_;refine flA rfl rfl rfl (by decide) (by decide) ?_;rw [show (2:Int) ^ Int.toNat 16=65536 by decide])|(refine oD 56 ?_;refine foA rfl rfl rfl rfl ?_;rw [ec])|(refine oD 57 ?_;refine d6A rfl czA rfl rfl ?_)|refine wOp ?_|(refine wCm ?_ ?_<;>intro hc)|(refine wNl hK ?_;clear hK K))|refine wG ?_|(refine wCR ?_;intro K hK)|fail)
          all_goals skip
          refine a4A (hK _ _ (d9A rfl (by decide) rfl rfl rfl rfl (fun v w'=>v=.tuple #[] ∧ ∃ wz,Ext w1 wz ∧ Mut (fun j=>A j ∧ va.ownBlock ≠ some j) wz b kv lv (c7A (xs.take i)) w') (fun w8 e8=>?_) (fun v w2 hm=>?_)))
          · rw [eK]
            exact (vxA (hx1.trans e8) hT hon (hS.ext e8) (hFva.ext e8) hKlt hlast (hva.ext e8).slI hAinc hAlow hpos).mono (fun en w' h=>⟨_,h.1,rfl,_,e8,hfull ▸ h.2⟩)
          clear hK K
          obtain ⟨rfl,wz,ez,kv9,lv9,m1,m2,m3,m4⟩:=hm
          have x2:=Fr.ext (hx1.trans ez) m2 hon
          have hon9:=k4A hon (hx1.trans ez).size m3 m4
          have hv2:OwnI w.heap.size 71 .u32 w2 v8 xs:=m2.own (hv1.ext ez) (RS.off (hS.ext ez) (hv1.ext ez) ⟨by decide,by decide,by decide⟩)
          have hS2:RS (fun j=>A j ∧ nilS.ownBlock ≠ some j) w2 b kv9 lv9 (c7A (xs.take i)):=m1.mono fun j _ ha _=>⟨ha.1,fun h=>by cases h⟩
          repeat' (first|(refine oLA ?_;first|refine a0A rfl ?_|(refine oD 56 ?_;refine foA rfl rfl rfl rfl ?_;rw [ec])|(refine oD 57 ?_;refine d6A rfl czA rfl rfl ?_)|(refine oD 58 ?_;refine a4A (hK _ _ (btA (n:=0) (cs:=[]) rfl (by decide) czA rfl (Own.nil (base:=w.heap.size) (e:=tK) (s:=1)) rfl HasC.own (by intro u hu;rw [List.mem_singleton] at hu;subst hu;rfl) (by unfold maxLen;omega) (by omega) (fun v' wa wb' e' ho' hf hl=>?_)));clear hK K;refine aeA (by kernel_rfl) (fun K hK=>?_))|refine wOp ?_|(refine wCm ?_ ?_<;>intro hc)|(refine wNl hK ?_;clear hK K))|refine wG ?_|(refine wCR ?_;intro K hK)|fail)
          all_goals skip
          have hvn:OwnI w.heap.size tK .u16 w2 nilS []:=OwnI.nil
          have x4:=x2.trans e'
          have ho2:OwnI w.heap.size tK .u16 wb' v' (ofA xs (i + 1)):=by
            rw [hnew.1];unfold OwnI;rw [List.map_append,List.length_append,List.length_singleton]
            exact Own.rebase ho' (hl.ge (fun k hk=>(Own.lt hvn k hk).1) x4.size)
          obtain ⟨hS9,hn9⟩:=RS.beside hS2 (fun k h=>by cases h) hvn e' hf hl
          have hv9:=hf.own (hv2.ext e') (fun k h1 h2=>by
            obtain ⟨cur,hcur⟩:=atA (hv2.ext e') h1
            exact Own.apart (hvn.ext e') hcur (by decide) h2)
          have x9:=Fr.ext x4 hf (fun k hk=>(Own.lt hvn k hk).1)
          exact a6A (i + 1,v') (fun w5 e5=>⟨hil,x9.trans e5,Own.ext hv9 e5,ho2.ext e5,kv9,lv9,by dsimp only;rw [hnew.2];exact hS9.ext e5,hon9,hn9⟩) (by dsimp only;omega) (by repeat' (first | exact Sub.nil | refine Sub.val rfl (by first | with_reducible rfl | (congr 1;omega)) ?_ | refine Sub.same rfl ?_))
  · have hie:i=xs.length:=by omega
    have hmx:c7A (xs.take i)=c7A xs:=by rw [hie,List.take_length]
    by_cases hi0:i=0
    · have hA0:ofA xs i=[]:=by rw [hi0];rfl
      have hS0:ofS xs i=c7A xs:=by
        rw [← hmx,hi0,List.take_zero]
        funext x;exact (decide_eq_false (fun h=>by cases h):c7A [] x=false).symm
      rw [hA0] at hva;rw [hS0] at hS
      repeat' (first|(refine oLA ?_;first|refine a0A rfl ?_|(refine oD 61 ?_;refine azA (n:=0) rfl _ rfl rfl (HasI.ownV hva).c ?_)|(refine oD 62 ?_;refine h2A rfl rfl rfl rfl (by decide) ?_)|refine wOp ?_|(refine wCm ?_ ?_<;>intro hc)|(refine wNl hK ?_;clear hK K))|refine wG ?_|(refine wCR ?_;intro K hK)|fail)
      all_goals skip
      exact akA rfl rfl hx1 (fun u w5 e5 hu=>by obtain rfl:u=_:=hu;exact ⟨b,kv,lv,rfl,(hS.ext e5).mono fun j _ ha _=>ha.1,fun k hk=>hB k (hon k hk)⟩)
    · obtain ⟨a,ha⟩:∃ a:Nat,xs.getD (i - 1) 0=(a:Int):=⟨(xs.getD (i - 1) 0).toNat,by have:=j6A hu (i:=i - 1) (by omega);omega⟩
      have hab:a < 4294967296:=by have:=j6A hu (i:=i - 1) (by omega);omega
      have hK1:ofK xs i=a / 65536:=by unfold ofK;rw [ha,Int.toNat_natCast]
      have hpos:=qhA hu (Nat.pos_of_ne_zero hi0) hi
      obtain ⟨K,hKd⟩:∃ K,K=ofK xs i:=⟨_,rfl⟩
      have hKlt:=w0A hu (Nat.pos_of_ne_zero hi0) hi
      have hfull:upd (ofS xs i) (ofK xs i) (c7A (ofA xs i))=c7A (xs.take i):=by
        have h1:c7A (ofA xs i)=blk (c7A (xs.take i)) (ofK xs i):=by
          unfold ofA;rw [if_neg hi0];exact w3A (fun j hj=>ehA (by omega))
        rw [h1];exact qgA hs hu (Nat.pos_of_ne_zero hi0) hi
      have hlast:∀ j,ofK xs i ≤ j → ne (ofS xs i) j=false:=fun j hj=>by unfold ofS;rw [if_neg hi0];exact ocA _ hj
      have hAinc:Inc (ofA xs i):=by unfold ofA;rw [if_neg hi0];exact bvA _ _
      have hAlow:Low (ofA xs i):=by unfold ofA;rw [if_neg hi0];exact d1A _
      have hFva:Fsh (fun j=>A j ∧ va.ownBlock ≠ some j) w1:=fun j hj=>⟨hA j (Nat.le_trans hx1.size hj),fun h=>by have:=(Own.lt hva j h).2;omega⟩
      have eK:(a:Int) / 65536=(K:Int):=by rw [hKd,hK1];omega
      rw [← hKd] at hKlt hfull hlast
      rw [hmx] at hfull
      rw [hie] at ha
      repeat' (first|(refine oLA ?_;first|refine a0A rfl ?_|(refine oD 61 ?_;refine azA rfl _ rfl rfl (HasI.ownV hva).c ?_)|(refine dkA ?_;refine azA rfl _ rfl rfl (HasI.ownV hv1).c ?_)|(refine oD 67 ?_;refine afA rfl rfl rfl (by dsimp only [fits];omega) ?_;rw [show ((xs.length:Int) - 1)=((xs.length - 1:Nat):Int) by omega])|(refine oD 68 ?_;refine acA rfl _ rfl (fun _=>rfl) rfl (HasI.ownV hv1) rfl (by omega) ?_;rw [ha])|(refine oB .shr ?_;refine flA rfl rfl rfl (by decide) (by decide) ?_;rw [show (2:Int) ^ Int.toNat 16=65536 by decide])|refine wOp ?_|(refine wCm ?_ ?_<;>intro hc)|(refine wNl hK ?_;clear hK K))|refine wG ?_|(refine wCR ?_;intro K hK)|fail)
      all_goals skip
      refine a4A (hK _ _ (d9A rfl (by decide) rfl rfl rfl rfl (fun v w'=>v=.tuple #[] ∧ ∃ wz,Ext w1 wz ∧ Mut (fun j=>A j ∧ va.ownBlock ≠ some j) wz b kv lv (c7A xs) w') (fun w8 e8=>?_) (fun v w2 hm=>?_)))
      · rw [eK]
        exact (vxA (hx1.trans e8) hT hon (hS.ext e8) (hFva.ext e8) hKlt hlast (hva.ext e8).slI hAinc hAlow hpos).mono (fun en w' h=>⟨_,h.1,rfl,_,e8,hfull ▸ h.2⟩)
      clear hK K
      obtain ⟨rfl,wz,ez,kv9,lv9,m1,m2,m3,m4⟩:=hm
      have x2:=Fr.ext (hx1.trans ez) m2 hon
      have hon9:=k4A hon (hx1.trans ez).size m3 m4
      repeat' (first|(refine oLA ?_;first|refine a0A rfl ?_|refine wOp ?_|(refine wCm ?_ ?_<;>intro hc)|(refine wNl hK ?_;clear hK K))|refine wG ?_|(refine wCR ?_;intro K hK)|fail)
      all_goals skip
      exact akA rfl rfl x2 (fun u w5 e5 hu=>by obtain rfl:u=_:=hu;exact ⟨b,kv9,lv9,rfl,(m1.ext e5).mono fun j _ ha _=>ha.1,fun k hk=>hB k (hon9 k hk)⟩)
end Go.Proofs.YtbokphkfojijoaaGreatDoor
end
