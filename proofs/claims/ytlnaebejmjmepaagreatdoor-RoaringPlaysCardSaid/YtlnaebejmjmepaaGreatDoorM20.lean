import Derived.Test.YtlnaebejmjmepaaGreatDoorM16
import Derived.Test.YtlnaebejmjmepaaGreatDoorM17
import Derived.Test.YtlnaebejmjmepaaGreatDoorM19
set_option linter.unusedSimpArgs false
set_option linter.unusedVariables false
set_option maxRecDepth 3000
set_option maxHeartbeats 16000000
section
namespace Go.Proofs.YtlnaebejmjmepaaGreatDoor
open Go.LA Go.ArrP Go.RowKit
variable {A B:Nat→Prop}
theorem getD_drop {xs:List Int} {k i:Nat}:(xs.drop k).getD i 0=xs.getD (k+i) 0:=by
 rw [List.getD_eq_getElem?_getD,List.getD_eq_getElem?_getD,List.getElem?_drop]
theorem mmA {xs:List Int} {k:Nat} (h:k<xs.length):xs.take (k+1)=xs.take k++[xs.getD k 0]:=by
 rw [List.getD_eq_getElem?_getD,List.getElem?_eq_getElem h,List.take_add_one,List.getElem?_eq_getElem h];rfl
structure MidD (xs ys:List Int) (k j:Nat):Prop where
 len:ys.length=xs.length
 lo:0<k
 le:k<j
 hi:j≤xs.length
 pre:ys.take k=ddN xs j
 rest:∀ i,j≤i+1→ys.getD i 0=xs.getD i 0
theorem MidD.skip {xs ys:List Int} {k j:Nat} (h:MidD xs ys k j) (hj:j<xs.length) (he:xs.getD j 0=xs.getD (j-1) 0):MidD xs ys k (j+1) :=
 ⟨h.len,h.lo,by have:=h.le;omega,hj,by rw [mnA (by have:=h.le;omega) he];exact h.pre,λ i hi=>h.rest i oZ⟩
theorem MidD.put {xs ys:List Int} {k j:Nat} (h:MidD xs ys k j) (hj:j<xs.length) (he:xs.getD j 0≠xs.getD (j-1) 0):MidD xs (ys.set k (xs.getD j 0)) (k+1) (j+1):=by
 have h1:=h.le;have h2:=h.len;refine ⟨by rw [List.length_set];exact h.len,by omega,by omega,hj,?_,λ i hi=>?_⟩
 ·rw [moA he,← h.pre,mmA (by rw [List.length_set];omega),List.take_set_of_le (Nat.le_refl _)]
  congr 2;rw [List.getD_eq_getElem?_getD,List.getElem?_set_self oZ];rfl
 ·rw [List.getD_eq_getElem?_getD,List.getElem?_set_ne oZ,← List.getD_eq_getElem?_getD]
  exact h.rest i oZ
theorem rnA {w0 w:World} {v:Value} {xs:List Int} (he0:Ext w0 w) (ho0:OwnI w0.heap.size tK .u16 w v xs) (hx:xs.length≤1000000) :
 Fc Tryz.prog 98 #[v] w (λ en w'=>∃ v',en=.returned v'∧Ext w0 w'∧OwnI w0.heap.size tK .u16 w' v' (ddN xs xs.length)):=by
 by_cases hlt:xs.length<2
 ·have hd:ddN xs xs.length=xs:=by
   rcases xs with _|⟨a,_|⟨b,r⟩⟩
   ·rfl
   ·rfl
   ·simp at hlt;omega
  rw [hd];refine Fc.of (args:=[_]) Tryz.func98 rfl rfl Tryz.ntmps98 nZ ?_
  repeat' (first|(refine yL ?_;first|refine a0A rfl ?_|(refine c7A ?_;refine asA rfl _ rfl rfl (HasI.ownV ho0).c ?_)|refine yO ?_|(refine yC ?_ ?_<;>intro hc)|(refine yN hK ?_;clear hK K))|refine wG ?_|(refine yR ?_;intro K hK)|fail)
  exact c6A rfl (λ u w5 e5 hu=>by obtain rfl:u=_:=hu;exact ⟨_,rfl,he0.trans e5,ho0.ext e5⟩)
 ·obtain ⟨b,cap,cur,rfl,hb,hg,hnc,hm,hsz,ht⟩:=ho0.row oZ
  refine Fc.of (args:=[_]) Tryz.func98 rfl rfl Tryz.ntmps98 nZ ?_
  repeat' (first|(refine yL ?_;first|refine a0A rfl ?_|(refine c7A ?_;refine asA rfl _ rfl rfl (HasI.ownV ho0).c ?_)|refine yO ?_|(refine yC ?_ ?_<;>intro hc)|(refine yN hK ?_;clear hK K))|refine wG ?_|(refine yR ?_;intro K hK)|fail)
  refine b5A (ι:=Nat) (λ k=>[(0,.val (.slice (some ⟨b,0,none⟩) xs.length cap)),(3,.val (.int .i64 k))]) (λ k=>1≤k∧k≤xs.length∧ddN xs k=xs.take k) (λ k=>xs.length-k) 1 ⟨Nat.le_refl _,by omega,by rw [rlA,mmA oZ];rfl⟩ sZ ?_
  rintro k ⟨hk1,hk2,hkd⟩
  by_cases hkl:k<xs.length
  ·by_cases heq:xs.getD k 0=xs.getD (k-1) 0
   ·skip
    repeat' (first|(refine yL ?_;first|refine a0A rfl ?_|(refine c7A ?_;refine asA rfl _ rfl rfl (HasI.ownV ho0).c ?_)|(refine oD 18 ?_;refine ahA rfl _ rfl (λ _=>rfl) rfl (HasI.ownV ho0) rfl hkl ?_)|(refine oD 22 ?_;refine abA rfl rfl rfl fZ ?_;rw [show ((k:Int)-1)=((k-1:Nat):Int) by omega])|(refine oD 23 ?_;refine ahA rfl _ rfl (λ _=>rfl) rfl (HasI.ownV ho0) rfl oZ ?_;rw [← heq])|(refine oD 28 ?_;refine cvA rfl _ rfl rfl (HasC.ownV ho0) rfl oZ oZ (by exact λ _=>rfl) ?_;rw [Int.toNat_natCast,f1A (show k<cap by omega)])|refine yO ?_|(refine yC ?_ ?_<;>intro hc)|(refine yN hK ?_;clear hK K))|refine wG ?_|(refine yR ?_;intro K hK)|fail)
    have hm0:MidD xs xs k (k+1):=⟨rfl,hk1,Nat.lt_succ_self k,hkl,by rw [mnA hk1 heq];exact hkd.symm,λ _ _=>rfl⟩
    refine agA (ι:=Nat × Nat × List Int) (λ i=>[(0,.val (.slice (some ⟨b,0,none⟩) xs.length cap)),(3,.val (.int .i64 i.1)),(4,.val (.slice (some ⟨b,k*1,none⟩) (xs.length-k) (cap-k))),(5,.val (.int .i64 i.2.1))]) (λ i w'=>Ext w0 w'∧1≤i.2.1∧MidD xs i.2.2 i.1 (k+i.2.1)∧OwnI w0.heap.size tK .u16 w' (.slice (some ⟨b,0,none⟩) xs.length cap) i.2.2) (λ i=>xs.length-i.2.1)
     (λ w2 e2=>⟨(k,1,xs),⟨he0.trans e2,Nat.le_refl _,hm0,ho0.ext e2⟩,sZ⟩) ?_
    rintro ⟨k',k2,ys⟩ w1 ⟨he,h1,hM,ho⟩;dsimp only at h1 hM ho ⊢;have hyl:=hM.len;have hle:=hM.le;have hhi:=hM.hi;have hs4:SlI .u16 w1 (.slice (some ⟨b,k*1,none⟩) (xs.length-k) (cap-k)) (ys.drop k):=by
     have:=SlI.drop ho.slI (l:=k) oZ;rwa [f1A (show k<cap by omega),hyl] at this
    have hdl:(ys.drop k).length=xs.length-k:=by rw [List.length_drop,hyl]
    by_cases h2:k2<xs.length-k
    ·have g1:(ys.drop k).getD k2 0=xs.getD (k+k2) 0:=by rw [getD_drop];exact hM.rest _ oZ
     have g2:(ys.drop k).getD (k2-1) 0=xs.getD (k+k2-1) 0:=by
      rw [getD_drop,show k+(k2-1)=k+k2-1 by omega];exact hM.rest _ oZ
     by_cases he2:xs.getD (k+k2) 0=xs.getD (k+k2-1) 0
     ·skip
      repeat' (first|(refine yL ?_;first|refine a0A rfl ?_|(refine c7A ?_;refine asA rfl _ rfl rfl (HasI.val hs4).c ?_;rw [hdl])|(refine oD 37 ?_;refine ahA rfl _ rfl (λ _=>rfl) rfl (HasI.val hs4) rfl oZ ?_;rw [g1])|(refine oD 41 ?_;refine abA rfl rfl rfl fZ ?_;rw [show ((k2:Int)-1)=((k2-1:Nat):Int) by omega])|(refine oD 42 ?_;refine ahA rfl _ rfl (λ _=>rfl) rfl (HasI.val hs4) rfl oZ ?_;rw [g2,← he2])|refine yO ?_|(refine yC ?_ ?_<;>intro hc)|(refine yN hK ?_;clear hK K))|refine wG ?_|(refine yR ?_;intro K hK)|fail)
      exact a6A (k',k2+1,ys) (λ w5 e5=>⟨he.trans e5,by dsimp only;omega,hM.skip oZ he2,ho.ext e5⟩) eZ sZ
     ·obtain ⟨b',cap',cur',hv',hb',hg',hnc',hm',hsz',ht'⟩:=ho.row oZ
      injection hv' with h5 h6 h7
      injection h5 with h5
      injection h5 with h5
      subst h5;subst h7;have hlk:k'<ys.length:=oZ
      repeat' (first|(refine yL ?_;first|refine a0A rfl ?_|(refine c7A ?_;refine asA rfl _ rfl rfl (HasI.val hs4).c ?_;rw [hdl])|(refine oD 37 ?_;refine ahA rfl _ rfl (λ _=>rfl) rfl (HasI.val hs4) rfl oZ ?_;rw [g1])|(refine oD 41 ?_;refine abA rfl rfl rfl fZ ?_;rw [show ((k2:Int)-1)=((k2-1:Nat):Int) by omega])|(refine oD 42 ?_;refine ahA rfl _ rfl (λ _=>rfl) rfl (HasI.val hs4) rfl oZ ?_;rw [g2])|(refine oD 44 ?_;refine mxA rfl rfl rfl rfl he2 ?_)|(refine oD 49 ?_;refine ahA rfl _ rfl (λ _=>rfl) rfl (HasI.val hs4) rfl oZ ?_;rw [g1])|(refine oD 51 ?_;refine d2A (s:=1) rfl rfl (λ _=>rfl) rfl rfl oZ oZ ?_;rw [Int.toNat_natCast,Nat.zero_add,Nat.mul_one])|(refine oSt ?_;refine a4A (hK _ _ (d1A rfl rfl rfl hg' (λ _=>rfl) oZ rfl rfl (λ w7 e7=>?_)));clear hK K)|refine yO ?_|(refine yC ?_ ?_<;>intro hc)|(refine yN hK ?_;clear hK K))|refine wG ?_|(refine yR ?_;intro K hK)|fail)
      have hset:=OwnI.set hb' (e7.block hg') hnc' hm' hsz' ht' k' hlk (xs.getD (k+k2) 0);rw [hyl] at hset;have x7:=(he.trans e7).setRow hb' (cur'.setIfInBounds k' (.int .u16 (xs.getD (k+k2) 0)));exact a6A (k'+1,k2+1,ys.set k' (xs.getD (k+k2) 0)) (λ w5 e5=>⟨x7.trans e5,by dsimp only;omega,hM.put oZ he2,hset.ext e5⟩) eZ sZ
    ·obtain ⟨b',cap',cur',hv',hb',hg',hnc',hm',hsz',ht'⟩:=ho.row oZ
     injection hv' with h5 h6 h7
     injection h5 with h5
     injection h5 with h5
     subst h5;subst h7;have hkc:k'<cap:=oZ
     repeat' (first|(refine yL ?_;first|refine a0A rfl ?_|(refine c7A ?_;refine asA rfl _ rfl rfl (HasI.val hs4).c ?_;rw [hdl])|(refine oD 56 ?_;refine cvA (s:=1) rfl _ rfl rfl (HasC.ownV ho) rfl oZ oZ (by exact λ _=>rfl) ?_;rw [Int.toNat_natCast,hyl,f1A hkc])|(refine a4A (hK _ _ (ohA rfl rfl (λ _=>rfl) rfl rfl rfl hg' oZ (λ w7 cur2 e7 hs2 ht2=>?_)));clear hK K)|(refine oD 59 ?_;refine fvA (s:=1) rfl _ rfl rfl rfl oZ oZ oZ (λ _=>rfl) ?_;rw [Int.toNat_natCast])|refine yO ?_|(refine yC ?_ ?_<;>intro hc)|(refine yN hK ?_;clear hK K))|refine wG ?_|(refine yR ?_;intro K hK)|fail)
     have hown:OwnI w0.heap.size tK .u16 (w7.setRow b cur2) (.slice (some ⟨b,0,none⟩) k' cap) (ys.take k'):=by
      have hl:(ys.take k').length=k':=by rw [List.length_take];omega
      refine ⟨by rw [List.length_map,hl,Nat.mul_one],.inr ⟨b,cap,cur2,by rw [hl],hb',setRow_heap w7 b cur' _ tK _ (e7.block hg'),by rw [hl];omega,hm',by rw [hs2];omega,?_⟩⟩;rw [hl,Nat.mul_one,List.map_take,← ht',List.take_take,Nat.min_eq_left oZ];rwa [Nat.mul_one] at ht2
     rw [hM.pre,show k+k2=xs.length by omega] at hown;exact c6A rfl (λ u w5 e5 hu=>by obtain rfl:u=_:=hu;exact ⟨_,rfl,((he.trans e7).setRow hb' cur2).trans e5,hown.ext e5⟩)
   ·skip
    repeat' (first|(refine yL ?_;first|refine a0A rfl ?_|(refine c7A ?_;refine asA rfl _ rfl rfl (HasI.ownV ho0).c ?_)|(refine oD 18 ?_;refine ahA rfl _ rfl (λ _=>rfl) rfl (HasI.ownV ho0) rfl hkl ?_)|(refine oD 22 ?_;refine abA rfl rfl rfl fZ ?_;rw [show ((k:Int)-1)=((k-1:Nat):Int) by omega])|(refine oD 23 ?_;refine ahA rfl _ rfl (λ _=>rfl) rfl (HasI.ownV ho0) rfl oZ ?_)|(refine oD 25 ?_;refine f8A rfl rfl rfl rfl heq ?_)|refine yO ?_|(refine yC ?_ ?_<;>intro hc)|(refine yN hK ?_;clear hK K))|refine wG ?_|(refine yR ?_;intro K hK)|fail)
    exact bpA (k+1) ⟨by omega,hkl,by rw [moA heq,hkd,mmA hkl]⟩ oZ sZ
  ·obtain rfl:k=xs.length:=oZ
   repeat' (first|(refine yL ?_;first|refine a0A rfl ?_|(refine c7A ?_;refine asA rfl _ rfl rfl (HasI.ownV ho0).c ?_)|refine yO ?_|(refine yC ?_ ?_<;>intro hc)|(refine yN hK ?_;clear hK K))|refine wG ?_|(refine yR ?_;intro K hK)|fail)
   exact c6A rfl (λ u w5 e5 hu=>by obtain rfl:u=_:=hu;exact ⟨_,rfl,he0.trans e5,by rw [hkd,List.take_length];exact ho0.ext e5⟩)
end Go.Proofs.YtlnaebejmjmepaaGreatDoor
end
section
namespace Go.Proofs.YtlnaebejmjmepaaGreatDoor
open Go.LA Go.ArrP Go.RowKit
variable {A B:Nat→Prop}
def RowCn (base:Nat) (A:Nat→Prop) (p:Nat→Bool) (kk:Int) (v:Value) (w:World):Prop:=∃ qc:Qd,Own base tC 4 w v 1 (qcs qc)∧Cn A w (qv qc) p kk∧∀ u ∈ qcs qc,u.oneCell'=true
def xjA (base:Nat) (A:Nat→Prop) (p:Nat→Bool) (kk:Int):AV:=⟨λ v w=>RowCn base A p kk v w,λ _ _ _ e ⟨qc,h1,h2,h3⟩=>⟨qc,h1.ext e,h2.ext e,h3⟩⟩
section
variable {P:Program} {l:List Oper} {N:Nn} {wb:World} {K:List Oper→Env→Prop} {rest:List Oper} {E:Env} {Q:Exit→Act→World→Prop}
variable {d:Tmp} {ty t:TypeId} {pos:String} {after:Array Edge} {g:Option (Nat × Bool)} {x y z:Operand}
theorem eoA {z0:Value} {b base:Nat} {r:AD} {p:Nat→Bool} {kk:Int} (hbase:base≤wb.heap.size) (hg:bmA l E g=some true) (hel:El P t tC z0 4 b) (hx:opE E x=r) (hr:∀ v w,Ext wb w→r.ok v w→Cn A w v p kk) (h:LA P l wb K rest ((d,.pred (xjA base A p kk))::E)) :
 LA P l wb K (⟨some d,.buildSlice t 1 #[(0,x)],ty,pos,after,g⟩::rest) E:=by
 refine bhA (.pred (xjA base A p kk)) hg (λ a w he hh=>?_) h;have h1:=hh x (by simp [Op.operands]);rw [hx] at h1;have hcn:=hr _ _ he h1;obtain ⟨qc,hqc,h1c⟩:=hcn.qd;have hc:(a.eval x).cells=(qcs qc).toArray:=by rw [hqc];rfl
 have hcz:(a.eval x).cells.size=4:=by rw [hc];rfl
 have hrun:(Instr.buildSlice t 1 #[(0,a.eval x)]).run P w=.ok (.slice (some ⟨w.heap.size,0,none⟩) 1 1) (w.alloc (.cells (a.eval x).cells tC)):=by
  have hf:=isA (c:=a.eval x) (z:=z0.cells) (s:=4) hcz;simp only [Instr.buildSlice,Sem.run_bind,run_underlying hel.ht,Result.andThen_ok,hel.sizeOf,Nat.one_mul,gt_iff_lt,show ¬ (2 ^ 24<4) by omega,if_false,show ¬ (4=0) by omega,Sem.run_pure,hel.zero];simp only [Nat.one_mul] at hf;rw [hf];rfl
 simp only [execOp,List.map_toArray,List.map_cons,List.map_nil,Sem.run_bind,hrun,Result.andThen_ok,Sem.run_pure];have x1:Ext w (w.alloc (.cells (a.eval x).cells tC)):=Ext.alloc _ _;refine ⟨x1,qc,⟨by simp [qcs],.inr ⟨w.heap.size,1,(a.eval x).cells,rfl,Nat.le_trans hbase he.size,heap_alloc_new w _,Nat.le_refl _,by decide,by rw [hcz],?_⟩⟩,(hqc▸hcn).ext x1,h1c⟩;rw [hc];rfl
end
theorem RowCn.fr {base:Nat} {A R:Nat→Prop} {p:Nat→Bool} {kk:Int} {v:Value} {w w':World} (h:RowCn base A p kk v w) (hf:Fr R w w') (hR:Plain A R w) (hb:∀ k,base≤k→¬ R k):RowCn base A p kk v w':=by
 obtain ⟨qc,h1,h2,h3⟩:=h;exact ⟨qc,hf.own h1 (λ k hk=>hb k (Own.lt h1 k hk).1),h2.fr hf hR,h3⟩
theorem RS.app {w w':World} {b:Nat} {kv lv kv' lv':Value} {p:Nat→Bool} (hS:RS A w b kv lv p) {k:Nat} (hk:k<65536) (hlast:∀ j,k≤j→ne p j=false) {q:Nat→Bool} (hq:∀ i,65536≤i→q i=false) (hq0:0<cnt q 65536) {Q:List Qd} {qc:Qd} (q1:Q.length=nk p)
 (q3:∀ i,i<nk p→Cn (λ k=>A k∧kv.ownBlock≠some k) w (qv (Q.getD i q0)) (blk p (kp p i)) (aoA (blk p (kp p i)))) (hc:Cn (λ j=>A j∧kv'.ownBlock≠some j) w' (qv qc) q (aoA q))
 (hf:Fr (onw b kv lv) w w') (hb:w'.heap[b]?=some (.cells #[kv',lv'] tS (0,0))) (hkk:OwnI 0 tK .u16 w' kv' (b9A p++[(k:Int)])) (hl:Own 0 tC 4 w' lv' (nk p+1) (bbA Q++qcs qc)) (hk1:LocR w kv kv') (hl1:LocR w lv lv'):Mut A w b kv lv (upd p k q) w':=by
 have hn:=hlast k (Nat.le_refl _);have hcn:cnt (ne p) k=nk p:=(g0A 65536 (Nat.le_of_lt hk) (λ x h1 _=>hlast x h1)).symm;have hkeys:=i2A p hk hq hq0 hn;have hkl:=brA p;have hnk:=plA p hk hq hq0 hn;rw [hcn,List.take_of_length_le oZ,List.drop_of_length_le oZ,List.append_nil] at hkeys;have hcells:bbA (Q++[qc])=bbA Q++qcs qc:=by rw [dhA];rfl
 refine ⟨kv',lv',⟨hb,by rw [hkeys];exact hkk,m4A hS.top hk,Q++[qc],by rw [List.length_append,List.length_singleton,q1,hnk],by rw [hnk,hcells];exact hl,λ i hi=>?_⟩,hf,hk1,hl1⟩;rw [hnk] at hi;rw [w6A p hk hq hq0 hn hi,hcn];have hne:∀ j,j<nk p→kp p j≠k:=λ j hj h=>by
  have:=(gnA hj).2.1;rw [h,hn] at this;cases this
 split
 ·rename_i h1
  rw [giA p q (hne i h1),ewA oZ];refine Cn.fr ((q3 i h1).mono (A':=λ k=>A k∧kv'.ownBlock≠some k∧kv.ownBlock≠some k) λ j hlt ha=>⟨ha.1,λ h=>?_,ha.2⟩) hf (hS.plainA λ k h1 h2=>h2.2.2 h1) |>.mono λ k _ h=>⟨h.1,h.2.1⟩
  rcases hk1 with h' | h'
  ·exact ha.2 (h'▸h)
  ·have:=h' j h;omega
 ·have hi':i=nk p:=oZ
  rw [if_pos hi',jsA p k hq,dmA oZ,show i-Q.length=0 by omega];exact hc
theorem Cn.loc {w w1 w':World} {kv kv' v:Value} {p:Nat→Bool} {kk:Int} (hl:LocR w1 kv kv') (hs:w.heap.size≤w1.heap.size) (h:Cn (λ j=>A j∧kv.ownBlock≠some j∧j<w.heap.size) w' v p kk):Cn (λ j=>A j∧kv'.ownBlock≠some j) w' v p kk :=
 h.mono λ j _ ha=>⟨ha.1,λ h=>by
  rcases hl with h' | h'
  ·exact ha.2.1 (h'▸h)
  ·have h9:=h' j h
   have h10:=ha.2.2;omega⟩
theorem Cn.loc3 {w w1 w':World} {kv kv' v:Value} {p:Nat→Bool} {kk:Int} (hl:LocR w1 kv kv') (hs:w.heap.size≤w1.heap.size) (h:Cn (λ j=>A j∧kv.ownBlock≠some j∧j<w.heap.size) w' v p kk):Cn (λ j=>A j∧kv.ownBlock≠some j∧kv'.ownBlock≠some j) w' v p kk :=
 h.mono λ j _ ha=>⟨ha.1,ha.2.1,λ h=>by
  rcases hl with h' | h'
  ·exact ha.2.1 (h'▸h)
  ·have h9:=h' j h
   have h10:=ha.2.2;omega⟩
end Go.Proofs.YtlnaebejmjmepaaGreatDoor
end
section
namespace Go.Proofs.YtlnaebejmjmepaaGreatDoor
open Go.LA Go.ArrP Go.RowKit
variable {A B:Nat→Prop}
theorem baB (w:World):Fc Tryz.prog 17 #[] w (Ret w (.pred (weA w.heap.size #[nilS,nilS] tS))):=by
 refine Fc.of (args:=[]) Tryz.func17 rfl rfl Tryz.ntmps17 nZ ?_
 repeat' (first|(refine yL ?_;first|refine a0A rfl ?_|refine ejA (c:=.agg #[nilS,nilS]) rfl (λ _=>by kernel_rfl) ?_|refine j3A rfl rfl ?_|refine yO ?_|(refine yC ?_ ?_<;>intro hc)|(refine yN hK ?_;clear hK K))|refine wG ?_|(refine yR ?_;intro K hK)|fail)
 exact ajA rfl rfl (Ext.refl _) (λ v w' e hv=>hv)
theorem neA {w:World} {base base':Nat} {cs:Array Value} {e:TypeId} (hb:base'≤base) (en:Ending) (w':World) (h:Ret w (.pred (weA base cs e)) en w'):Ret w (.pred (weA base' cs e)) en w':=by
 obtain ⟨v,h1,h2,b,h3,h4⟩:=h;exact ⟨v,h1,h2,b,Nat.le_trans hb h3,h4⟩
theorem qkA {w:World} {v:Value} {p:Nat→Bool} (h:NSet B A w v p):NSet B (λ k=>A k∧k<w.heap.size) w v p:=h.imp id (λ h=>h.mono (λ _ _ h=>h) (λ k hk ha=>⟨ha,hk⟩))
theorem el_ss:El Tryz.prog 23 22 (.slice none 0 0) 1 24:=⟨rfl,rfl,rfl,by decide⟩
theorem nzA {w:World} {va vb fv:Value} {p q:Nat→Bool} {F:Bool→Bool→Bool} {B1 B2:Nat→Prop} (ha:NSet B1 A w va p) (hb:NSet B2 A w vb q) (hF:F false false=false)
 (hfv:∀ w' A' u v' kp kq p' q',Ext w w'→Cn A' w' u p' kp→Cn A' w' v' q' kq→Fsh A' w'→Clb Tryz.prog fv [u,v'] w' (Ret w' (.pred (cnP A' (two F p' q') (aoA (two F p' q'))))))
 (hT:Tab w) (hB:Fsh B w) (hA:Fsh A w):Fc Tryz.prog 70 #[va,vb,fv] w (Ret w (.pred (rsP B A (two F p q)))):=by
 have hk1:∀ w',Ext w w'→_:=λ w' e=>ikA (ha.ext e)
 have hk2:∀ w',Ext w w'→_:=λ w' e=>ikA (hb.ext e)
 have hl1:=brA p;have hl2:=brA q;have hn1:=fcA p;have hn2:=fcA q;have hdd:=z5A p q;obtain ⟨xs,hxs⟩:∃ xs,xs=(b9A p++b9A q).mergeSort (λ x y=>decide (x≤y)):=⟨_,rfl⟩;have hxl:xs.length≤131072:=by rw [hxs,List.length_mergeSort,List.length_append];omega
 obtain ⟨e,he⟩:∃ e,e=λ k=>ne p k || ne q k:=⟨_,rfl⟩
 obtain ⟨U,hU⟩:∃ U,U=adA e 65536:=⟨_,rfl⟩;rw [← he,← hU,← hxs] at hdd;have hUl:U.length=cnt e 65536:=by rw [hU,baA]
 have hUle:cnt e 65536≤65536:=cnt_le _ _;refine Fc.of (args:=[_,_,_]) Tryz.func70 rfl rfl Tryz.ntmps70 nZ ?_
 repeat' (first|(refine yL ?_;first|refine a0A rfl ?_|(refine oD 13 ?_;refine a4A (hK _ _ (bkA 7 rfl (λ v7 w7 e7 h7=>?_)));clear hK K;obtain ⟨b,hbb,rfl,h7⟩:=h7;refine aiA kZ (λ K hK=>ddA rfl rfl ?_))|(refine oD 14 ?_;refine oC 14 ?_;refine a2A (f:=14) rfl rfl rfl  (.pred (bnA w.heap.size tK .u16 (b9A p))) (by intro u1 w e hu1;(try obtain rfl:u1=_:=hu1);exact (hk1 _ (e7.trans e)).mono (aaA (e7.trans e).size)) ?_)|(refine oD 16 ?_;refine oC 14 ?_;refine a2A (f:=14) rfl rfl rfl  (.pred (bnA w.heap.size tK .u16 (b9A q))) (by intro u1 w e hu1;(try obtain rfl:u1=_:=hu1);exact (hk2 _ (e7.trans e)).mono (aaA (e7.trans e).size)) ?_)|refine yO ?_|(refine yC ?_ ?_<;>intro hc)|(refine yV ?_;first|(refine oC 17 ?_;refine cjA (f:=17) rfl rfl  (.pred (weA w.heap.size #[nilS,nilS] tS)) (by intro w e;exact (baB _).mono (neA e.size)) ?_))|(refine yN hK ?_;clear hK K))|refine wG ?_|(refine yR ?_;intro K hK)|fail)
 refine a4A (hK _ _ (bkA 16 rfl (λ v16 w16 e16 h16=>bkA 14 rfl (λ v14 w14 e14 h14=>?_))));clear hK K;replace h16:OwnI w.heap.size tK .u16 w14 v16 (b9A q):=OwnI.ext h16 e14;replace h14:OwnI w.heap.size tK .u16 w14 v14 (b9A p):=h14;have x14:=e7.trans (e16.trans e14);replace h7:=(e16.trans e14).block h7;have hcc:∀ w',Ext w14 w'→∀ u,Own w14.heap.size 22 1 w' u 2 [v14,v16]→_:=λ w' x u hu=>v3A (Own.slC hu) (h14.ext x).slI (h16.ext x).slI oZ oZ
 refine aiA kZ (λ K hK=>oiA rfl el_ss rfl rfl (OwnI.cells h14) (OwnI.cells h16) ?_)
 repeat' (first|(refine yL ?_;first|refine a0A rfl ?_|(refine oD 19 ?_;refine a4A (hK _ _ (bkA 8 rfl (λ v8 w8 e8 h8=>?_)));clear hK K;replace h8:OwnI w14.heap.size tK .u16 w8 v8 (b9A p++b9A q):=h8;refine aiA kZ (λ K hK=>ddA rfl rfl ?_))|(refine oD 20 ?_;refine a4A (hK _ _ (grA rfl dZ rfl rfl (λ v w'=>v=.tuple #[]∧Ext w14 w'∧OwnI w14.heap.size tK .u16 w' v8 xs) (λ w1 e1=>(Srt.sort16_c (e8.trans e1) (h8.ext e1) (by rw [List.length_append];omega)).mono (λ en w' h=>⟨_,h.1,rfl,h.2.1,hxs▸h.2.2⟩)) (λ v w20 hm=>?_)));clear hK K;obtain ⟨rfl,x20,h20⟩:=hm)|(refine oD 22 ?_;refine a4A (hK _ _ (grA rfl dZ rfl rfl (λ v w'=>Ext w14 w'∧OwnI w14.heap.size tK .u16 w' v U) (λ w1 e1=>(rnA (x20.trans e1) (h20.ext e1) oZ).mono (λ en w' h=>by obtain ⟨v',h1,h2,h3⟩:=h;exact ⟨v',h1,h2,hdd▸h3⟩)) (λ v22 w22 hm=>?_)));clear hK K;obtain ⟨x22,h22⟩:=hm;refine aiA kZ (λ K hK=>?_))|(refine c7A ?_;refine asA rfl _ rfl rfl (HasI.ownV h22).c ?_)|refine yO ?_|(refine yC ?_ ?_<;>intro hc)|(refine yV ?_;first|(refine oC 96 ?_;refine a2A (f:=96) rfl rfl rfl  (.pred (bnA w14.heap.size tK .u16 (b9A p++b9A q))) (by intro u1 w e hu1;(try obtain rfl:u1=_:=hu1);exact (hcc _ e _ hu1).mono (aaA e.size)) ?_))|(refine yN hK ?_;clear hK K))|refine wG ?_|(refine yR ?_;intro K hK)|fail)
 clear hdd hcc hk1 hk2 h20 h8 hxs;replace h7:=x22.block h7;have lt22:∀ k,v22.ownBlock=some k→k<w22.heap.size:=λ k hk=>(Own.lt h22 k hk).2
 have nb22:v22.ownBlock≠some b:=Own.apart h22 h7 dZ;have x022:Ext w w22:=x14.trans x22;obtain ⟨R,hR⟩:∃ R,R=two F p q:=⟨_,rfl⟩;have hRe:∀ k,e k=false→ne R k=false:=λ k hk=>by rw [hR];exact agB hF (by rw [he] at hk;exact hk)
 have hRtop:∀ x,TOP≤x→R x=false:=λ x hx=>by rw [hR];unfold two;rw [hrA ha x hx,hrA hb x hx,hF]
 have hRb:∀ k,blk R k=two F (blk p k) (blk q k):=λ k=>by rw [hR];exact zfA hF p q k
 rw [← hR]
 refine agA (ι:=Nat) (λ i=>[(0,.val va),(1,.val vb),(2,.val fv),(7,.val (.pointer (some ⟨b,0,none⟩))),(22,.val v22),(23,.val (.int .i64 U.length)),(24,.val (.int .i64 i))]) (λ i w'=>i≤U.length∧Ext w w'∧w22.heap.size≤w'.heap.size∧OwnI w.heap.size tK .u16 w' v22 U∧∃ kv lv,RS A w' b kv lv (hwA R (kq e i))∧∀ k,onw b kv lv k→k=b∨w22.heap.size≤k) (λ i=>U.length-i)
  (λ w2 e2=>⟨0,⟨Nat.zero_le _,x022.trans e2,e2.size,Own.base (h22.ext e2) x14.size,nilS,nilS,by rw [v2A (λ j hj=>hRe j (ubA hj))];exact RS.new (e2.block h7),λ k hk=>by
   rcases hk with rfl|hk|hk
   ·exact .inl rfl
   ·cases hk
   ·cases hk⟩,sZ⟩) ?_
 rintro i w1 ⟨hi,hx1,hs1,hu1,kv,lv,hS,hon⟩;have honw:∀ k,onw b kv lv k→w.heap.size≤k:=λ k hk=>by
  rcases hon k hk with rfl|h
  ·exact hbb
  ·exact Nat.le_trans x022.size h
 by_cases hil:i<U.length
 ·obtain ⟨k1,k2,k3,k4⟩:=ucA (e:=e) (i:=i) oZ
  rw [← hU] at k4;have hst:=v0A hRe (i:=i) oZ;obtain ⟨k,hk⟩:∃ k,k=kq e i:=⟨_,rfl⟩;rw [← hk] at k1 k2 k4 hst hS;have hA1:Fsh A w1:=hA.ext hx1;have hF1:=hS.fsh hA1;have g1:∀ w',Ext w1 w'→_:=λ w' x=>reA ((qkA ha).ext (hx1.trans x)) k1
  have g2:∀ w',Ext w1 w'→_:=λ w' x=>reA ((qkA hb).ext (hx1.trans x)) k1
  have hmn:∀ w' v' p' kk,Cn (λ k=>A k∧k<w.heap.size) w' v' p' kk→Cn (λ k=>A k∧kv.ownBlock≠some k) w' v' p' kk:=λ w' v' p' kk h=>h.mono λ j _ hj=>⟨hj.1,λ hkv=>by
   have:=honw j (.inr (.inl hkv));omega⟩
  have hof:∀ w',Ext w1 w'→∀ u v',Cn (λ k=>A k∧k<w.heap.size) w' u (blk p k) (aoA (blk p k))→Cn (λ k=>A k∧k<w.heap.size) w' v' (blk q k) (aoA (blk q k))→Clb Tryz.prog fv [u,v'] w' (Ret w' (.pred (cnP (λ k=>A k∧kv.ownBlock≠some k) (blk R k) (aoA (blk R k))))) :=
   λ w' x u v' h1 h2=>by rw [hRb];exact hfv w' _ u v' _ _ _ _ (hx1.trans x) (hmn _ _ _ _ h1) (hmn _ _ _ _ h2) (hF1.ext x)
  have hlen:∀ w' u,Cn (λ k=>A k∧kv.ownBlock≠some k) w' u (blk R k) (aoA (blk R k))→_:=λ w' u h=>hkA h
  have hne:ne R k=true↔0<cnt (blk R k) 65536:=ne_cnt;obtain ⟨c,hc⟩:∃ c,c=cnt (blk R k) 65536:=⟨_,rfl⟩;have hcl:=cnt_le (blk R k) 65536;rw [← hc] at hlen hne hcl
  by_cases hc0:c=0
  ·have hnf:ne R k=false:=by
    cases h:ne R k
    ·rfl
    ·have:=hne.1 h;omega
   rw [v1A hnf] at hst;clear hc hne
   repeat' (first|(refine yL ?_;first|refine a0A rfl ?_|(refine oD 26 ?_;refine ahA rfl _ rfl (λ _=>rfl) rfl (HasI.ownV hu1) rfl hil ?_;rw [k4])|(refine oD 31 ?_;refine oC 64 ?_;refine a3A (f:=64) rfl rfl rfl rfl  (.pred (cnP (λ k=>A k∧k<w.heap.size) (blk p k) (aoA (blk p k)))) (by intro u1 u2 w e hu1 hu2;(try obtain rfl:u1=_:=hu1);(try obtain rfl:u2=_:=hu2);exact g1 _ e) ?_)|(refine oD 34 ?_;refine oC 64 ?_;refine a3A (f:=64) rfl rfl rfl rfl  (.pred (cnP (λ k=>A k∧k<w.heap.size) (blk q k) (aoA (blk q k)))) (by intro u1 u2 w e hu1 hu2;(try obtain rfl:u1=_:=hu1);(try obtain rfl:u2=_:=hu2);exact g2 _ e) ?_)|(refine oD 11 ?_;refine a4A (hK _ _ (egA (q:=35) (φ:=cnP (λ k=>A k∧kv.ownBlock≠some k) (blk R k) (aoA (blk R k))) (n:=4) rfl rfl dZ rfl rfl auA (λ _=>rfl) rfl (λ _=>rfl) (λ b11 c11 w11 e11 hb11 hh11 hn11 hc11=>?_)));clear hK K)|(refine oD 36 ?_;refine bzA rfl hh11 hn11 rfl (λ _=>rfl) (λ _=>rfl) ?_)|(refine oD 37 ?_;refine oC 47 ?_;refine a2A (f:=47) rfl rfl rfl  (.val (.int .i64 c)) (by intro u1 w e hu1;(try obtain rfl:u1=_:=hu1);exact hlen _ _ (Cn.ext hc11 e)) ?_)|refine yO ?_|(refine yC ?_ ?_<;>intro hc)|(refine yV ?_;first|(refine oD 35 ?_;refine m0A rfl rfl rfl rfl (.pred (cnP (λ k=>A k∧kv.ownBlock≠some k) (blk R k) (aoA (blk R k)))) (by intro vf u1 u2 w' e hf hu1 hu2;obtain rfl:vf=_:=hf;exact hof _ e _ _ hu1 hu2) ?_))|(refine yN hK ?_;clear hK K))|refine wG ?_|(refine yR ?_;intro K hK)|fail)
   exact a6A (i+1) (λ w5 e5=>⟨hil,hx1.trans (e11.trans e5),Nat.le_trans hs1 (e11.trans e5).size,hu1.ext (e11.trans e5),kv,lv,by rw [hst];exact hS.ext (e11.trans e5),hon⟩) oZ sZ
  ·clear hne
   have hq1:∀ i,65536≤i→blk R k i=false:=λ i hi=>dnA oZ
   have hq0:0<cnt (blk R k) 65536:=by rw [← hc];exact Nat.pos_of_ne_zero hc0
   have hlast:∀ j,k≤j→ne (hwA R k) j=false:=λ j hj=>o2A R hj
   have hnkc:=fcA (hwA R k);clear hc
   repeat' (first|(refine yL ?_;first|refine yB ?_|(refine oD 26 ?_;refine ahA rfl _ rfl (λ _=>rfl) rfl (HasI.ownV hu1) rfl hil ?_;rw [k4])|(refine oD 31 ?_;refine oC 64 ?_;refine a3A (f:=64) rfl rfl rfl rfl  (.pred (cnP (λ k=>A k∧k<w.heap.size) (blk p k) (aoA (blk p k)))) (by intro u1 u2 w e hu1 hu2;(try obtain rfl:u1=_:=hu1);(try obtain rfl:u2=_:=hu2);exact g1 _ e) ?_)|(refine oD 34 ?_;refine oC 64 ?_;refine a3A (f:=64) rfl rfl rfl rfl  (.pred (cnP (λ k=>A k∧k<w.heap.size) (blk q k) (aoA (blk q k)))) (by intro u1 u2 w e hu1 hu2;(try obtain rfl:u1=_:=hu1);(try obtain rfl:u2=_:=hu2);exact g2 _ e) ?_)|(refine oD 11 ?_;refine a4A (hK _ _ (egA (q:=35) (φ:=cnP (λ k=>A k∧kv.ownBlock≠some k) (blk R k) (aoA (blk R k))) (n:=4) rfl rfl dZ rfl rfl auA (λ _=>rfl) rfl (λ _=>rfl) (λ b11 c11 w11 e11 hb11 hh11 hn11 hc11=>?_)));clear hK K)|(refine oD 36 ?_;refine bzA rfl hh11 hn11 rfl (λ _=>rfl) (λ _=>rfl) ?_)|(refine oD 37 ?_;refine oC 47 ?_;refine a2A (f:=47) rfl rfl rfl  (.val (.int .i64 c)) (by intro u1 w e hu1;(try obtain rfl:u1=_:=hu1);exact hlen _ _ (Cn.ext hc11 e)) ?_)|(refine oD 39 ?_;refine ddA rfl rfl ?_;have hS11:=hS.ext e11;have hcA:Cn (λ j=>A j∧kv.ownBlock≠some j∧j<w11.heap.size) w11 (.agg c11) (blk R k) (aoA (blk R k)):=Cn.mono hc11 λ j hj ha=>⟨ha.1,ha.2,hj⟩)|(refine oNc ?_;refine afA rfl rfl ?_)|(refine oF 0 ?_;refine a1A (a':=⟨b,0,none⟩) rfl rfl (λ _=>rfl) ?_)|(refine oF 1 ?_;refine a1A (a':=⟨b,1,none⟩) rfl rfl (λ _=>rfl) ?_)|(refine oLt 22 ?_;refine a5A (c:=kv) rfl (λ _=>rfl) rfl hS11.hb rfl ?_)|(refine oLt 26 ?_;refine a5A (c:=lv) rfl (λ _=>rfl) rfl hS11.hb rfl ?_)|(refine oD 46 ?_;refine ehA rfl c8A rfl rfl ?_)|(refine oD 52 ?_;refine bzA rfl hh11 hn11 rfl (λ _=>rfl) (λ _=>rfl) ?_)|(refine oD 53 ?_;refine eoA (base:=w11.heap.size) (Nat.le_refl _) rfl d8A rfl (λ v w e h=>by obtain rfl:v=_:=h;exact hcA.ext e) ?_)|refine yO ?_|(refine yC ?_ ?_<;>intro hc)|(refine yV ?_;first|(refine oD 35 ?_;refine m0A rfl rfl rfl rfl (.pred (cnP (λ k=>A k∧kv.ownBlock≠some k) (blk R k) (aoA (blk R k)))) (by intro vf u1 u2 w' e hf hu1 hu2;obtain rfl:vf=_:=hf;exact hof _ e _ _ hu1 hu2) ?_))|(refine yN hK ?_;clear hK K))|(refine oCX ?_;first|refine aqA (id:=9) [8,15,18,21] kZ kZ kZ (a7A ?_))|refine wG ?_|(refine yR ?_;intro K hK)|refine wPh ?_|fail)
   have hplK:∀ w',Ext w11 w'→Plain (λ j=>A j∧kv.ownBlock≠some j∧j<w11.heap.size) (λ j=>kv.ownBlock=some j) w':=λ w' x j hj=>by
    obtain ⟨cur,hcur⟩:=bxA (hS11.hk.ext x) hj;exact ⟨cur,_,_,hcur,by decide,by decide,λ ha=>absurd hj ha.2.1⟩
   have hplL:∀ (AA:Nat→Prop) w' n cs,Own 0 tC 4 w' lv n cs→Plain AA (λ j=>lv.ownBlock=some j) w':=λ AA w' n cs ho j hj=>by
    obtain ⟨cur,hcur⟩:=bxA ho hj;exact ⟨cur,_,_,hcur,by decide,by decide,λ _=>by decide⟩
   have lkv:∀ k,kv.ownBlock=some k→k<w11.heap.size:=λ k h=>hS11.lt (.inr (.inl h))
   have llv:∀ k,lv.ownBlock=some k→k<w11.heap.size:=λ k h=>hS11.lt (.inr (.inr h))
   have hsn:=slot_ne hS11;obtain ⟨Q,q1,q2,q3⟩:=hS11.hl;have hklen:=brA (hwA R k);have hnkl:=fcA (hwA R k);refine e7A rfl c8A rfl hS11.hk rfl HasC.own (λ u hu=>by rw [List.mem_singleton] at hu;subst hu;rfl) (by unfold maxLen;omega) oZ (λ kv' w1' w2 e1 ho' hf hl=>⟨(53,.pred (xjA w11.heap.size (λ j=>A j∧kv.ownBlock≠some j∧j<w11.heap.size) (blk R k) (aoA (blk R k))))::_,λ t u _ hu=>lmA (λ u hu=>?_) c2A t u hu,a7A ?_⟩)
   ·exact RowCn.fr hu hf (hplK _ e1) (λ j hj h=>by have:=lkv j h;omega)
   have hb2:=hf.at (e1.block hS11.hb) (λ h=>hsn.1 h);have hh2:=hf.at (e1.block hh11) (λ h=>Own.apart hS11.hk hh11 dZ h);have q22:Own 0 tC 4 w2 lv (nk (hwA R k)) (bbA Q):=hf.own (q2.ext e1) (λ k h1 h2=>hsn.2.2 k h2 h1);have hc2:=(hcA.ext e1).fr hf (hplK _ e1);have sz2:=Nat.le_trans e1.size hf.size
   repeat' (first|(refine yL ?_;first|refine yB ?_|(refine oNc ?_;refine afA rfl rfl ?_)|(refine oF 0 ?_;refine a1A (a':=⟨b,0,none⟩) rfl rfl (λ _=>rfl) ?_)|(refine oF 1 ?_;refine a1A (a':=⟨b,1,none⟩) rfl rfl (λ _=>rfl) ?_)|(refine oLt 22 ?_;refine a5A (c:=kv) rfl (λ _=>rfl) rfl hb2 rfl ?_)|(refine oLt 26 ?_;refine a5A (c:=lv) rfl (λ _=>rfl) rfl hb2 rfl ?_)|(refine oLt 32 ?_;refine bzA (n:=4) rfl hh2 hn11 rfl (λ _=>rfl) (λ _=>rfl) ?_)|(refine oD 53 ?_;refine eoA (base:=w11.heap.size) sz2 rfl d8A rfl (λ v w e h=>by obtain rfl:v=_:=h;exact hc2.ext e) ?_)|refine yO ?_|(refine yC ?_ ?_<;>intro hc)|(refine yN hK ?_;clear hK K))|refine wG ?_|(refine yR ?_;intro K hK)|refine wPh ?_|fail)
   refine mtA 53 rfl dZ rfl (λ v53 w3 e3 h53=>?_);obtain ⟨qc,r1,r2,r3⟩:=h53;refine e7A rfl d8A rfl (q22.ext e3) rfl (HasC.ownV r1) r3 (by unfold maxLen;omega) oZ (λ lv' w3' w4 e3' hol hfl hll=>⟨_,λ t u _ hu=>c2A t u hu,a7A ?_⟩);have x23:=e3.trans e3';have hb4:=hfl.at (x23.block hb2) (λ h=>hsn.2.1 h);have r14:=hfl.own (ho'.ext x23) (λ k h1 h2=>by
    obtain ⟨cur,hcur⟩:=bxA (ho'.ext x23) h1;exact Own.apart (q22.ext x23) hcur dZ h2)
   have rc4:=(r2.ext e3').fr hfl (hplL _ _ _ _ (q22.ext x23));obtain ⟨ck1,ck2⟩:=e0A r14;obtain ⟨cl1,cl2⟩:=e0A hol;have hF4:Fr (onw b kv lv) w11 w4:=(((Fr.of e1).trans (hf.mono λ k h=>.inr (.inl h))).trans (Fr.of x23)).trans (hfl.mono λ k h=>.inr (.inr h))
   repeat' (first|(refine yL ?_;first|refine yB ?_|(refine oNc ?_;refine afA rfl rfl ?_)|(refine oF 0 ?_;refine a1A (a':=⟨b,0,none⟩) rfl rfl (λ _=>rfl) ?_)|(refine oF 1 ?_;refine a1A (a':=⟨b,1,none⟩) rfl rfl (λ _=>rfl) ?_)|(refine oLt 22 ?_;refine a5A (c:=kv) rfl (λ _=>rfl) rfl hb4 rfl ?_)|(refine oLt 26 ?_;refine a5A (c:=lv) rfl (λ _=>rfl) rfl hb4 rfl ?_)|refine yO ?_|(refine yC ?_ ?_<;>intro hc)|(refine yN hK ?_;clear hK K))|refine wG ?_|(refine yR ?_;intro K hK)|refine wPh ?_|fail)
   refine dzA (news:=[kv']) rfl rfl rfl hb4 ck1 (λ _=>rfl) nZ (λ u hu=>by rw [List.mem_singleton] at hu;subst hu;exact ck2) (λ w6 e6=>⟨_,λ t u hu=>c2A t u hu,a7A ?_⟩);have hb6:(w6.setRow b #[kv',lv]).heap[b]?=_:=setRow_heap w6 b _ _ _ _ (e6.block hb4);have rc7:=(rc4.ext e6).setRow (e6.block hb4) ⟨by decide,by decide,by decide⟩ #[kv',lv];obtain ⟨w7,hw7⟩:∃ w7,w7=w6.setRow b #[kv',lv]:=⟨_,rfl⟩;have hF7:Fr (onw b kv lv) w11 w7:=hw7▸((hF4.trans (Fr.of e6)).setRow (.inl rfl) _);have r17:Own 0 tK 1 w7 kv' _ _:=hw7▸Own.setRow (r14.ext e6) _ (Own.apart (r14.ext e6) (e6.block hb4) dZ);have s17:Own 0 tC 4 w7 lv' _ _:=hw7▸Own.setRow (hol.ext e6) _ (Own.apart (hol.ext e6) (e6.block hb4) dZ);rw [show (#[kv,lv].toList.take 0++[kv']++#[kv,lv].toList.drop (0+[kv'].length)).toArray=#[kv',lv] from rfl];rw [← hw7] at hb6 rc7 ⊢;clear hw7
   repeat' (first|(refine yL ?_;first|refine yB ?_|(refine oNc ?_;refine afA rfl rfl ?_)|(refine oF 0 ?_;refine a1A (a':=⟨b,0,none⟩) rfl rfl (λ _=>rfl) ?_)|(refine oF 1 ?_;refine a1A (a':=⟨b,1,none⟩) rfl rfl (λ _=>rfl) ?_)|(refine oLt 22 ?_;refine a5A (c:=kv) rfl (λ _=>rfl) rfl hb6 rfl ?_)|(refine oLt 26 ?_;refine a5A (c:=lv) rfl (λ _=>rfl) rfl hb6 rfl ?_)|refine yO ?_|(refine yC ?_ ?_<;>intro hc)|(refine yN hK ?_;clear hK K))|refine wG ?_|(refine yR ?_;intro K hK)|refine wPh ?_|fail)
   refine dzA (news:=[lv']) rfl rfl rfl hb6 cl1 (λ _=>rfl) nZ (λ u hu=>by rw [List.mem_singleton] at hu;subst hu;exact cl2) (λ w8 e8=>⟨_,λ t u hu=>c2A t u hu,apA ?_⟩);have hb8:(w8.setRow b #[kv',lv']).heap[b]?=_:=setRow_heap w8 b _ _ _ _ (e8.block hb6);have rc9:=(rc7.ext e8).setRow (e8.block hb6) ⟨by decide,by decide,by decide⟩ #[kv',lv'];obtain ⟨w9,hw9⟩:∃ w9,w9=w8.setRow b #[kv',lv']:=⟨_,rfl⟩;have hF9:Fr (onw b kv lv) w11 w9:=hw9▸((hF7.trans (Fr.of e8)).setRow (.inl rfl) _);have r19:Own 0 tK 1 w9 kv' _ _:=hw9▸Own.setRow (r17.ext e8) _ (Own.apart (r17.ext e8) (e8.block hb6) dZ);have s19:Own 0 tC 4 w9 lv' _ _:=hw9▸Own.setRow (s17.ext e8) _ (Own.apart (s17.ext e8) (e8.block hb6) dZ);rw [show (#[kv',lv].toList.take 1++[lv']++#[kv',lv].toList.drop (1+[lv'].length)).toArray=#[kv',lv'] from rfl];rw [← hw9] at hb8 rc9 ⊢;clear hw9;have hkk9:OwnI 0 tK .u16 w9 kv' (b9A (hwA R k)++[(k:Int)]):=by unfold OwnI;rw [List.map_append,List.length_append,List.length_singleton];exact r19
   have hmut:Mut A w11 b kv lv _ w9:=hS11.app k1 hlast hq1 hq0 q1 q3 (Cn.loc hl e1.size rc9) hF9 hb8 hkk9 s19 (hl.le e1.size) (hll.le (by have:=x23.size;omega))
   repeat' (first|(refine yL ?_;first|refine yB ?_|(refine oNc ?_;refine afA rfl rfl ?_)|(refine oF 0 ?_;refine a1A (a':=⟨b,0,none⟩) rfl rfl (λ _=>rfl) ?_)|(refine oF 1 ?_;refine a1A (a':=⟨b,1,none⟩) rfl rfl (λ _=>rfl) ?_)|(refine oLt 22 ?_;refine a5A (c:=kv) rfl (λ _=>rfl) rfl hb8 rfl ?_)|(refine oLt 26 ?_;refine a5A (c:=lv) rfl (λ _=>rfl) rfl hb8 rfl ?_)|refine yO ?_|(refine yC ?_ ?_<;>intro hc)|(refine yN hK ?_;clear hK K))|refine wG ?_|(refine yR ?_;intro K hK)|refine wPh ?_|fail)
   obtain ⟨kv9,lv9,m1,m2,m3,m4⟩:=hmut;have hu9:=m2.own (hu1.ext e11) (λ j h1 h2=>by
    rcases hon j h2 with rfl|h3
    ·exact nb22 h1
    ·have:=lt22 j h1;omega)
   have hon9:∀ j,onw b kv9 lv9 j→j=b∨w22.heap.size≤j:=λ j hj=>by
    have hs11:=e11.size
    rcases hj with rfl|hj|hj
    ·exact .inl rfl
    ·rcases m3 with m3|m3
     ·exact hon j (.inr (.inl (m3▸hj)))
     ·have:=m3 j hj;exact .inr oZ
    ·rcases m4 with m4|m4
     ·exact hon j (.inr (.inr (m4▸hj)))
     ·have:=m4 j hj;exact .inr oZ
   have x9:=Fr.ext (hx1.trans e11) m2 honw;have sz9:=Nat.le_trans (Nat.le_trans hs1 e11.size) m2.size;exact a6A (i+1) (λ w5 e5=>⟨hil,x9.trans e5,Nat.le_trans sz9 e5.size,Own.ext hu9 e5,kv9,lv9,by rw [hst];exact m1.ext e5,hon9⟩) oZ sZ
 ·have hie:i=U.length:=oZ
  rw [hie,hUl,wkA (Nat.le_refl _),z7A hRtop] at hS
  repeat' (first|(refine yL ?_;first|refine a0A rfl ?_|refine yO ?_|(refine yC ?_ ?_<;>intro hc)|(refine yN hK ?_;clear hK K))|refine wG ?_|(refine yR ?_;intro K hK)|fail)
  exact ajA rfl rfl hx1 (λ u w5 e5 hu=>by obtain rfl:u=_:=hu;exact ⟨b,kv,lv,rfl,hS.ext e5,λ k hk=>hB k (honw k hk)⟩)
end Go.Proofs.YtlnaebejmjmepaaGreatDoor
end
section
namespace Go.Proofs.YtlnaebejmjmepaaGreatDoor
open Go.LA Go.ArrP Go.RowKit
variable {A B:Nat→Prop}
theorem and_s {w:World} {va vb:Value} {p q:Nat→Bool} {B1 B2:Nat→Prop} (ha:NSet B1 A w va p) (hb:NSet B2 A w vb q) (hT:Tab w) (hB:Fsh B w) (hA:Fsh A w) :
 Fc Tryz.prog 27 #[va,vb] w (Ret w (.pred (rsP B A (two (λ x y=>x && y) p q)))):=by
 refine Fc.of (args:=[_,_]) Tryz.func27 rfl rfl Tryz.ntmps27 nZ ?_
 repeat' (first|(refine yL ?_;first|refine a0A rfl ?_|refine yO ?_|(refine yC ?_ ?_<;>intro hc)|(refine yV ?_;first|(refine oC 70 ?_;refine alA (f:=70) rfl rfl rfl rfl rfl  (.pred (rsP B A (two (λ x y=>x && y) p q))) (by intro u1 u2 u3 w e hu1 hu2 hu3;(try obtain rfl:u1=_:=hu1);(try obtain rfl:u2=_:=hu2);(try obtain rfl:u3=_:=hu3);exact nzA (ha.ext e) (hb.ext e) rfl (λ w' A' u v' kp kq p' q' x h1 h2 hF=>Clb.of (btB h1 h2 ((hT.ext e).ext x) hF)) (hT.ext e) (hB.ext e) (hA.ext e)) ?_))|(refine yN hK ?_;clear hK K))|refine wG ?_|(refine yR ?_;intro K hK)|fail)
 exact ajA rfl rfl (Ext.refl _) (λ _ _ _ hv=>hv)
theorem or_s {w:World} {va vb:Value} {p q:Nat→Bool} {B1 B2:Nat→Prop} (ha:NSet B1 A w va p) (hb:NSet B2 A w vb q) (hT:Tab w) (hB:Fsh B w) (hA:Fsh A w) :
 Fc Tryz.prog 28 #[va,vb] w (Ret w (.pred (rsP B A (two (λ x y=>x || y) p q)))):=by
 refine Fc.of (args:=[_,_]) Tryz.func28 rfl rfl Tryz.ntmps28 nZ ?_
 repeat' (first|(refine yL ?_;first|refine a0A rfl ?_|refine yO ?_|(refine yC ?_ ?_<;>intro hc)|(refine yV ?_;first|(refine oC 70 ?_;refine alA (f:=70) rfl rfl rfl rfl rfl  (.pred (rsP B A (two (λ x y=>x || y) p q))) (by intro u1 u2 u3 w e hu1 hu2 hu3;(try obtain rfl:u1=_:=hu1);(try obtain rfl:u2=_:=hu2);(try obtain rfl:u3=_:=hu3);exact nzA (ha.ext e) (hb.ext e) rfl (λ w' A' u v' kp kq p' q' x h1 h2 hF=>Clb.of (brB h1 h2 ((hT.ext e).ext x) hF)) (hT.ext e) (hB.ext e) (hA.ext e)) ?_))|(refine yN hK ?_;clear hK K))|refine wG ?_|(refine yR ?_;intro K hK)|fail)
 exact ajA rfl rfl (Ext.refl _) (λ _ _ _ hv=>hv)
theorem odA {w:World} {va vb:Value} {p q:Nat→Bool} {B1 B2:Nat→Prop} (ha:NSet B1 A w va p) (hb:NSet B2 A w vb q) (hT:Tab w) (hB:Fsh B w) (hA:Fsh A w) :
 Fc Tryz.prog 29 #[va,vb] w (Ret w (.pred (rsP B A (two (λ x y=>x && !y) p q)))):=by
 refine Fc.of (args:=[_,_]) Tryz.func29 rfl rfl Tryz.ntmps29 nZ ?_
 repeat' (first|(refine yL ?_;first|refine a0A rfl ?_|refine yO ?_|(refine yC ?_ ?_<;>intro hc)|(refine yV ?_;first|(refine oC 70 ?_;refine alA (f:=70) rfl rfl rfl rfl rfl  (.pred (rsP B A (two (λ x y=>x && !y) p q))) (by intro u1 u2 u3 w e hu1 hu2 hu3;(try obtain rfl:u1=_:=hu1);(try obtain rfl:u2=_:=hu2);(try obtain rfl:u3=_:=hu3);exact nzA (ha.ext e) (hb.ext e) rfl (λ w' A' u v' kp kq p' q' x h1 h2 hF=>Clb.of (rvA h1 h2 ((hT.ext e).ext x) hF)) (hT.ext e) (hB.ext e) (hA.ext e)) ?_))|(refine yN hK ?_;clear hK K))|refine wG ?_|(refine yR ?_;intro K hK)|fail)
 exact ajA rfl rfl (Ext.refl _) (λ _ _ _ hv=>hv)
theorem xor_s {w:World} {va vb:Value} {p q:Nat→Bool} {B1 B2:Nat→Prop} (ha:NSet B1 A w va p) (hb:NSet B2 A w vb q) (hT:Tab w) (hB:Fsh B w) (hA:Fsh A w) :
 Fc Tryz.prog 30 #[va,vb] w (Ret w (.pred (rsP B A (two (λ x y=>!(x == y)) p q)))):=by
 refine Fc.of (args:=[_,_]) Tryz.func30 rfl rfl Tryz.ntmps30 nZ ?_
 repeat' (first|(refine yL ?_;first|refine a0A rfl ?_|refine yO ?_|(refine yC ?_ ?_<;>intro hc)|(refine yV ?_;first|(refine oC 70 ?_;refine alA (f:=70) rfl rfl rfl rfl rfl  (.pred (rsP B A (two (λ x y=>!(x == y)) p q))) (by intro u1 u2 u3 w e hu1 hu2 hu3;(try obtain rfl:u1=_:=hu1);(try obtain rfl:u2=_:=hu2);(try obtain rfl:u3=_:=hu3);exact nzA (ha.ext e) (hb.ext e) rfl (λ w' A' u v' kp kq p' q' x h1 h2 hF=>Clb.of (bqB h1 h2 ((hT.ext e).ext x) hF)) (hT.ext e) (hB.ext e) (hA.ext e)) ?_))|(refine yN hK ?_;clear hK K))|refine wG ?_|(refine yR ?_;intro K hK)|fail)
 exact ajA rfl rfl (Ext.refl _) (λ _ _ _ hv=>hv)
noncomputable def l5A (n:Nat) (p:Nat→Bool) (x:Nat):Bool:=decide (x<min n TOP) && !p x
theorem x7A (lo hi:Nat):spU [((lo:Int),(hi:Int))]=λ y=>decide (lo≤y) && decide (y<min hi TOP):=by
 funext y
 unfold spU;rw [List.any_cons,List.any_nil,Bool.or_false,Int.toNat_natCast,Int.toNat_natCast]
theorem b6B {w:World} {va:Value} {p:Nat→Bool} {B1:Nat→Prop} {n:Nat} (ha:NSet B1 A w va p) (hn:n<18446744073709551616) (hT:Tab w) (hB:Fsh B w) (hA:Fsh A w) :
 Fc Tryz.prog 31 #[va,.int .u64 n] w (Ret w (.pred (rsP B A (l5A n p)))):=by
 have hnp:two (λ x y=>x && !y) (spU [((0:Int),(n:Int))]) p=l5A n p:=by
  funext x
  have:=congrFun (x7A 0 n) x;unfold two l5A;rw [show ((0:Int),(n:Int))=(((0:Nat):Int),(n:Int)) from rfl,this,decide_eq_true (Nat.zero_le x),Bool.true_and]
 refine Fc.of (args:=[_,_]) Tryz.func31 rfl rfl Tryz.ntmps31 nZ ?_
 repeat' (first|(refine yL ?_;first|refine a0A rfl ?_|(refine oD 6 ?_;refine cqA (c:=spV .u64 (0,n)) rfl rfl rfl (λ w=>run_build w _ _ _ kZ) ?_)|(refine oD 7 ?_;refine e3A rfl feA rfl rfl dZ ?_)|refine yO ?_|(refine yC ?_ ?_<;>intro hc)|(refine yV ?_;first|(refine oC 19 ?_;refine a2A (f:=19) rfl rfl rfl  (.pred (rsP B A (spU [((0:Int),(n:Int))]))) (by intro u1 w e hu1;(try obtain rfl:u1=_:=hu1);exact ppA (xs:=[((0:Int),(n:Int))]) (Own.slC hu1) (by intro x hx;rw [List.mem_singleton] at hx;subst hx;dsimp only;omega) (hT.ext e) (hB.ext e) (hA.ext e)) ?_)|(refine oC 29 ?_;refine a3A (f:=29) rfl rfl rfl rfl  (.pred (rsP B A (l5A n p))) (by intro u1 u2 w e hu1 hu2;(try obtain rfl:u1=_:=hu1);(try obtain rfl:u2=_:=hu2);exact by rw [← hnp];exact odA (B1:=B) (.inr hu1) (ha.ext e) (hT.ext e) (hB.ext e) (hA.ext e)) ?_))|(refine yN hK ?_;clear hK K))|refine wG ?_|(refine yR ?_;intro K hK)|fail)
 exact ajA rfl rfl (Ext.refl _) (λ _ _ _ hv=>hv)
end Go.Proofs.YtlnaebejmjmepaaGreatDoor
end
section
namespace Go.Proofs.YtlnaebejmjmepaaGreatDoor
open Go.LA Go.ArrP Go.RowKit
variable {A B:Nat→Prop}
theorem wdA {w0 w:World} {b:Nat} {kv lv va:Value} {p:Nat→Bool} {xs:List Int} {k:Nat} (hx0:Ext w0 w) (hT:Tab w0) (hB:∀ k,onw b kv lv k→w0.heap.size≤k) (hS:RS A w b kv lv p) (hA:Fsh A w) (hk:k<65536) (hlast:∀ j,k≤j→ne p j=false) (ha:SlI .u16 w va xs) (hi:Inc xs) (hlo:Low xs) (h0:0<xs.length) :
 Fc Tryz.prog 76 #[.pointer (some ⟨b,0,none⟩),.int .u16 k,va] w (λ en w'=>en=.returned (.tuple #[])∧Mut A w b kv lv (upd p k (buA xs)) w'):=by
 have hF:=hS.fsh hA;have hq1:∀ i,65536≤i→buA xs i=false:=λ i hi'=>by
  unfold buA;exact decide_eq_false λ h=>by have:=hlo _ h;omega
 have hq0:0<cnt (buA xs) 65536:=by
  rw [← baA,gvA hi hlo];exact h0
 have hnkc:=fcA p;obtain ⟨q,hq⟩:∃ q,q=buA xs:=⟨_,rfl⟩;have hof:∀ w',Ext w w'→_:=λ w' e=>qhA (ha.ext e) hi hlo (hF.ext e)
 rw [← hq] at hq1 hq0 hof ⊢;clear hq;refine Fc.of (args:=[_,_,_]) Tryz.func76 rfl rfl Tryz.ntmps76 nZ ?_
 repeat' (first|(refine yL ?_;first|refine yB ?_|(refine oD 6 ?_;refine a4A (hK _ _ (egA (q:=11) (φ:=cnP (λ k=>A k∧kv.ownBlock≠some k) q 1) (n:=4) rfl rfl dZ rfl rfl auA (λ _=>rfl) rfl (λ _=>rfl) (λ b11 c11 w11 e11 hb11 hh11 hn11 hc11=>?_)));clear hK K;refine aiA kZ (λ K hK=>?_))|(refine oD 13 ?_;refine ddA rfl rfl ?_;have hS11:=hS.ext e11;have hcA:Cn (λ j=>A j∧kv.ownBlock≠some j∧j<w11.heap.size) w11 (.agg c11) q 1:=Cn.mono hc11 λ j hj ha=>⟨ha.1,ha.2,hj⟩)|(refine oNc ?_;refine afA rfl rfl ?_)|(refine oF 0 ?_;refine a1A (a':=⟨b,0,none⟩) rfl rfl (λ _=>rfl) ?_)|(refine oF 1 ?_;refine a1A (a':=⟨b,1,none⟩) rfl rfl (λ _=>rfl) ?_)|(refine oLt 22 ?_;refine a5A (c:=kv) rfl (λ _=>rfl) rfl hS11.hb rfl ?_)|(refine oLt 26 ?_;refine a5A (c:=lv) rfl (λ _=>rfl) rfl hS11.hb rfl ?_)|(refine oD 20 ?_;refine ehA rfl c8A rfl rfl ?_)|(refine oD 26 ?_;refine bzA rfl hh11 hn11 rfl (λ _=>rfl) (λ _=>rfl) ?_)|refine yO ?_|(refine yC ?_ ?_<;>intro hc)|(refine yV ?_;first|(refine oC 6 ?_;refine a2A (f:=6) rfl rfl rfl  (.tup2 (.pred (cnP (λ k=>A k∧kv.ownBlock≠some k) q 1)) (.val (.bool true))) (by intro u1 w e hu1;(try obtain rfl:u1=_:=hu1);exact hof _ e) ?_))|(refine yN hK ?_;clear hK K))|(refine oCX ?_;first|refine aqA (id:=1) [8,16,19,22] kZ kZ kZ (a7A ?_))|refine wG ?_|(refine yR ?_;intro K hK)|refine wPh ?_|fail)
 have hplK:∀ w',Ext w11 w'→Plain (λ j=>A j∧kv.ownBlock≠some j∧j<w11.heap.size) (λ j=>kv.ownBlock=some j) w':=λ w' x j hj=>by
  obtain ⟨cur,hcur⟩:=bxA (hS11.hk.ext x) hj;exact ⟨cur,_,_,hcur,by decide,by decide,λ ha=>absurd hj ha.2.1⟩
 have hplL:∀ (AA:Nat→Prop) w' n cs,Own 0 tC 4 w' lv n cs→Plain AA (λ j=>lv.ownBlock=some j) w':=λ AA w' n cs ho j hj=>by
  obtain ⟨cur,hcur⟩:=bxA ho hj;exact ⟨cur,_,_,hcur,by decide,by decide,λ _=>by decide⟩
 have lkv:∀ k,kv.ownBlock=some k→k<w11.heap.size:=λ k h=>hS11.lt (.inr (.inl h))
 have llv:∀ k,lv.ownBlock=some k→k<w11.heap.size:=λ k h=>hS11.lt (.inr (.inr h))
 have hsn:=slot_ne hS11;obtain ⟨Q,q1,q2,q3⟩:=hS11.hl;have hklen:=brA p;have hnkl:=fcA p;refine e7A rfl c8A rfl hS11.hk rfl HasC.own (λ u hu=>by rw [List.mem_singleton] at hu;subst hu;rfl) (by unfold maxLen;omega) oZ (λ kv' w1' w2 e1 ho' hf hl=>⟨_,λ t u _ hu=>c2A t u hu,a7A ?_⟩);have hT2:=hT.ext (Fr.ext (hx0.trans (e11.trans e1)) hf (λ j h=>hB j (.inr (.inl h))));have hF3:Fsh (λ j=>A j∧kv.ownBlock≠some j∧kv'.ownBlock≠some j) w2:=λ j hj=>⟨hA j (Nat.le_trans (Nat.le_trans e11.size e1.size) (Nat.le_trans hf.size hj)),λ h=>by have h1:=lkv j h;have h2:=e1.size;have h3:=hf.size;omega,λ h=>by have h1:=(Own.lt ho' j h).2;omega⟩
 have hb2:=hf.at (e1.block hS11.hb) (λ h=>hsn.1 h);have hh2:=hf.at (e1.block hh11) (λ h=>Own.apart hS11.hk hh11 dZ h);have q22:Own 0 tC 4 w2 lv (nk p) (bbA Q):=hf.own (q2.ext e1) (λ k h1 h2=>hsn.2.2 k h2 h1);have hc2:=(hcA.ext e1).fr hf (hplK _ e1);have sz2:=Nat.le_trans e1.size hf.size
 repeat' (first|(refine yL ?_;first|refine yB ?_|(refine oNc ?_;refine afA rfl rfl ?_)|(refine oF 0 ?_;refine a1A (a':=⟨b,0,none⟩) rfl rfl (λ _=>rfl) ?_)|(refine oF 1 ?_;refine a1A (a':=⟨b,1,none⟩) rfl rfl (λ _=>rfl) ?_)|(refine oLt 22 ?_;refine a5A (c:=kv) rfl (λ _=>rfl) rfl hb2 rfl ?_)|(refine oLt 26 ?_;refine a5A (c:=lv) rfl (λ _=>rfl) rfl hb2 rfl ?_)|(refine oLt 32 ?_;refine bzA (n:=4) rfl hh2 hn11 rfl (λ _=>rfl) (λ _=>rfl) ?_)|(first|(refine oD 27 ?_;refine oC 48 ?_;refine a2A (f:=48) rfl rfl rfl  (.pred (cnP (λ j=>A j∧kv.ownBlock≠some j∧kv'.ownBlock≠some j) q (aoA q))) (by intro u1 w e hu1;(try obtain rfl:u1=_:=hu1);exact d4A ((Cn.loc3 hl e1.size hc2).ext e) (hT2.ext e) (hF3.ext e)) ?_)|(refine oD 28 ?_;refine eoA (base:=w11.heap.size) sz2 rfl d8A rfl (λ v w e h=>h) ?_))|refine yO ?_|(refine yC ?_ ?_<;>intro hc)|(refine yN hK ?_;clear hK K))|refine wG ?_|(refine yR ?_;intro K hK)|refine wPh ?_|fail)
 refine mtA 28 rfl dZ rfl (λ v53 w3 e3 h53=>?_);obtain ⟨qc,r1,r2,r3⟩:=h53;refine e7A rfl d8A rfl (q22.ext e3) rfl (HasC.ownV r1) r3 (by unfold maxLen;omega) oZ (λ lv' w3' w4 e3' hol hfl hll=>⟨_,λ t u _ hu=>c2A t u hu,a7A ?_⟩);have x23:=e3.trans e3';have hb4:=hfl.at (x23.block hb2) (λ h=>hsn.2.1 h);have r14:=hfl.own (ho'.ext x23) (λ k h1 h2=>by
  obtain ⟨cur,hcur⟩:=bxA (ho'.ext x23) h1;exact Own.apart (q22.ext x23) hcur dZ h2)
 have rc4:=(r2.ext e3').fr hfl (hplL _ _ _ _ (q22.ext x23));obtain ⟨ck1,ck2⟩:=e0A r14;obtain ⟨cl1,cl2⟩:=e0A hol;have hF4:Fr (onw b kv lv) w11 w4:=(((Fr.of e1).trans (hf.mono λ k h=>.inr (.inl h))).trans (Fr.of x23)).trans (hfl.mono λ k h=>.inr (.inr h))
 repeat' (first|(refine yL ?_;first|refine yB ?_|(refine oNc ?_;refine afA rfl rfl ?_)|(refine oF 0 ?_;refine a1A (a':=⟨b,0,none⟩) rfl rfl (λ _=>rfl) ?_)|(refine oF 1 ?_;refine a1A (a':=⟨b,1,none⟩) rfl rfl (λ _=>rfl) ?_)|(refine oLt 22 ?_;refine a5A (c:=kv) rfl (λ _=>rfl) rfl hb4 rfl ?_)|(refine oLt 26 ?_;refine a5A (c:=lv) rfl (λ _=>rfl) rfl hb4 rfl ?_)|refine yO ?_|(refine yC ?_ ?_<;>intro hc)|(refine yN hK ?_;clear hK K))|refine wG ?_|(refine yR ?_;intro K hK)|refine wPh ?_|fail)
 refine dzA (news:=[kv']) rfl rfl rfl hb4 ck1 (λ _=>rfl) nZ (λ u hu=>by rw [List.mem_singleton] at hu;subst hu;exact ck2) (λ w6 e6=>⟨_,λ t u hu=>c2A t u hu,a7A ?_⟩);have hb6:(w6.setRow b #[kv',lv]).heap[b]?=_:=setRow_heap w6 b _ _ _ _ (e6.block hb4);have rc7:=(rc4.ext e6).setRow (e6.block hb4) ⟨by decide,by decide,by decide⟩ #[kv',lv];obtain ⟨w7,hw7⟩:∃ w7,w7=w6.setRow b #[kv',lv]:=⟨_,rfl⟩;have hF7:Fr (onw b kv lv) w11 w7:=hw7▸((hF4.trans (Fr.of e6)).setRow (.inl rfl) _);have r17:Own 0 tK 1 w7 kv' _ _:=hw7▸Own.setRow (r14.ext e6) _ (Own.apart (r14.ext e6) (e6.block hb4) dZ);have s17:Own 0 tC 4 w7 lv' _ _:=hw7▸Own.setRow (hol.ext e6) _ (Own.apart (hol.ext e6) (e6.block hb4) dZ);rw [show (#[kv,lv].toList.take 0++[kv']++#[kv,lv].toList.drop (0+[kv'].length)).toArray=#[kv',lv] from rfl];rw [← hw7] at hb6 rc7 ⊢;clear hw7
 repeat' (first|(refine yL ?_;first|refine yB ?_|(refine oNc ?_;refine afA rfl rfl ?_)|(refine oF 0 ?_;refine a1A (a':=⟨b,0,none⟩) rfl rfl (λ _=>rfl) ?_)|(refine oF 1 ?_;refine a1A (a':=⟨b,1,none⟩) rfl rfl (λ _=>rfl) ?_)|(refine oLt 22 ?_;refine a5A (c:=kv) rfl (λ _=>rfl) rfl hb6 rfl ?_)|(refine oLt 26 ?_;refine a5A (c:=lv) rfl (λ _=>rfl) rfl hb6 rfl ?_)|refine yO ?_|(refine yC ?_ ?_<;>intro hc)|(refine yN hK ?_;clear hK K))|refine wG ?_|(refine yR ?_;intro K hK)|refine wPh ?_|fail)
 refine dzA (news:=[lv']) rfl rfl rfl hb6 cl1 (λ _=>rfl) nZ (λ u hu=>by rw [List.mem_singleton] at hu;subst hu;exact cl2) (λ w8 e8=>⟨_,λ t u hu=>c2A t u hu,apA ?_⟩);have hb8:(w8.setRow b #[kv',lv']).heap[b]?=_:=setRow_heap w8 b _ _ _ _ (e8.block hb6);have rc9:=(rc7.ext e8).setRow (e8.block hb6) ⟨by decide,by decide,by decide⟩ #[kv',lv'];obtain ⟨w9,hw9⟩:∃ w9,w9=w8.setRow b #[kv',lv']:=⟨_,rfl⟩;have hF9:Fr (onw b kv lv) w11 w9:=hw9▸((hF7.trans (Fr.of e8)).setRow (.inl rfl) _);have r19:Own 0 tK 1 w9 kv' _ _:=hw9▸Own.setRow (r17.ext e8) _ (Own.apart (r17.ext e8) (e8.block hb6) dZ);have s19:Own 0 tC 4 w9 lv' _ _:=hw9▸Own.setRow (s17.ext e8) _ (Own.apart (s17.ext e8) (e8.block hb6) dZ);rw [show (#[kv',lv].toList.take 1++[lv']++#[kv',lv].toList.drop (1+[lv'].length)).toArray=#[kv',lv'] from rfl];rw [← hw9] at hb8 rc9 ⊢;clear hw9;have hkk9:OwnI 0 tK .u16 w9 kv' (b9A p++[(k:Int)]):=by unfold OwnI;rw [List.map_append,List.length_append,List.length_singleton];exact r19
 have hmut:Mut A w11 b kv lv _ w9:=hS11.app hk hlast hq1 hq0 q1 q3 (rc9.mono λ j _ ha=>⟨ha.1,ha.2.2⟩) hF9 hb8 hkk9 s19 (hl.le e1.size) (hll.le (by have:=x23.size;omega))
 repeat' (first|(refine yL ?_;first|refine yB ?_|(refine oNc ?_;refine afA rfl rfl ?_)|(refine oF 0 ?_;refine a1A (a':=⟨b,0,none⟩) rfl rfl (λ _=>rfl) ?_)|(refine oF 1 ?_;refine a1A (a':=⟨b,1,none⟩) rfl rfl (λ _=>rfl) ?_)|(refine oLt 22 ?_;refine a5A (c:=kv) rfl (λ _=>rfl) rfl hb8 rfl ?_)|(refine oLt 26 ?_;refine a5A (c:=lv) rfl (λ _=>rfl) rfl hb8 rfl ?_)|refine yO ?_|(refine yC ?_ ?_<;>intro hc)|(refine yN hK ?_;clear hK K))|refine wG ?_|(refine yR ?_;intro K hK)|refine wPh ?_|fail)
 exact bdA rfl (λ w5 e5=>⟨rfl,(hmut.from e11).ext e5⟩) (.inl rfl)
end Go.Proofs.YtlnaebejmjmepaaGreatDoor
end
section
namespace Go.Proofs.YtlnaebejmjmepaaGreatDoor
open Go.LA Go.ArrP Go.RowKit
variable {A B:Nat→Prop}
theorem wpA:El Tryz.prog 64 49 (.int .u32 0) 1 4:=⟨rfl,rfl,rfl,by decide⟩
theorem rtA (w:World) (v:Value) (n:Nat) (cs:List Value) (h:SlC w v n 1 cs) (h1:∀ u ∈ cs,u.oneCell'=true) (hb:n*4≤140737488355328):Fc Tryz.prog 74 #[v] w (Ret w (.pred (hqA w.heap.size 49 1 n cs))):=by
 obtain ⟨h0,a,cap,rfl,hc,hm,hn,hcs⟩:=id h;have hlen:=h.len;cases a with
 | none =>
   obtain rfl:=hn rfl;obtain rfl:n=0:=oZ;obtain rfl:cs=[]:=List.eq_nil_of_length_eq_zero oZ;refine Fc.of (args:=[_]) Tryz.func74 rfl rfl Tryz.ntmps74 nZ ?_
   repeat' (first|(refine yL ?_;first|refine a0A rfl ?_|refine blA (c:=.bool true) rfl rfl rfl (λ _=>rfl) ?_|refine yO ?_|(refine yC ?_ ?_<;>intro hc)|(refine yN hK ?_;clear hK K))|refine wG ?_|(refine yR ?_;intro K hK)|(refine oPX ?_;first|exact ajA rfl rfl (Ext.refl _) (λ u w2 e2 hu=>by obtain rfl:u=_:=hu;exact Own.nil))|fail)
 | some a =>
   refine Fc.of (args:=[_]) Tryz.func74 rfl rfl Tryz.ntmps74 nZ ?_
   repeat' (first|(refine yL ?_;first|refine a0A rfl ?_|refine blA (c:=.bool false) rfl rfl rfl (λ _=>rfl) ?_|refine ghA 49 (s:=1) rfl (λ _=>by kernel_rfl) ?_|(refine a4A (hK _ _ (bkA 5 rfl (λ v5 w5 e5 h5=>?_)));clear hK K;have h6:=h.ext e5;have ho:Own w.heap.size _ _ w5 v5 0 []:=h5;refine aiA kZ (λ K hK=>?_))|(refine a4A (hK _ _ (cpA rfl dZ wpA rfl ho rfl (HasC.val h6) h1 (by rw [Nat.zero_add];unfold maxLen;omega) (by rw [Nat.zero_add];exact hb) e5.size (λ v' w2 w3 he2 ho3 hg3=>?_)));clear hK K;dsimp only [vals];refine aiA kZ (λ K hK=>?_))|refine yO ?_|(refine yC ?_ ?_<;>intro hc)|(refine yN hK ?_;clear hK K))|refine wG ?_|(refine yR ?_;intro K hK)|fail)
   exact ajA rfl rfl ((e5.trans he2).grown hg3 (λ q hq=>(Own.lt ho q hq).1)) (λ u w4 e4 hu=>by
    obtain rfl:u=_:=hu;have h9:Own w.heap.size 49 1 w3 u n cs:=by simpa using ho3
    exact h9.ext e4)
theorem RS.beside {w1 wa wb:World} {b:Nat} {kv lv va va':Value} {p:Nat→Bool} {base n:Nat} {cs:List Value} (hS:RS (λ j=>A j∧va.ownBlock≠some j) w1 b kv lv p) (hn:∀ k,va.ownBlock=some k→¬ onw b kv lv k) (hva:Own base tK 1 w1 va n cs) (e:Ext w1 wa) (hf:Fr (λ k=>va.ownBlock=some k) wa wb) (hl:LocR wa va va') :
 RS (λ j=>A j∧va'.ownBlock≠some j) wb b kv lv p∧∀ k,va'.ownBlock=some k→¬ onw b kv lv k:=by
 have hSa:=hS.ext e;have h1:RS (λ j=>(A j∧va.ownBlock≠some j)∧va'.ownBlock≠some j) wa b kv lv p:=hSa.mono λ k hk ha _=>⟨ha,λ h=>by
  rcases hl with h' | h'
  ·exact ha.2 (h'▸h)
  ·have:=h' k h;omega⟩
 have h2:Plain (λ j=>(A j∧va.ownBlock≠some j)∧va'.ownBlock≠some j) (λ k=>va.ownBlock=some k) wa:=λ k hk=>by
  obtain ⟨cur,hc⟩:=bxA (hva.ext e) hk;exact ⟨cur,_,_,hc,by decide,by decide,λ ha=>absurd hk ha.1.2⟩
 refine ⟨(h1.fr hf h2 (λ k hk h=>hn k h hk)).mono λ k _ ha _=>⟨ha.1.1,ha.2⟩,λ k hk ho=>?_⟩
 rcases hl with h' | h'
 ·exact hn k (h'▸hk) ho
 ·have h3:=h' k hk
  have h4:=hSa.lt ho;omega
theorem RS.off {w:World} {b:Nat} {kv lv v:Value} {p:Nat→Bool} {base e s n:Nat} {cs:List Value} (hS:RS A w b kv lv p) (ho:Own base e s w v n cs) (he:e≠tS∧e≠tK∧e≠tC) (k:Nat) (hk:v.ownBlock=some k):¬ onw b kv lv k:=by
 obtain ⟨Q,h1,h2,h3⟩:=hS.hl;rintro (rfl|h|h)
 ·exact Own.apart ho hS.hb he.1 hk
 ·obtain ⟨cur,hc⟩:=bxA hS.hk h
  exact Own.apart ho hc he.2.1 hk
 ·obtain ⟨cur,hc⟩:=bxA h2 h
  exact Own.apart ho hc he.2.2 hk
theorem wiA {q:Nat→Bool} (hq:∀ i,65536≤i→q i=false):buA (adA q 65536)=q:=by
 funext i
 by_cases h:i<65536
 ·exact c4A q h
 ·rw [hq i oZ]
  unfold buA;exact decide_eq_false λ hm=>by
   obtain ⟨j,h1,_,h3⟩:=(c9A _ _ _).1 hm;omega
theorem of_s {w:World} {v:Value} {ys:List Int} (h:SlI .u32 w v ys) (hu0:∀ x ∈ ys,0≤x∧x<4294967296) (hn:ys.length≤1000000000) (hT:Tab w) (hB:Fsh B w) (hA:Fsh A w):Fc Tryz.prog 35 #[v] w (Ret w (.pred (rsP B A (buA ys)))):=by
 have hcl:∀ w',Ext w w'→Fc Tryz.prog 74 #[v] w' (Ret w' (.pred (bnA w'.heap.size 49 .u32 ys))):=λ w' e=>rtA w' v ys.length (ys.map (Value.int .u32)) (h.ext e) (λ u hu=>by obtain ⟨z,_,rfl⟩:=List.mem_map.1 hu;rfl) oZ
 obtain ⟨xs,hxs⟩:∃ xs,xs=ys.mergeSort (λ x y=>decide (x≤y)):=⟨_,rfl⟩;have hs:=qnA ys;have hmm:=yeA ys;have hxl:xs.length=ys.length:=by rw [hxs,List.length_mergeSort]
 have hu:∀ x ∈ xs,0≤x∧x<4294967296:=λ x hx=>hu0 x (by rw [hxs,List.mem_mergeSort] at hx;exact hx)
 rw [← hxs] at hs hmm;rw [← hmm];refine Fc.of (args:=[_]) Tryz.func35 rfl rfl Tryz.ntmps35 nZ ?_
 repeat' (first|(refine yL ?_;first|refine a0A rfl ?_|(refine oD 9 ?_;refine a4A (hK _ _ (bkA 0 rfl (λ v8 w8 e8 h8=>?_)));clear hK K;replace h8:OwnI w.heap.size 49 .u32 w8 v8 ys:=h8;refine aiA kZ (λ K hK=>ddA rfl rfl ?_))|(refine oD 10 ?_;refine a4A (hK _ _ (grA rfl dZ rfl rfl (λ v w'=>v=.tuple #[]∧Ext w w'∧OwnI w.heap.size 49 .u32 w' v8 xs) (λ w1 e1=>(Srt.sort32_c (e8.trans e1) (h8.ext e1) oZ).mono (λ en w' h=>⟨_,h.1,rfl,h.2.1,hxs▸h.2.2⟩)) (λ v w20 hm=>?_)));clear hK K;obtain ⟨rfl,x20,h20⟩:=hm)|(refine oD 12 ?_;refine a4A (hK _ _ (bkA 3 rfl (λ v3 w3 e3 h3=>?_)));clear hK K;obtain ⟨b,hbb,rfl,h3⟩:=h3;replace h20:=h20.ext e3;refine aiA kZ (λ K hK=>ddA rfl rfl ?_))|(refine c7A ?_;refine asA rfl _ rfl rfl (HasI.ownV h20).c ?_)|refine yO ?_|(refine yC ?_ ?_<;>intro hc)|(refine yV ?_;first|(refine oC 74 ?_;refine a2A (f:=74) rfl rfl rfl  (.pred (bnA w.heap.size 49 .u32 ys)) (by intro u1 w e hu1;(try obtain rfl:u1=_:=hu1);exact (hcl _ e).mono (aaA e.size)) ?_)|(refine oC 17 ?_;refine cjA (f:=17) rfl rfl  (.pred (weA w.heap.size #[nilS,nilS] tS)) (by intro w e;exact (baB _).mono (neA (Nat.le_trans x20.size e.size))) ?_))|(refine yN hK ?_;clear hK K))|refine wG ?_|(refine yR ?_;intro K hK)|fail)
 have hon0:∀ k,onw b nilS nilS k→w.heap.size≤k:=λ k hk=>by
  rcases hk with rfl|hk|hk
  ·exact hbb
  ·cases hk
  ·cases hk
 refine agA (ι:=Nat × Value) (λ i=>[(0,.val v8),(3,.val (.pointer (some ⟨b,0,none⟩))),(4,.val i.2),(12,.val v8),(13,.val (.int .i64 xs.length)),(14,.val (.int .i64 i.1))]) (λ i w'=>i.1≤xs.length∧Ext w w'∧OwnI w.heap.size 49 .u32 w' v8 xs∧OwnI w.heap.size tK .u16 w' i.2 (ofA xs i.1)∧∃ kv lv,RS (λ j=>A j∧i.2.ownBlock≠some j) w' b kv lv (ofS xs i.1)∧(∀ k,onw b kv lv k→w.heap.size≤k)∧∀ k,i.2.ownBlock=some k→¬ onw b kv lv k) (λ i=>xs.length-i.1)
  (λ w2 e2=>⟨(0,nilS),⟨Nat.zero_le _,x20.trans (e3.trans e2),h20.ext e2,OwnI.nil,nilS,nilS,RS.new (e2.block h3),hon0,λ k hk=>by cases hk⟩,sZ⟩) ?_
 rintro ⟨i,va⟩ w1 ⟨hi,hx1,hv1,hva,kv,lv,hS,hon,hnv⟩;dsimp only at hi hva hS hnv ⊢;have hT1:=hT.ext hx1;have hal:(ofA xs i).length≤65536:=by
  unfold ofA
  split
  ·exact Nat.zero_le _
  ·rw [baA];exact cnt_le _ _
 by_cases hil:i<xs.length
 ·obtain ⟨c,hc⟩:∃ c:Nat,xs.getD i 0=(c:Int):=⟨(xs.getD i 0).toNat,by have:=jaA hu hil;omega⟩
  have hcb:c<4294967296:=by have:=jaA hu hil;omega
  have hnew:=b5B hs hu hil;have hK2:ofK xs (i+1)=c / 65536:=by unfold ofK;rw [Nat.add_sub_cancel,hc,Int.toNat_natCast]
  have ec:IntKind.u16.wrap (c:Int)=((c % 65536:Nat):Int):=by rw [IntKind.wrap_u16];omega
  rw [hc,Int.toNat_natCast] at hnew
  by_cases hi0:i=0
  ·rw [if_neg oZ,if_neg oZ] at hnew
   replace hnew:=hnew (.inl hi0);have hA0:ofA xs i=[]:=by rw [hi0];rfl
   have hS0:ofS xs i=λ _=>false:=by rw [hi0];rfl
   have hm0:buA (xs.take i)=λ _=>false:=by funext x;rw [hi0,List.take_zero];unfold buA;exact decide_eq_false (λ h=>by cases h)
   rw [hm0] at hnew;rw [hA0] at hva;rw [hS0] at hS
   repeat' (first|(refine yL ?_;first|refine a0A rfl ?_|(refine oD 31 ?_;refine asA (n:=0) rfl _ rfl rfl (HasI.ownV hva).c ?_)|(refine oD 32 ?_;refine f8A rfl rfl rfl rfl dZ ?_)|(refine oD 17 ?_;refine ahA rfl _ rfl (λ _=>rfl) rfl (HasI.ownV hv1) rfl hil ?_;rw [hc])|(refine oD 56 ?_;refine dwA rfl rfl rfl rfl ?_;rw [ec])|(refine oD 57 ?_;refine ehA rfl c8A rfl rfl ?_)|(refine oD 58 ?_;refine a4A (hK _ _ (d7A (n:=0) (cs:=[]) rfl dZ c8A rfl hva rfl HasC.own (by intro u hu;rw [List.mem_singleton] at hu;subst hu;rfl) (by unfold maxLen;omega) oZ (λ v' wa wb' e' ho' hf hl=>?_)));clear hK K;refine aiA kZ (λ K hK=>?_))|refine yO ?_|(refine yC ?_ ?_<;>intro hc)|(refine yN hK ?_;clear hK K))|refine wG ?_|(refine yR ?_;intro K hK)|fail)
   have x4:=hx1.trans e';have ho2:OwnI w.heap.size tK .u16 wb' v' (ofA xs (i+1)):=by
    rw [hnew.1];unfold OwnI;rw [List.map_append,List.length_append,List.length_singleton];exact Own.rebase ho' (hl.ge (λ k hk=>(Own.lt hva k hk).1) x4.size)
   obtain ⟨hS9,hn9⟩:=RS.beside hS hnv hva e' hf hl;have hv9:=hf.own (hv1.ext e') (λ k h1 h2=>by
    obtain ⟨cur,hcur⟩:=bxA (hv1.ext e') h1;exact Own.apart (hva.ext e') hcur dZ h2)
   have x9:=Fr.ext x4 hf (λ k hk=>(Own.lt hva k hk).1);exact a6A (i+1,v') (λ w5 e5=>⟨hil,x9.trans e5,Own.ext hv9 e5,ho2.ext e5,kv,lv,by dsimp only;rw [hnew.2];exact hS9.ext e5,hon,hn9⟩) eZ sZ
  ·obtain ⟨a,ha⟩:∃ a:Nat,xs.getD (i-1) 0=(a:Int):=⟨(xs.getD (i-1) 0).toNat,by have:=jaA hu (i:=i-1) oZ;omega⟩
   have hab:a<4294967296:=by have:=jaA hu (i:=i-1) oZ;omega
   have hK1:ofK xs i=a / 65536:=by unfold ofK;rw [ha,Int.toNat_natCast]
   have hpos:=qjA hu (Nat.pos_of_ne_zero hi0) hi;obtain ⟨K,hKd⟩:∃ K,K=ofK xs i:=⟨_,rfl⟩;have hKlt:=wfA hu (Nat.pos_of_ne_zero hi0) hi;have hfull:upd (ofS xs i) (ofK xs i) (buA (ofA xs i))=buA (xs.take i):=by
    have h1:buA (ofA xs i)=blk (buA (xs.take i)) (ofK xs i):=by
     unfold ofA;rw [if_neg hi0];exact wiA (λ j hj=>dnA oZ)
    rw [h1];exact qiA hs hu (Nat.pos_of_ne_zero hi0) hi
   have hlast:∀ j,ofK xs i≤j→ne (ofS xs i) j=false:=λ j hj=>by unfold ofS;rw [if_neg hi0];exact o2A _ hj
   have hAinc:Inc (ofA xs i):=by unfold ofA;rw [if_neg hi0];exact bjA _ _
   have hAlow:Low (ofA xs i):=by unfold ofA;rw [if_neg hi0];exact chA _
   have hFva:Fsh (λ j=>A j∧va.ownBlock≠some j) w1:=λ j hj=>⟨hA j (Nat.le_trans hx1.size hj),λ h=>by have:=(Own.lt hva j h).2;omega⟩
   have eK:(a:Int) / 65536=(K:Int):=by rw [hKd,hK1];omega
   rw [← hKd] at hKlt hfull hlast
   by_cases hac:a=c
   ·have hsame:=jbA (Nat.pos_of_ne_zero hi0) hil (by rw [ha,hc,hac])
    have hKK:ofK xs (i+1)=ofK xs i:=by rw [hK1,hK2,hac]
    have hA':ofA xs (i+1)=ofA xs i:=by unfold ofA;rw [if_neg hi0,if_neg (Nat.succ_ne_zero i),hsame,hKK]
    have hS':ofS xs (i+1)=ofS xs i:=by unfold ofS;rw [if_neg hi0,if_neg (Nat.succ_ne_zero i),hsame,hKK]
    repeat' (first|(refine yL ?_;first|refine a0A rfl ?_|(refine oD 17 ?_;refine ahA rfl _ rfl (λ _=>rfl) rfl (HasI.ownV hv1) rfl hil ?_;rw [hc])|(refine oD 24 ?_;refine abA rfl rfl rfl fZ ?_;rw [show ((i:Int)-1)=((i-1:Nat):Int) by omega])|(refine oD 25 ?_;refine ahA rfl _ rfl (λ _=>rfl) rfl (HasI.ownV hv1) rfl oZ ?_;rw [ha])|(refine oD 36 ?_;refine abA rfl rfl rfl fZ ?_;rw [show ((i:Int)-1)=((i-1:Nat):Int) by omega])|(refine oD 37 ?_;refine ahA rfl _ rfl (λ _=>rfl) rfl (HasI.ownV hv1) rfl oZ ?_;rw [ha])|(refine oD 47 ?_;refine abA rfl rfl rfl fZ ?_;rw [show ((i:Int)-1)=((i-1:Nat):Int) by omega])|(refine oD 48 ?_;refine ahA rfl _ rfl (λ _=>rfl) rfl (HasI.ownV hv1) rfl oZ ?_;rw [ha])|(refine oB .shr ?_;refine f0A rfl rfl rfl dZ dZ ?_;rw [show (2:Int) ^ Int.toNat 16=65536 by decide])|(refine oD 56 ?_;refine dwA rfl rfl rfl rfl ?_;rw [ec])|(refine oD 57 ?_;refine ehA rfl c8A rfl rfl ?_)|refine yO ?_|(refine yC ?_ ?_<;>intro hc)|(refine yN hK ?_;clear hK K))|refine wG ?_|(refine yR ?_;intro K hK)|fail)
    exact a6A (i+1,va) (λ w5 e5=>⟨hil,hx1.trans e5,hv1.ext e5,by dsimp only;rw [hA'];exact hva.ext e5,kv,lv,by dsimp only;rw [hS'];exact hS.ext e5,hon,hnv⟩) eZ sZ
   ·replace hnew:=hnew (.inr (by rw [ha];exact λ h=>hac oZ))
    by_cases hKK:ofK xs i=ofK xs (i+1)
    ·rw [if_pos ⟨Nat.pos_of_ne_zero hi0,hKK⟩,if_pos ⟨Nat.pos_of_ne_zero hi0,hKK⟩] at hnew
     have hk12:a / 65536=c / 65536:=by rw [← hK1,hKK,hK2]
     repeat' (first|(refine yL ?_;first|refine a0A rfl ?_|(refine oD 31 ?_;refine asA rfl _ rfl rfl (HasI.ownV hva).c ?_)|(refine oD 17 ?_;refine ahA rfl _ rfl (λ _=>rfl) rfl (HasI.ownV hv1) rfl hil ?_;rw [hc])|(refine oD 24 ?_;refine abA rfl rfl rfl fZ ?_;rw [show ((i:Int)-1)=((i-1:Nat):Int) by omega])|(refine oD 25 ?_;refine ahA rfl _ rfl (λ _=>rfl) rfl (HasI.ownV hv1) rfl oZ ?_;rw [ha])|(refine oD 36 ?_;refine abA rfl rfl rfl fZ ?_;rw [show ((i:Int)-1)=((i-1:Nat):Int) by omega])|(refine oD 37 ?_;refine ahA rfl _ rfl (λ _=>rfl) rfl (HasI.ownV hv1) rfl oZ ?_;rw [ha])|(refine oD 47 ?_;refine abA rfl rfl rfl fZ ?_;rw [show ((i:Int)-1)=((i-1:Nat):Int) by omega])|(refine oD 48 ?_;refine ahA rfl _ rfl (λ _=>rfl) rfl (HasI.ownV hv1) rfl oZ ?_;rw [ha])|(refine oB .shr ?_;refine f0A rfl rfl rfl dZ dZ ?_;rw [show (2:Int) ^ Int.toNat 16=65536 by decide])|(refine oD 56 ?_;refine dwA rfl rfl rfl rfl ?_;rw [ec])|(refine oD 57 ?_;refine ehA rfl c8A rfl rfl ?_)|(refine oD 58 ?_;refine a4A (hK _ _ (d7A (n:=(ofA xs i).length) (cs:=(ofA xs i).map (Value.int .u16)) rfl dZ c8A rfl hva rfl HasC.own (by intro u hu;rw [List.mem_singleton] at hu;subst hu;rfl) (by unfold maxLen;omega) oZ (λ v' wa wb' e' ho' hf hl=>?_)));clear hK K;refine aiA kZ (λ K hK=>?_))|refine yO ?_|(refine yC ?_ ?_<;>intro hc)|(refine yN hK ?_;clear hK K))|refine wG ?_|(refine yR ?_;intro K hK)|fail)
     have x4:=hx1.trans e';have ho2:OwnI w.heap.size tK .u16 wb' v' (ofA xs (i+1)):=by
      rw [hnew.1];unfold OwnI;rw [List.map_append,List.length_append,List.length_singleton];exact Own.rebase ho' (hl.ge (λ k hk=>(Own.lt hva k hk).1) x4.size)
     obtain ⟨hS9,hn9⟩:=RS.beside hS hnv hva e' hf hl;have hv9:=hf.own (hv1.ext e') (λ k h1 h2=>by
      obtain ⟨cur,hcur⟩:=bxA (hv1.ext e') h1;exact Own.apart (hva.ext e') hcur dZ h2)
     have x9:=Fr.ext x4 hf (λ k hk=>(Own.lt hva k hk).1);exact a6A (i+1,v') (λ w5 e5=>⟨hil,x9.trans e5,Own.ext hv9 e5,ho2.ext e5,kv,lv,by dsimp only;rw [hnew.2];exact hS9.ext e5,hon,hn9⟩) eZ sZ
    ·rw [if_neg (λ h=>hKK h.2),if_neg (λ h=>hKK h.2)] at hnew
     have hk12:a / 65536≠c / 65536:=by rw [← hK1,← hK2];exact hKK
     repeat' (first|(refine yL ?_;first|refine a0A rfl ?_|(refine oD 31 ?_;refine asA rfl _ rfl rfl (HasI.ownV hva).c ?_)|(refine oD 17 ?_;refine ahA rfl _ rfl (λ _=>rfl) rfl (HasI.ownV hv1) rfl hil ?_;rw [hc])|(refine oD 24 ?_;refine abA rfl rfl rfl fZ ?_;rw [show ((i:Int)-1)=((i-1:Nat):Int) by omega])|(refine oD 25 ?_;refine ahA rfl _ rfl (λ _=>rfl) rfl (HasI.ownV hv1) rfl oZ ?_;rw [ha])|(refine oD 36 ?_;refine abA rfl rfl rfl fZ ?_;rw [show ((i:Int)-1)=((i-1:Nat):Int) by omega])|(refine oD 37 ?_;refine ahA rfl _ rfl (λ _=>rfl) rfl (HasI.ownV hv1) rfl oZ ?_;rw [ha])|(refine oD 47 ?_;refine abA rfl rfl rfl fZ ?_;rw [show ((i:Int)-1)=((i-1:Nat):Int) by omega])|(refine oD 48 ?_;refine ahA rfl _ rfl (λ _=>rfl) rfl (HasI.ownV hv1) rfl oZ ?_;rw [ha])|(refine oB .shr ?_;refine f0A rfl rfl rfl dZ dZ ?_;rw [show (2:Int) ^ Int.toNat 16=65536 by decide])|(refine oD 56 ?_;refine dwA rfl rfl rfl rfl ?_;rw [ec])|(refine oD 57 ?_;refine ehA rfl c8A rfl rfl ?_)|refine yO ?_|(refine yC ?_ ?_<;>intro hc)|(refine yN hK ?_;clear hK K))|refine wG ?_|(refine yR ?_;intro K hK)|fail)
     refine a4A (hK _ _ (cbA rfl dZ rfl rfl rfl rfl (λ v w'=>v=.tuple #[]∧∃ wz,Ext w1 wz∧Mut (λ j=>A j∧va.ownBlock≠some j) wz b kv lv (buA (xs.take i)) w') (λ w8 e8=>?_) (λ v w2 hm=>?_)))
     ·rw [eK]
      exact (wdA (hx1.trans e8) hT hon (hS.ext e8) (hFva.ext e8) hKlt hlast (hva.ext e8).slI hAinc hAlow hpos).mono (λ en w' h=>⟨_,h.1,rfl,_,e8,hfull▸h.2⟩)
     clear hK K;obtain ⟨rfl,wz,ez,kv9,lv9,m1,m2,m3,m4⟩:=hm;have x2:=Fr.ext (hx1.trans ez) m2 hon;have hon9:=gaA hon (hx1.trans ez).size m3 m4;have hv2:OwnI w.heap.size 49 .u32 w2 v8 xs:=m2.own (hv1.ext ez) (RS.off (hS.ext ez) (hv1.ext ez) ⟨by decide,by decide,by decide⟩);have hS2:RS (λ j=>A j∧nilS.ownBlock≠some j) w2 b kv9 lv9 (buA (xs.take i)):=m1.mono λ j _ ha _=>⟨ha.1,λ h=>by cases h⟩
     repeat' (first|(refine yL ?_;first|refine a0A rfl ?_|(refine oD 56 ?_;refine dwA rfl rfl rfl rfl ?_;rw [ec])|(refine oD 57 ?_;refine ehA rfl c8A rfl rfl ?_)|(refine oD 58 ?_;refine a4A (hK _ _ (d7A (n:=0) (cs:=[]) rfl dZ c8A rfl (Own.nil (base:=w.heap.size) (e:=tK) (s:=1)) rfl HasC.own (by intro u hu;rw [List.mem_singleton] at hu;subst hu;rfl) (by unfold maxLen;omega) oZ (λ v' wa wb' e' ho' hf hl=>?_)));clear hK K;refine aiA kZ (λ K hK=>?_))|refine yO ?_|(refine yC ?_ ?_<;>intro hc)|(refine yN hK ?_;clear hK K))|refine wG ?_|(refine yR ?_;intro K hK)|fail)
     have hvn:OwnI w.heap.size tK .u16 w2 nilS []:=OwnI.nil;have x4:=x2.trans e';have ho2:OwnI w.heap.size tK .u16 wb' v' (ofA xs (i+1)):=by
      rw [hnew.1];unfold OwnI;rw [List.map_append,List.length_append,List.length_singleton];exact Own.rebase ho' (hl.ge (λ k hk=>(Own.lt hvn k hk).1) x4.size)
     obtain ⟨hS9,hn9⟩:=RS.beside hS2 (λ k h=>by cases h) hvn e' hf hl;have hv9:=hf.own (hv2.ext e') (λ k h1 h2=>by
      obtain ⟨cur,hcur⟩:=bxA (hv2.ext e') h1;exact Own.apart (hvn.ext e') hcur dZ h2)
     have x9:=Fr.ext x4 hf (λ k hk=>(Own.lt hvn k hk).1);exact a6A (i+1,v') (λ w5 e5=>⟨hil,x9.trans e5,Own.ext hv9 e5,ho2.ext e5,kv9,lv9,by dsimp only;rw [hnew.2];exact hS9.ext e5,hon9,hn9⟩) eZ sZ
 ·have hie:i=xs.length:=oZ
  have hmx:buA (xs.take i)=buA xs:=by rw [hie,List.take_length]
  by_cases hi0:i=0
  ·have hA0:ofA xs i=[]:=by rw [hi0];rfl
   have hS0:ofS xs i=buA xs:=by
    rw [← hmx,hi0,List.take_zero]
    funext x;exact (decide_eq_false (λ h=>by cases h):buA [] x=false).symm
   rw [hA0] at hva;rw [hS0] at hS
   repeat' (first|(refine yL ?_;first|refine a0A rfl ?_|(refine oD 61 ?_;refine asA (n:=0) rfl _ rfl rfl (HasI.ownV hva).c ?_)|(refine oD 62 ?_;refine f8A rfl rfl rfl rfl dZ ?_)|refine yO ?_|(refine yC ?_ ?_<;>intro hc)|(refine yN hK ?_;clear hK K))|refine wG ?_|(refine yR ?_;intro K hK)|fail)
   exact ajA rfl rfl hx1 (λ u w5 e5 hu=>by obtain rfl:u=_:=hu;exact ⟨b,kv,lv,rfl,(hS.ext e5).mono λ j _ ha _=>ha.1,λ k hk=>hB k (hon k hk)⟩)
  ·obtain ⟨a,ha⟩:∃ a:Nat,xs.getD (i-1) 0=(a:Int):=⟨(xs.getD (i-1) 0).toNat,by have:=jaA hu (i:=i-1) oZ;omega⟩
   have hab:a<4294967296:=by have:=jaA hu (i:=i-1) oZ;omega
   have hK1:ofK xs i=a / 65536:=by unfold ofK;rw [ha,Int.toNat_natCast]
   have hpos:=qjA hu (Nat.pos_of_ne_zero hi0) hi;obtain ⟨K,hKd⟩:∃ K,K=ofK xs i:=⟨_,rfl⟩;have hKlt:=wfA hu (Nat.pos_of_ne_zero hi0) hi;have hfull:upd (ofS xs i) (ofK xs i) (buA (ofA xs i))=buA (xs.take i):=by
    have h1:buA (ofA xs i)=blk (buA (xs.take i)) (ofK xs i):=by
     unfold ofA;rw [if_neg hi0];exact wiA (λ j hj=>dnA oZ)
    rw [h1];exact qiA hs hu (Nat.pos_of_ne_zero hi0) hi
   have hlast:∀ j,ofK xs i≤j→ne (ofS xs i) j=false:=λ j hj=>by unfold ofS;rw [if_neg hi0];exact o2A _ hj
   have hAinc:Inc (ofA xs i):=by unfold ofA;rw [if_neg hi0];exact bjA _ _
   have hAlow:Low (ofA xs i):=by unfold ofA;rw [if_neg hi0];exact chA _
   have hFva:Fsh (λ j=>A j∧va.ownBlock≠some j) w1:=λ j hj=>⟨hA j (Nat.le_trans hx1.size hj),λ h=>by have:=(Own.lt hva j h).2;omega⟩
   have eK:(a:Int) / 65536=(K:Int):=by rw [hKd,hK1];omega
   rw [← hKd] at hKlt hfull hlast;rw [hmx] at hfull;rw [hie] at ha
   repeat' (first|(refine yL ?_;first|refine a0A rfl ?_|(refine oD 61 ?_;refine asA rfl _ rfl rfl (HasI.ownV hva).c ?_)|(refine c7A ?_;refine asA rfl _ rfl rfl (HasI.ownV hv1).c ?_)|(refine oD 67 ?_;refine abA rfl rfl rfl fZ ?_;rw [show ((xs.length:Int)-1)=((xs.length-1:Nat):Int) by omega])|(refine oD 68 ?_;refine ahA rfl _ rfl (λ _=>rfl) rfl (HasI.ownV hv1) rfl oZ ?_;rw [ha])|(refine oB .shr ?_;refine f0A rfl rfl rfl dZ dZ ?_;rw [show (2:Int) ^ Int.toNat 16=65536 by decide])|refine yO ?_|(refine yC ?_ ?_<;>intro hc)|(refine yN hK ?_;clear hK K))|refine wG ?_|(refine yR ?_;intro K hK)|fail)
   refine a4A (hK _ _ (cbA rfl dZ rfl rfl rfl rfl (λ v w'=>v=.tuple #[]∧∃ wz,Ext w1 wz∧Mut (λ j=>A j∧va.ownBlock≠some j) wz b kv lv (buA xs) w') (λ w8 e8=>?_) (λ v w2 hm=>?_)))
   ·rw [eK]
    exact (wdA (hx1.trans e8) hT hon (hS.ext e8) (hFva.ext e8) hKlt hlast (hva.ext e8).slI hAinc hAlow hpos).mono (λ en w' h=>⟨_,h.1,rfl,_,e8,hfull▸h.2⟩)
   clear hK K;obtain ⟨rfl,wz,ez,kv9,lv9,m1,m2,m3,m4⟩:=hm;have x2:=Fr.ext (hx1.trans ez) m2 hon;have hon9:=gaA hon (hx1.trans ez).size m3 m4
   repeat' (first|(refine yL ?_;first|refine a0A rfl ?_|refine yO ?_|(refine yC ?_ ?_<;>intro hc)|(refine yN hK ?_;clear hK K))|refine wG ?_|(refine yR ?_;intro K hK)|fail)
   exact ajA rfl rfl x2 (λ u w5 e5 hu=>by obtain rfl:u=_:=hu;exact ⟨b,kv9,lv9,rfl,(m1.ext e5).mono λ j _ ha _=>ha.1,λ k hk=>hB k (hon9 k hk)⟩)
end Go.Proofs.YtlnaebejmjmepaaGreatDoor
end
