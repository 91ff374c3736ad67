import Derived.Laws.BitsAllLaws
import Derived.Laws.BytesArg
import Derived.Test.YtbokphkfojijoaaGreatDoorM3
import Derived.Test.YtbokphkfojijoaaGreatDoorM21
import Derived.Test.YtbokphkfojijoaaGreatDoorM23
import Derived.Test.YtbokphkfojijoaaGreatDoorM24
section
set_option linter.unusedSimpArgs false
set_option linter.unusedVariables false
set_option maxRecDepth 3000
namespace Go.Proofs.YtbokphkfojijoaaGreatDoor.Pt
open Go.LA Go.ArrP Go.RowKit
theorem o9A {xs:List Int} {i:Nat} (hil:i < xs.length):(xs.take i ++ List.replicate (xs.length - i) 0).set i (xs.getD i 0)=xs.take (i + 1) ++ List.replicate (xs.length - (i + 1)) 0:=by
  rw [take_snoc 0 hil,show xs.length - i=(xs.length - (i + 1)) + 1 by omega,List.replicate_succ,List.set_append_right _ _ (by rw [List.length_take];omega),List.length_take,Nat.min_eq_left (by omega),Nat.sub_self,List.set_cons_zero,List.append_assoc]
  rfl
theorem oaA {xs:List Int} {i:Nat} (hil:i ≤ xs.length):(xs.take i ++ List.replicate (xs.length - i) (0:Int)).length=xs.length:=by
  rw [List.length_append,List.length_take,List.length_replicate];omega
noncomputable def lyA (g:Nat → Int) (n:Nat):List Int:=(List.range n).map g
theorem jsA (g:Nat → Int) (n:Nat):(lyA g n).length=n:=by simp [lyA]
theorem neA {g:Nat → Int} {n i:Nat} (h:i < n):(lyA g n).getD i 0=g i:=by
  simp [lyA,List.getD_eq_getElem?_getD,List.getElem?_range h]
theorem pxA (g:Nat → Int) (n:Nat):lyA g (n + 1)=lyA g n ++ [g n]:=by simp [lyA,List.range_succ]
noncomputable def yeA (p:Nat → Bool):List Int:=lyA (fun i=>(cnt (blk p (kp p i)) 65536:Nat)) (nk p)
noncomputable def lvA (p f:Nat → Bool) (i:Nat):Int:=(dhA (nk p) (e6A f (nk p)) + (bdA (emA p f) i).length:Nat)
abbrev vqA:Nat:=3
abbrev zrA:Nat:=71
abbrev tRd':Nat:=136
theorem ayB:El Tryz.prog 46 3 (.int .i64 0) 1 8:=⟨rfl,rfl,rfl,by decide⟩
theorem waA:El Tryz.prog 72 71 (.int .u32 0) 1 4:=⟨rfl,rfl,rfl,by decide⟩
def OffR (e:Nat):Prop:=e ≠ tPr ∧ e ≠ tRd' ∧ e ≠ tB
theorem Rdr.fr {base br bc pos:Nat} {w w':World} {sl:Value} {ys:List Int} {en:Int} {R:Nat → Prop} (h:Rdr base w br bc sl ys pos en) (hf:Fr R w w') (hR:∀ k,R k → ∃ cur e j,w.heap[k]?=some (.cells cur e j) ∧ OffR e):Rdr base w' br bc sl ys pos en:=by
  refine ⟨h.hb,hf.at h.hr (fun hk=>?_),⟨h.rd.1,hf.at h.rd.2.1 (fun hk=>?_),hf.own h.rd.2.2.1 (fun k hk hr=>?_),h.rd.2.2.2⟩,h.hy⟩
  · obtain ⟨cur,e,j,h1,h2,-⟩:=hR br hk
    rw [h.hr] at h1;cases h1;exact h2 rfl
  · obtain ⟨cur,e,j,h1,-,h2,-⟩:=hR bc hk
    rw [h.rd.2.1] at h1;cases h1;exact h2 rfl
  · obtain ⟨cur,e,j,h1,-,-,h2⟩:=hR k hr
    exact Own.apart h.rd.2.2.1 h1 (fun q=>h2 q.symm) hk
theorem ecA {base e s n:Nat} {w w':World} {v:Value} {cs:List Value} {R:Nat → Prop} (h:LA.Own base e s w v n cs) (hf:Fr R w w') (hR:∀ k,R k → ∃ cur e' j,w.heap[k]?=some (.cells cur e' j) ∧ e ≠ e'):LA.Own base e s w' v n cs :=
  hf.own h (fun k hk hr=>by
    obtain ⟨cur,e',j,h1,h2⟩:=hR k hr
    exact Own.apart h h1 h2 hk)
theorem Rdr.bcAt {base br bc pos:Nat} {w:World} {sl:Value} {ys:List Int} {en:Int} (h:Rdr base w br bc sl ys pos en):∀ k,some bc=some k → ∃ cur,w.heap[k]?=some (.cells cur tRd' (0,0)):=fun k hk=>by
  cases hk;exact ⟨_,h.rd.2.1⟩
theorem Rdr.own {base br bc pos base' e s n:Nat} {w w':World} {sl:Value} {ys:List Int} {en:Int} {v:Value} {cs:List Value} (h:Rdr base w br bc sl ys pos en) (hg:w.grownBy w' (some bc)) (ho:LA.Own base' e s w v n cs) (he:e ≠ tRd'):LA.Own base' e s w' v n cs :=
  ecA ho (Fr.grown hg) (fun k hk=>by obtain ⟨cur,hc⟩:=h.bcAt k hk;exact ⟨cur,_,_,hc,he⟩)
theorem and1 (a:Nat) (ha:a < 256):bits .and .u8 (a:Int) 1=((a % 2:Nat):Int):=by
  have h:=u8_and_nat a 1 ha (by decide)
  rw [show ((1:Nat):Int)=1 from rfl] at h
  rw [h,show (1:Nat)=2 ^ 1 - 1 by decide,Nat.and_two_pow_sub_one_eq_mod]
theorem y9A {f:Nat → Bool} {n i:Nat} (hn:n ≤ 8) (hi:i < n):bits .and .u8 ((fB f n:Int) / 2 ^ ((i:Nat):Int).toNat) 1=if f i then 1 else 0:=by
  have h1:=p7A f n
  have h2:fB f n < 256:=Nat.lt_of_lt_of_le h1 (Nat.pow_le_pow_right (by decide) hn:2 ^ n ≤ 2 ^ 8)
  rw [Int.toNat_natCast]
  have h3:((fB f n:Nat):Int) / (2:Int) ^ i=((fB f n / 2 ^ i:Nat):Int):=by norm_cast
  rw [h3,and1 _ (Nat.lt_of_le_of_lt (Nat.div_le_self _ _) h2),auB f n i hi]
  cases f i <;> rfl
def KRow (base:Nat) (p:Nat → Bool) (n:Nat) (w:World) (u:Value) (Q:List Qd):Prop:=LA.Own base tC 4 w u n (clA Q) ∧ Q.length=n ∧ ∀ i,i < n → ∃ kk,Cn TT w (qv (Q.getD i q0)) (blk p (kp p i)) kk
theorem KRow.ext {base n:Nat} {p:Nat → Bool} {w w':World} {u:Value} {Q:List Qd} (h:KRow base p n w u Q) (e:Ext w w'):KRow base p n w' u Q:=⟨h.1.ext e,h.2.1,fun i hi=>(h.2.2 i hi).imp fun k hk=>hk.ext e⟩
theorem KRow.fr {base n:Nat} {p:Nat → Bool} {w w':World} {u:Value} {Q:List Qd} {R:Nat → Prop} (h:KRow base p n w u Q) (hf:Fr R w w') (hR:∀ k,R k → ∃ cur e',w.heap[k]?=some (.cells cur e' (0,0)) ∧ e' ≠ tC ∧ e' ≠ tK ∧ e' ≠ 61 ∧ e' ≠ 105):KRow base p n w' u Q :=
  ⟨ecA h.1 hf (fun k hk=>by obtain ⟨cur,e',h1,h2,-⟩:=hR k hk;exact ⟨cur,e',_,h1,fun q=>h2 q.symm⟩),h.2.1,fun i hi=>(h.2.2 i hi).imp fun kk hc=>hc.fr hf (fun k hk=>by
    obtain ⟨cur,e',h1,h2,h3,h4,h5⟩:=hR k hk
    exact ⟨cur,e',_,h1,fun q=>h4 q.symm,fun q=>h5 q.symm,fun _ q=>h3 q.symm⟩)⟩
theorem KRow.kinds {base n:Nat} {p:Nat → Bool} {w:World} {u:Value} {Q:List Qd} (h:KRow base p n w u Q):∃ kks:Nat → Int,∀ i,i < n → Cn TT w (qv (Q.getD i q0)) (blk p (kp p i)) (kks i):=by
  classical
  refine ⟨fun i=>if hi:i < n then Classical.choose (h.2.2 i hi) else 0,fun i hi=>?_⟩
  show Cn _ _ _ _ (if hi:i < n then Classical.choose (h.2.2 i hi) else 0)
  rw [dif_pos hi]
  exact Classical.choose_spec (h.2.2 i hi)
end Go.Proofs.YtbokphkfojijoaaGreatDoor.Pt
end
section
set_option linter.unusedSimpArgs false
set_option linter.unusedVariables false
namespace Go.Proofs.YtbokphkfojijoaaGreatDoor.Pt
open Go.LA Go.ArrP Go.RowKit
structure Rds (base:Nat) (w:World) (br bc:Nat) (sl:Value) (zs:List Int) (pos:Nat) (fv vk vc:Value) (fl ks cs:List Int):Prop where
  rd:Rdr base w br bc sl zs pos 0
  f:OwnI base tB .u8 w fv fl
  k:OwnI base tK .u16 w vk ks
  c:OwnI base vqA .i64 w vc cs
theorem Rds.ext {base br bc pos:Nat} {w w':World} {sl fv vk vc:Value} {zs fl ks cs:List Int} (h:Rds base w br bc sl zs pos fv vk vc fl ks cs) (e:Ext w w'):Rds base w' br bc sl zs pos fv vk vc fl ks cs:=⟨h.rd.ext e,h.f.ext e,h.k.ext e,h.c.ext e⟩
theorem Rds.step {base br bc pos pos':Nat} {w w':World} {sl fv vk vc:Value} {zs fl ks cs:List Int} (h:Rds base w br bc sl zs pos fv vk vc fl ks cs) (h':RdI base w' bc sl zs pos') (hg:w.grownBy w' (some bc)):Rds base w' br bc sl zs pos' fv vk vc fl ks cs :=
  ⟨h.rd.step h' hg,h.rd.own hg h.f (by decide),h.rd.own hg h.k (by decide),h.rd.own hg h.c (by decide)⟩
theorem Rds.go {base br bc pos pos':Nat} {w w':World} {sl fv vk vc:Value} {zs fl ks cs:List Int} (h:Rds base w br bc sl zs pos fv vk vc fl ks cs) (h':Rdr base w' br bc sl zs pos' 0) (hg:w.grownBy w' (some bc)):Rds base w' br bc sl zs pos' fv vk vc fl ks cs :=
  ⟨h',h.rd.own hg h.f (by decide),h.rd.own hg h.k (by decide),h.rd.own hg h.c (by decide)⟩
theorem Rds.fr {base br bc pos:Nat} {w w':World} {sl fv vk vc:Value} {zs fl ks cs:List Int} {R:Nat → Prop} (h:Rds base w br bc sl zs pos fv vk vc fl ks cs) (hf:Fr R w w') (hR:∀ k,R k → ∃ cur e j,w.heap[k]?=some (.cells cur e j) ∧ OffR e ∧ e ≠ tK ∧ e ≠ vqA):Rds base w' br bc sl zs pos fv vk vc fl ks cs :=
  ⟨h.rd.fr hf (fun k hk=>by obtain ⟨cur,e,j,h1,h2,-⟩:=hR k hk;exact ⟨cur,e,j,h1,h2⟩),
   ecA h.f hf (fun k hk=>by obtain ⟨cur,e,j,h1,h2,-⟩:=hR k hk;exact ⟨cur,e,j,h1,fun q=>h2.2.2 q.symm⟩),
   ecA h.k hf (fun k hk=>by obtain ⟨cur,e,j,h1,-,h2,-⟩:=hR k hk;exact ⟨cur,e,j,h1,fun q=>h2 q.symm⟩),
   ecA h.c hf (fun k hk=>by obtain ⟨cur,e,j,h1,-,-,h2⟩:=hR k hk;exact ⟨cur,e,j,h1,fun q=>h2 q.symm⟩)⟩
theorem Rds.setK {base br bc pos gb cap i:Nat} {w:World} {sl fv vc:Value} {zs fl ks cs:List Int} {cur:Array Value} (h:Rds base w br bc sl zs pos fv (.slice (some ⟨gb,0,none⟩) ks.length cap) vc fl ks cs)
    (hb:base ≤ gb) (hc:w.heap[gb]?=some (.cells cur tK (0,0))) (hnc:ks.length ≤ cap) (hm:cap ≤ maxLen) (hsz:cur.size=cap) (ht:cur.toList.take ks.length=ks.map (Value.int .u16)) (hi:i < ks.length) (x:Int) :
    Rds base (w.setRow gb (cur.setIfInBounds i (.int .u16 x))) br bc sl zs pos fv (.slice (some ⟨gb,0,none⟩) ks.length cap) vc fl (ks.set i x) cs:=by
  have hf:Fr (fun k=>k=gb) w (w.setRow gb (cur.setIfInBounds i (.int .u16 x))):=Fr.setRow (R:=fun k=>k=gb) (Fr.of (Ext.refl _)) rfl _
  have hR:∀ k,k=gb → w.heap[k]?=some (.cells cur tK (0,0)):=fun k hk=>by rw [hk];exact hc
  refine ⟨h.rd.fr hf (fun k hk=>⟨cur,tK,_,hR k hk,by decide,by decide,by decide⟩),ecA h.f hf (fun k hk=>⟨cur,tK,_,hR k hk,by decide⟩),?_,ecA h.c hf (fun k hk=>⟨cur,tK,_,hR k hk,by decide⟩)⟩
  exact OwnI.set hb hc hnc hm hsz ht i hi x
theorem Rds.setC {base br bc pos gb cap i:Nat} {w:World} {sl fv vk:Value} {zs fl ks cs:List Int} {cur:Array Value} (h:Rds base w br bc sl zs pos fv vk (.slice (some ⟨gb,0,none⟩) cs.length cap) fl ks cs)
    (hb:base ≤ gb) (hc:w.heap[gb]?=some (.cells cur vqA (0,0))) (hnc:cs.length ≤ cap) (hm:cap ≤ maxLen) (hsz:cur.size=cap) (ht:cur.toList.take cs.length=cs.map (Value.int .i64)) (hi:i < cs.length) (x:Int) :
    Rds base (w.setRow gb (cur.setIfInBounds i (.int .i64 x))) br bc sl zs pos fv vk (.slice (some ⟨gb,0,none⟩) cs.length cap) fl ks (cs.set i x):=by
  have hf:Fr (fun k=>k=gb) w (w.setRow gb (cur.setIfInBounds i (.int .i64 x))):=Fr.setRow (R:=fun k=>k=gb) (Fr.of (Ext.refl _)) rfl _
  have hR:∀ k,k=gb → w.heap[k]?=some (.cells cur vqA (0,0)):=fun k hk=>by rw [hk];exact hc
  refine ⟨h.rd.fr hf (fun k hk=>⟨cur,vqA,_,hR k hk,by decide,by decide,by decide⟩),ecA h.f hf (fun k hk=>⟨cur,vqA,_,hR k hk,by decide⟩),ecA h.k hf (fun k hk=>⟨cur,vqA,_,hR k hk,by decide⟩),?_⟩
  exact OwnI.set hb hc hnc hm hsz ht i hi x
theorem evA {w0 w w':World} {b:Nat} (e:Ext w0 w) (h:w.grownBy w' (some b)) (hb:w0.heap.size ≤ b):Ext w0 w':=Fr.ext e (Fr.grown h) (fun k hk=>by cases hk;exact hb)
theorem KRow.snoc {base t:Nat} {p:Nat → Bool} {w w':World} {u v':Value} {Q:List Qd} {qc:Qd} (hQ:KRow base p t w u Q) (hc:∃ kk,Cn TT w (qv qc) (blk p (kp p t)) kk) (ho:LA.Own 0 tC 4 w' v' (t + 1) (clA Q ++ clA [qc])) (hf:Fr (fun k=>u.ownBlock=some k) w w') (hl:LocR w u v') (hb:base ≤ w.heap.size):KRow base p (t + 1) w' v' (Q ++ [qc]):=by
  have hfr:∀ {q:Qd} {s:Nat → Bool} {kk:Int},Cn TT w (qv q) s kk → Cn TT w' (qv q) s kk:=fun h=>h.fr hf (fun k hk=>by
    obtain ⟨cur,hcur⟩:=atA hQ.1 hk
    exact ⟨cur,_,_,hcur,by decide,by decide,fun _=>by decide⟩)
  refine ⟨by rw [ezA];exact Own.rebase ho (hl.ge (fun k hk=>(Own.lt hQ.1 k hk).1) hb),by rw [List.length_append,hQ.2.1];rfl,fun j hj=>?_⟩
  by_cases e:j < t
  · rw [show (Q ++ [qc]).getD j q0=Q.getD j q0 by simp [List.getD,List.getElem?_append_left (show j < Q.length by rw [hQ.2.1];omega)]]
    exact (hQ.2.2 j e).imp fun kk h=>hfr h
  · obtain rfl:j=t:=by omega
    rw [show (Q ++ [qc]).getD j q0=qc by rw [List.getD_eq_getElem?_getD,List.getElem?_append_right (by rw [hQ.2.1];exact Nat.le_refl _),hQ.2.1,Nat.sub_self];rfl]
    exact hc.imp fun kk h=>hfr h
end Go.Proofs.YtbokphkfojijoaaGreatDoor.Pt
end
section
set_option linter.unusedSimpArgs false
set_option linter.unusedVariables false
set_option maxRecDepth 3000
namespace Go.Proofs.YtbokphkfojijoaaGreatDoor.Pt
open Go.LA Go.ArrP Go.RowKit
set_option maxHeartbeats 16000000 in
theorem noA {w:World} {v:Value} {ys:List Int} {at_:Nat} {p f:Nat → Bool} (h:SlI .u8 w v ys) (hT:Tab w) (hl:ys.length ≤ 1000000000) (hy:∀ x ∈ ys,0 ≤ x ∧ x < 256) (hn8:nk p ≤ 8) (htop:∀ x,TOP ≤ x → p x=false) (hA:AtB ys at_ (luA p f)) :
    Fc Tryz.prog 15 #[v,.int .i64 at_] w (Ret w (.tup3 (.pred (rsP TT TT p)) (.val (.int .i64 (at_ + (luA p f).length:Nat))) (.val (.int .i64 0)))):=by
  have hlh:=h.len
  have hale:=hA.le
  obtain ⟨zs,hzs⟩:∃ zs,zs=ys.drop at_:=⟨_,rfl⟩
  have hsub:SlI .u8 w (eoA v at_ ys.length 1) zs:=by rw [hzs];exact SlI.drop h (by omega)
  have hzl:zs.length ≤ 1000000000:=by rw [hzs,List.length_drop];omega
  have hzy:∀ x ∈ zs,0 ≤ x ∧ x < 256:=fun x hx=>hy x (List.mem_of_mem_drop (by rw [← hzs];exact hx))
  have hAz:AtB zs 0 (luA p f):=by
    obtain ⟨a,t,h1,h2⟩:=hA
    exact ⟨[],t,by rw [hzs,h1,← h2,List.drop_left];rfl,rfl⟩
  have hil:=mfA (f:=f) hn8
  have hhl:=kdA (f:=f) hn8
  have hck:=kkA (f:=f) hn8 ioA
  obtain ⟨P1,P2,P3,P4⟩:=r9A hn8 hAz
  have hbl:=imA p f (nk p)
  rw [dfA _ (fun i _=>hjA p i)] at hhl
  have hkl:=bsA p
  have hcl:(yeA p).length=nk p:=jsA _ _
  have hzle:=hAz.le
  have hD:∀ i,i < nk p → (kp p i < 65536 ∧ (blA p).getD i 0=(kp p i:Int)) ∧ 0 < cnt (blk p (kp p i)) 65536 ∧ cnt (blk p (kp p i)) 65536 ≤ 65536 ∧ (yeA p).getD i 0=((cnt (blk p (kp p i)) 65536:Nat):Int):=fun i hi=>by
    obtain ⟨k1,k2,k3,k4⟩:=kaA hi
    exact ⟨⟨k1,k4⟩,ne_cnt.1 k2,cnt_le _ _,neA hi⟩
  have hasc:∀ i,i + 1 < nk p → kp p i < kp p (i + 1):=fun i hi=>gsA (by omega)
  have hoffs:¬ (e6A f (nk p)=true ∧ nk p < 4) → (epA p f).length=4 * nk p:=fun ho=>by
    unfold epA;rw [if_neg ho,dfA _ (fun i _=>g4A p f i)];omega
  have hoffs0:(e6A f (nk p)=true ∧ nk p < 4) → (epA p f).length=0:=fun ho=>by unfold epA;rw [if_pos ho];rfl
  have hflag:∀ i,i < nk p → _:=fun i hi=>y9A (f:=f) hn8 hi
  obtain ⟨ks,hks⟩:∃ ks,ks=blA p:=⟨_,rfl⟩
  obtain ⟨cs,hcs⟩:∃ cs,cs=yeA p:=⟨_,rfl⟩
  rw [← hks] at hkl hD
  rw [← hcs] at hcl hD
  clear hks hcs
  obtain ⟨n,hnn⟩:∃ n,n=nk p:=⟨_,rfl⟩
  obtain ⟨hd,hhd⟩:∃ m,m=(ddA n f).length:=⟨_,rfl⟩
  obtain ⟨H,hH⟩:∃ m,m=dhA n (e6A f n):=⟨_,rfl⟩
  obtain ⟨L,hL⟩:∃ m,m=(luA p f).length:=⟨_,rfl⟩
  obtain ⟨O,hO⟩:∃ O,O=decide (¬ (e6A f n=true ∧ n < 4)):=⟨_,rfl⟩
  rw [← hnn] at hn8 hil hhl hck P1 P2 P3 P4 hbl hkl hcl hD hasc hoffs hoffs0 hflag
  rw [← hhd] at P2 P3 hhl hck
  rw [← hH] at P4 hhl hil
  rw [← hL] at hil hale hzle ⊢
  have hO3:O=true → (epA p f).length=4 * n ∧ ∀ i,i < n → AtB zs (hd + 4 * n + 4 * i) (jfA p f i):=fun h=>by
    have:=of_decide_eq_true (hO ▸ h);exact ⟨hoffs this,P3 this⟩
  have hO0:O=false → (epA p f).length=0:=fun h=>hoffs0 (Decidable.not_not.1 (of_decide_eq_false (hO ▸ h)))
  clear hoffs hoffs0 P3
  have hHle:H ≤ 1000:=by
    rw [hH];unfold dhA;split
    · split <;> omega
    · omega
  refine Fc.of (args:=[_,_]) Tryz.func15 rfl rfl Tryz.ntmps15 (Nat.le_of_ble_eq_true rfl) ?_
  repeat' (first|(refine oLA ?_;first|refine a0A rfl ?_|(refine dkA ?_;refine azA rfl _ rfl rfl (HasI.val h).c ?_)|(refine oD 29 ?_;refine a4A (hK _ _ (c3A rfl (Nat.le_of_ble_eq_true rfl) rfl rfl (fun v' w'=>∃ b sl,v'=.pointer (some ⟨b,0,none⟩) ∧ Ext w w' ∧ RdI w.heap.size w' b sl zs 0) (fun w8 e8=>(new_c w8 _ zs (hsub.ext e8) (by omega)).mono fun en w' ⟨b,sl,g1,g2,g3⟩=>⟨_,g1,b,sl,rfl,e8.trans g2,⟨Nat.le_trans e8.size g3.1,g3.2.1,Own.base g3.2.2.1 e8.size,g3.2.2.2⟩⟩) (fun vv wA hAA=>?_)));clear hK K;obtain ⟨bc,sl,rfl,hxA,hrd⟩:=hAA;dsimp only [LA.vals];refine aeA (by kernel_rfl) (fun K hK=>?_))|(refine oD 30 ?_;refine fqA rfl rfl (rzA bc) ?_)|(refine oD 31 ?_;refine enA rfl rfl ?_)|(refine oD 33 ?_;refine a4A (hK _ _ (b8A 7 rfl (fun v7 w7 e7 h7=>?_)));clear hK K;obtain ⟨br,hbr,rfl,hbrc⟩:=h7;have hR:Rdr w.heap.size w7 br bc sl zs 0 0:=⟨Nat.le_trans hxA.size hbr,hbrc,hrd.ext e7,hzy⟩;refine aeA (by kernel_rfl) (fun K hK=>cmA rfl rfl ?_))|(refine oD 34 ?_;refine a4A (hK _ _ (c3A rfl (Nat.le_of_ble_eq_true rfl) rfl rfl (fun v' w'=>∃ fv fl,v'=.tuple #[.int .i64 n,fv,.bool O] ∧ OwnI w.heap.size tB .u8 w' fv fl ∧ fl.length=(n + 7) / 8 ∧ (0 < n → fl.getD 0 0=(fB f n:Int)) ∧ Rdr w.heap.size w' br bc sl zs hd 0 ∧ w7.grownBy w' (some bc)) (fun w8 e8=>(ueA (hR.ext e8) hn8 P1).mono fun en w' ⟨fv,fl,g1,g2,g3,g4,g5,g6⟩=>⟨_,g1,fv,fl,by rw [hO],Own.base g2 (Nat.le_trans hxA.size (Nat.le_trans e7.size e8.size)),g3,g4,by rw [hhd,← Nat.zero_add (ddA n f).length];exact g5,arA e8 g6⟩) (fun vv wB hBB=>?_)));clear hK K;obtain ⟨fv,fl,rfl,hfv,hfl,hf0,hR2,hG⟩:=hBB;dsimp only [LA.vals];have hr2:=hR2.hr;refine aeA (by kernel_rfl) (fun K hK=>?_))|(refine oD 35 ?_;refine ovA rfl rfl ?_)|(refine oD 36 ?_;refine ouA rfl rfl ?_)|(refine oD 37 ?_;refine otA rfl rfl ?_)|(refine oD 40 ?_;refine fmA rfl rfl rfl (by dsimp only [fits];omega) ?_;rw [show (4:Int) * (n:Int)=((4 * n:Nat):Int) by omega])|(refine oD 48 ?_;refine e8A (n:=n) rfl czA rfl rfl (by omega) (by omega) ?_)|(refine oD 50 ?_;refine e8A (n:=n) rfl ayB rfl rfl (by omega) (by omega) ?_)|(refine oD 52 ?_;refine azA rfl _ rfl rfl HasI.own.c ?_;rw [List.length_replicate])|refine wOp ?_|(refine wCm ?_ ?_<;>intro hc)|(refine oCv ?_;first|(refine oD 41 ?_;refine oC 51 ?_;refine a3A (f:=51) rfl rfl rfl rfl  (.val (.bool true)) (by intro u1 u2 w e hu1 hu2;(try obtain rfl:u1=_:=hu1);(try obtain rfl:u2=_:=hu2);exact ghA (n:=4 * n) (hR2.ext e) (by omega)) ?_))|(refine wNl hK ?_;clear hK K))|refine wG ?_|(refine wCR ?_;intro K hK)|fail)
  all_goals skip
  all_goals skip
  have xB:Ext w wB:=Fr.ext (hxA.trans e7) (Fr.grown hG) (fun k hk=>by cases hk;exact hR2.rd.1)
  refine buA 11 rfl (fun vk w11 e11 h11=>?_)
  replace h11:OwnI wB.heap.size tK .u16 w11 vk (List.replicate n 0):=h11
  refine buA 12 rfl (fun vc w12 e12 h12=>?_)
  replace h12:OwnI wB.heap.size vqA .i64 w12 vc (List.replicate n 0):=h12
  have hx12:=xB.trans (e11.trans e12)
  have hS0:Rds w.heap.size w12 br bc sl zs hd fv vk vc fl (List.replicate n 0) (List.replicate n 0):=⟨(hR2.ext e11).ext e12,(hfv.ext e11).ext e12,(Own.base h11 xB.size).ext e12,Own.base h12 xB.size⟩
  have hbcw:w.heap.size ≤ bc:=hR2.rd.1
  clear hR2 hfv h11 h12 hG hr2 hR hrd
  refine adA (ι:=Nat) (fun i=>[(1,.val (.int .i64 at_)),(7,.val (.pointer (some ⟨br,0,none⟩))),(8,.val (.int .i64 n)),(9,.val fv),(10,.val (.bool O)),(11,.val vk),(12,.val vc),(52,.val (.int .i64 n)),(53,.val (.int .i64 i))])
    (fun i w'=>i ≤ n ∧ Ext w w' ∧ Rds w.heap.size w' br bc sl zs (hd + 4 * i) fv vk vc fl (ks.take i ++ List.replicate (ks.length - i) 0) (cs.take i ++ List.replicate (cs.length - i) 0)) (fun i=>n - i)
    (fun w5 e5=>⟨0,⟨Nat.zero_le _,hx12.trans e5,by rw [hkl,hcl];simpa using hS0.ext e5⟩,(by repeat' (first | exact Sub.nil | refine Sub.val rfl (by first | with_reducible rfl | (congr 1;omega)) ?_ | refine Sub.same rfl ?_))⟩) ?_
  rintro i w2 ⟨hi,he,hS⟩
  by_cases hil':i < n
  · obtain ⟨⟨d1,d2⟩,d3,d4,d5⟩:=hD i hil'
    have hkset:=o9A (xs:=ks) (i:=i) (by omega)
    have hcset:=o9A (xs:=cs) (i:=i) (by omega)
    have hkll:=oaA (xs:=ks) (i:=i) (by omega)
    have hcll:=oaA (xs:=cs) (i:=i) (by omega)
    have hPd:=P2 i hil'
    unfold g8A at hPd
    have hPk:=hPd.left
    have hPc:=hPd.right
    rw [b4A] at hPc
    rw [d2] at hkset
    rw [d5] at hcset
    obtain ⟨K0,hK0⟩:∃ K,K=kp p i:=⟨_,rfl⟩
    obtain ⟨C0,hC0⟩:∃ c,c=cnt (blk p (kp p i)) 65536:=⟨_,rfl⟩
    rw [← hC0] at hPc d3 d4 d5 hcset
    rw [← hK0] at hPk d1 d2 hkset
    clear hPd hK0 hC0
    obtain ⟨gb,cap,cur,rfl,t1,t2,t3,t4,t5,t6⟩:=OwnI.row hS.k (by omega)
    obtain ⟨gc,capc,curc,rfl,s1,s2,s3,s4,s5,s6⟩:=OwnI.row hS.c (by omega)
    have hrr:=hS.rd.hr
    have hbcR:=hS.rd.rd.2.1
    have hnb:¬ (some bc=some gb):=fun q=>by cases q;rw [hbcR] at t2;cases t2
    have hnc:¬ (some bc=some gc):=fun q=>by cases q;rw [hbcR] at s2;cases s2
    have hnbc:gc ≠ gb:=fun q=>by rw [q,t2] at s2;cases s2
    repeat' (first|(refine oLA ?_;first|refine a0A rfl ?_|(refine oNc ?_;refine a8A rfl rfl ?_)|(refine oF 0 ?_;refine a1A (a':=⟨br,0,none⟩) rfl rfl (fun _=>rfl) ?_)|(refine oD 61 ?_;refine a5A (c:=.pointer (some ⟨bc,0,none⟩)) rfl (fun _=>rfl) rfl hrr rfl ?_)|(refine oD 62 ?_;refine a4A (hK _ _ (c3A rfl (Nat.le_of_ble_eq_true rfl) rfl rfl (fun v w'=>v=.int .u16 K0 ∧ RdI w.heap.size w' bc sl zs (hd + 4 * i + 2) ∧ w2.grownBy w' (some bc)) (fun w8 e8=>(jaA w8 w.heap.size bc sl zs _ K0 (hS.rd.rd.ext e8) hzy hPk (by omega) (by omega)).mono fun en w' h=>⟨_,h.1,rfl,h.2.1,arA e8 h.2.2⟩) (fun vv wX hXX=>?_)));clear hK K;obtain ⟨rfl,hX1,hX2⟩:=hXX;dsimp only [LA.vals];have t2':=(Fr.grown hX2).at t2 hnb;have hSX:=hS.step hX1 hX2;refine aeA (by kernel_rfl) (fun K hK=>?_))|(refine oD 63 ?_;refine c6A (s:=1) rfl rfl (fun _=>rfl) rfl rfl (by omega) (by omega) ?_;rw [Int.toNat_natCast,Nat.zero_add,Nat.mul_one])|(refine a4A (hK _ _ (bgA rfl rfl rfl t2' (fun _=>rfl) (by omega) rfl rfl (fun wY eY=>?_)));clear hK K;dsimp only [LA.vals];obtain ⟨S1,hS1⟩:∃ S1,S1=wY.setRow gb (cur.setIfInBounds i (.int .u16 K0)):=⟨_,rfl⟩;rw [← hS1])|refine wOp ?_|(refine wCm ?_ ?_<;>intro hc)|(refine wNl hK ?_;clear hK K))|refine wG ?_|(refine wCR ?_;intro K hK)|fail)
    all_goals skip
    have hSY:=(hSX.ext eY).setK t1 (eY.block t2') t3 t4 t5 t6 (i:=i) (by omega) K0
    have x1:Ext w (wY.setRow gb (cur.setIfInBounds i (.int .u16 K0))):=((evA he hX2 hbcw).trans eY).setRow t1 _
    have s2':(wY.setRow gb (cur.setIfInBounds i (.int .u16 K0))).heap[gc]?=_:=(setRow_other _ _ _ _ hnbc).trans (eY.block ((Fr.grown hX2).at s2 hnc))
    rw [hkset] at hSY
    rw [← hS1] at hSY x1 s2'
    clear hS1
    have hr1:=hSY.rd.hr
    repeat' (first|(refine oLA ?_;first|refine a0A rfl ?_|(refine oNc ?_;refine a8A rfl rfl ?_)|(refine oF 0 ?_;refine a1A (a':=⟨br,0,none⟩) rfl rfl (fun _=>rfl) ?_)|(refine oD 69 ?_;refine a5A (c:=.pointer (some ⟨bc,0,none⟩)) rfl (fun _=>rfl) rfl hr1 rfl ?_)|(refine oD 70 ?_;refine a4A (hK _ _ (c3A rfl (Nat.le_of_ble_eq_true rfl) rfl rfl (fun v w'=>v=.int .u16 (C0 - 1:Nat) ∧ RdI w.heap.size w' bc sl zs (hd + 4 * i + 2 + 2) ∧ S1.grownBy w' (some bc)) (fun w8 e8=>(jaA w8 w.heap.size bc sl zs _ (C0 - 1:Nat) (hSY.rd.rd.ext e8) hzy hPc (by omega) (by omega)).mono fun en w' h=>⟨_,h.1,rfl,h.2.1,arA e8 h.2.2⟩) (fun vv wZ hZZ=>?_)));clear hK K;obtain ⟨rfl,hZ1,hZ2⟩:=hZZ;dsimp only [LA.vals];have sZ:=(Fr.grown hZ2).at s2' hnc;have hSZ:=hSY.step hZ1 hZ2;refine aeA (by kernel_rfl) (fun K hK=>?_))|(refine oD 72 ?_;refine avA rfl rfl rfl (by dsimp only [fits];omega) ?_;rw [show ((C0 - 1:Nat):Int) + 1=(C0:Int) by omega])|(refine oD 73 ?_;refine c6A (s:=1) rfl rfl (fun _=>rfl) rfl rfl (by omega) (by omega) ?_;rw [Int.toNat_natCast,Nat.zero_add,Nat.mul_one])|(refine a4A (hK _ _ (bgA rfl rfl rfl sZ (fun _=>rfl) (by omega) rfl rfl (fun wV eV=>?_)));clear hK K;dsimp only [LA.vals])|refine wOp ?_|(refine wCm ?_ ?_<;>intro hc)|(refine wNl hK ?_;clear hK K))|refine wG ?_|(refine wCR ?_;intro K hK)|fail)
    all_goals skip
    have hSV:=(hSZ.ext eV).setC s1 (eV.block sZ) s3 s4 s5 s6 (i:=i) (by omega) C0
    have x2:Ext w (wV.setRow gc (curc.setIfInBounds i (.int .i64 C0))):=((evA x1 hZ2 hbcw).trans eV).setRow s1 _
    rw [hcset] at hSV
    exact a6A (i + 1) (fun w5 e5=>⟨hil',x2.trans e5,by rw [show hd + 4 * (i + 1)=hd + 4 * i + 2 + 2 by omega];exact hSV.ext e5⟩) (by omega) (by repeat' (first | exact Sub.nil | refine Sub.val rfl (by first | with_reducible rfl | (congr 1;omega)) ?_ | refine Sub.same rfl ?_))
  obtain rfl:i=n:=by omega
  have hSa:Rds w.heap.size w2 br bc sl zs (hd + 4 * i) fv vk vc fl ks cs:=by
    have:=hS
    rw [hkl,hcl,Nat.sub_self,List.replicate_zero,List.append_nil,List.append_nil] at this
    rw [List.take_of_length_le (by omega),List.take_of_length_le (by omega)] at this
    exact this
  clear hS hS0 hx12 P2
  repeat' (first|(refine oLA ?_;first|refine a0A rfl ?_|refine wOp ?_|(refine wCm ?_ ?_<;>intro hc)|(refine wNl hK ?_;clear hK K))|refine wG ?_|(refine wCR ?_;intro K hK)|fail)
  all_goals skip
  refine adA (ι:=Nat) (fun t=>[(1,.val (.int .i64 at_)),(7,.val (.pointer (some ⟨br,0,none⟩))),(8,.val (.int .i64 i)),(9,.val fv),(10,.val (.bool O)),(11,.val vk),(12,.val vc),(14,.val (.int .i64 t))])
    (fun t w'=>1 ≤ t ∧ (t ≤ i ∨ t=1) ∧ Ext w w' ∧ Rds w.heap.size w' br bc sl zs (hd + 4 * i) fv vk vc fl ks cs) (fun t=>i + 1 - t)
    (fun w5 e5=>⟨1,⟨Nat.le_refl _,.inr rfl,he.trans e5,hSa.ext e5⟩,(by repeat' (first | exact Sub.nil | refine Sub.val rfl (by first | with_reducible rfl | (congr 1;omega)) ?_ | refine Sub.same rfl ?_))⟩) ?_
  clear hSa he w2
  rintro t w2 ⟨ht1,ht2,he,hS⟩
  by_cases hti:t < i
  · obtain ⟨⟨a1,a2⟩,-⟩:=hD t hti
    obtain ⟨⟨b1,b2⟩,-⟩:=hD (t - 1) (by omega)
    have hlt:=hasc (t - 1) (by omega)
    rw [show t - 1 + 1=t by omega] at hlt
    obtain ⟨K1,hK1⟩:∃ K,K=kp p t:=⟨_,rfl⟩
    obtain ⟨K2,hK2⟩:∃ K,K=kp p (t - 1):=⟨_,rfl⟩
    rw [← hK1] at a1 a2 hlt
    rw [← hK2] at b1 b2 hlt
    clear hK1 hK2
    repeat' (first|(refine oLA ?_;first|refine a0A rfl ?_|(refine oD 83 ?_;refine afA rfl rfl rfl (by dsimp only [fits];omega) ?_;rw [show (t:Int) - 1=((t - 1:Nat):Int) by omega])|(refine oD 84 ?_;refine acA rfl _ rfl (fun _=>rfl) rfl (HasI.ownV hS.k) rfl (by omega) ?_;rw [b2])|(refine oD 88 ?_;refine acA rfl _ rfl (fun _=>rfl) rfl (HasI.ownV hS.k) rfl (by omega) ?_;rw [a2])|refine wOp ?_|(refine wCm ?_ ?_<;>intro hc)|(refine oCv ?_;first|(refine oC 53 ?_;refine a3A (f:=53) rfl rfl rfl rfl  (.val (.bool true)) (by intro u1 u2 w e hu1 hu2;(try obtain rfl:u1=_:=hu1);(try obtain rfl:u2=_:=hu2);exact e2A (hS.rd.ext e)) ?_))|(refine wNl hK ?_;clear hK K))|refine wG ?_|(refine wCR ?_;intro K hK)|fail)
    all_goals skip
    exact a6A (t + 1) (fun w5 e5=>⟨by omega,.inl hti,he.trans e5,hS.ext e5⟩) (by omega) (by repeat' (first | exact Sub.nil | refine Sub.val rfl (by first | with_reducible rfl | (congr 1;omega)) ?_ | refine Sub.same rfl ?_))
  have hSb:=hS
  clear hS ht1 ht2 hasc
  repeat' (first|(refine oLA ?_;first|refine a0A rfl ?_|refine wOp ?_|(refine wCm ?_ ?_<;>intro hc)|(refine wNl hK ?_;clear hK K))|(refine oCX ?_;first|refine cjA (id:=19) (ι:=Value) (fun vb=>[(1,.val (.int .i64 at_)),(7,.val (.pointer (some ⟨br,0,none⟩))),(8,.val (.int .i64 i)),(9,.val fv),(10,.val (.bool O)),(11,.val vk),(12,.val vc),(15,.val vb)]) (fun vb w'=>Ext w w' ∧ Rds w.heap.size w' br bc sl zs H fv vk vc fl ks cs ∧ (O=true → OwnI w.heap.size zrA .u32 w' vb (lyA (lvA p f) i))) ?_ ?_)|refine wG ?_|(refine wCR ?_;intro K hK)|fail)
  all_goals skip
  · cases O with
    | false =>
      have h0:=hO0 rfl
      repeat' (first|(refine oLA ?_;first|refine a0A rfl ?_|refine wOp ?_|(refine wCm ?_ ?_<;>intro hc)|(refine wNl hK ?_;clear hK K))|refine wG ?_|(refine wCR ?_;intro K hK)|fail)
      all_goals skip
      exact a6A nilS (fun w5 e5=>⟨he.trans e5,by rw [show H=hd + 4 * i by omega];exact hSb.ext e5,fun h=>by cases h⟩) (by omega) (by repeat' (first | exact Sub.nil | refine Sub.val rfl (by first | with_reducible rfl | (congr 1;omega)) ?_ | refine Sub.same rfl ?_))
    | true =>
      obtain ⟨h4,hPo⟩:=hO3 rfl
      repeat' (first|(refine oLA ?_;first|refine a0A rfl ?_|(refine oD 96 ?_;refine fmA rfl rfl rfl (by dsimp only [fits];omega) ?_;rw [show (4:Int) * (i:Int)=((4 * i:Nat):Int) by omega])|refine wOp ?_|(refine wCm ?_ ?_<;>intro hc)|(refine oCv ?_;first|(refine oD 97 ?_;refine oC 51 ?_;refine a3A (f:=51) rfl rfl rfl rfl  (.val (.bool true)) (by intro u1 u2 w e hu1 hu2;(try obtain rfl:u1=_:=hu1);(try obtain rfl:u2=_:=hu2);exact ghA (n:=4 * i) (hSb.rd.ext e) (by omega)) ?_))|(refine wNl hK ?_;clear hK K))|refine wG ?_|(refine wCR ?_;intro K hK)|fail)
      all_goals skip
      refine adA (ι:=Nat × Value) (fun j=>[(1,.val (.int .i64 at_)),(7,.val (.pointer (some ⟨br,0,none⟩))),(8,.val (.int .i64 i)),(9,.val fv),(10,.val (.bool true)),(11,.val vk),(12,.val vc),(15,.val j.2),(99,.val (.int .i64 i)),(100,.val (.int .i64 j.1))])
        (fun j w'=>j.1 ≤ i ∧ Ext w w' ∧ Rds w.heap.size w' br bc sl zs (hd + 4 * i + 4 * j.1) fv vk vc fl ks cs ∧ OwnI w.heap.size zrA .u32 w' j.2 (lyA (lvA p f) j.1)) (fun j=>i - j.1)
        (fun w5 e5=>⟨(0,nilS),⟨Nat.zero_le _,he.trans e5,hSb.ext e5,OwnI.nil⟩,(by repeat' (first | exact Sub.nil | refine Sub.val rfl (by first | with_reducible rfl | (congr 1;omega)) ?_ | refine Sub.same rfl ?_))⟩) ?_
      clear hSb he hti w2
      rintro ⟨t,vb⟩ w2 ⟨hti,he,hS,hvb⟩
      dsimp only at hti hS hvb ⊢
      by_cases htl:t < i
      · have hPt:=hPo t htl
        have hbt:=imA p f t
        have hbeg:lvA p f t=((H + (bdA (emA p f) t).length:Nat):Int):=by unfold lvA;rw [← hnn,← hH]
        have hPt':AtB zs (hd + 4 * i + 4 * t) (leS (lvA p f t) 4):=hPt
        have htn:=pxA (lvA p f) t
        have htl1:=jsA (lvA p f) t
        rw [hbeg] at hPt' htn
        obtain ⟨B0,hB0⟩:∃ B,B=H + (bdA (emA p f) t).length:=⟨_,rfl⟩
        rw [← hB0] at hPt' htn
        have hrr:=hS.rd.hr
        clear hPt hbeg
        repeat' (first|(refine oLA ?_;first|refine a0A rfl ?_|(refine oNc ?_;refine a8A rfl rfl ?_)|(refine oF 0 ?_;refine a1A (a':=⟨br,0,none⟩) rfl rfl (fun _=>rfl) ?_)|(refine oD 106 ?_;refine a5A (c:=.pointer (some ⟨bc,0,none⟩)) rfl (fun _=>rfl) rfl hrr rfl ?_)|(refine oD 107 ?_;refine a4A (hK _ _ (c3A rfl (Nat.le_of_ble_eq_true rfl) rfl rfl (fun v w'=>v=.int .u32 B0 ∧ RdI w.heap.size w' bc sl zs (hd + 4 * i + 4 * t + 4) ∧ w2.grownBy w' (some bc)) (fun w8 e8=>(l0A w8 w.heap.size bc sl zs _ B0 (hS.rd.rd.ext e8) hzy hPt' (by omega) (by omega)).mono fun en w' h=>⟨_,h.1,rfl,h.2.1,arA e8 h.2.2⟩) (fun vv wX hXX=>?_)));clear hK K;obtain ⟨rfl,hX1,hX2⟩:=hXX;dsimp only [LA.vals];have hSX:=hS.step hX1 hX2;have hvX:OwnI w.heap.size zrA .u32 wX vb (lyA (lvA p f) t):=hS.rd.own hX2 hvb (by decide);refine aeA (by kernel_rfl) (fun K hK=>?_))|(refine oD 108 ?_;refine iuA rfl waA rfl rfl ?_)|(refine oD 109 ?_;refine a4A (hK _ _ (btA rfl (Nat.le_of_ble_eq_true rfl) waA rfl hvX rfl HasC.pred (fun u hu=>by rw [List.mem_singleton] at hu;subst hu;rfl) (by unfold maxLen;omega) (by omega) (fun v' wu wv eu ho hfr hlc=>?_)));clear hK K;refine aeA (by kernel_rfl) (fun K hK=>?_))|refine wOp ?_|(refine wCm ?_ ?_<;>intro hc)|(refine wNl hK ?_;clear hK K))|refine wG ?_|(refine wCR ?_;intro K hK)|fail)
        all_goals skip
        have x1:=(evA he hX2 hbcw).trans eu
        have x3:Ext w wv:=Fr.ext x1 hfr (fun k hk=>(Own.lt hvX k hk).1)
        have hS3:=(hSX.ext eu).fr hfr (fun k hk=>by
          obtain ⟨cur,hcur⟩:=atA (hvX.ext eu) hk
          exact ⟨cur,_,_,hcur,⟨by decide,by decide,by decide⟩,by decide,by decide⟩)
        have hnew:OwnI w.heap.size zrA .u32 wv v' (lyA (lvA p f) (t + 1)):=by
          rw [htn]
          unfold OwnI;rw [List.map_append,List.length_append]
          exact Own.rebase ho (hlc.ge (fun k hk=>(Own.lt hvX k hk).1) x1.size)
        exact a6A (t + 1,v') (fun w5 e5=>⟨htl,x3.trans e5,by rw [show hd + 4 * i + 4 * (t + 1)=hd + 4 * i + 4 * t + 4 by omega];exact hS3.ext e5,OwnI.ext hnew e5⟩) (by dsimp only;omega) (by repeat' (first | exact Sub.nil | refine Sub.val rfl (by first | with_reducible rfl | (congr 1;omega)) ?_ | refine Sub.same rfl ?_))
      · obtain rfl:t=i:=by omega
        repeat' (first|(refine oLA ?_;first|refine a0A rfl ?_|refine wOp ?_|(refine wCm ?_ ?_<;>intro hc)|(refine wNl hK ?_;clear hK K))|refine wG ?_|(refine wCR ?_;intro K hK)|fail)
        all_goals skip
        exact a6A vb (fun w5 e5=>⟨he.trans e5,by rw [show H=hd + 4 * t + 4 * t by omega];exact hS.ext e5,fun _=>OwnI.ext hvb e5⟩) (by omega) (by repeat' (first | exact Sub.nil | refine Sub.val rfl (by first | with_reducible rfl | (congr 1;omega)) ?_ | refine Sub.same rfl ?_))
  clear hSb he hti w2 hO3 hO0 hhl hck
  rintro vb w2 ⟨he,hS,hvb⟩
  have hposr:∀ w' pos,Rds w.heap.size w' br bc sl zs pos fv vk vc fl ks cs → ∀ w'',Ext w' w'' → Fc Tryz.prog 55 #[.pointer (some ⟨bc,0,none⟩)] w'' (Ret w'' (.val (.int .i64 (pos:Nat)))):=fun w' pos hh w'' e=>at_c _ bc sl pos (e.block hh.rd.rd.2.1)
  repeat' (first|(refine oLA ?_;first|refine a0A rfl ?_|refine wOp ?_|(refine wCm ?_ ?_<;>intro hc)|(refine wNl hK ?_;clear hK K))|refine wG ?_|(refine wCR ?_;intro K hK)|fail)
  all_goals skip
  refine adA (ι:=Nat × Value) (fun j=>[(1,.val (.int .i64 at_)),(7,.val (.pointer (some ⟨br,0,none⟩))),(8,.val (.int .i64 i)),(9,.val fv),(10,.val (.bool O)),(11,.val vk),(12,.val vc),(15,.val vb),(16,.val j.2),(17,.val (.int .i64 j.1))])
    (fun j w'=>j.1 ≤ i ∧ Ext w w' ∧ Rds w.heap.size w' br bc sl zs (H + (bdA (emA p f) j.1).length) fv vk vc fl ks cs ∧ (O=true → OwnI w.heap.size zrA .u32 w' vb (lyA (lvA p f) i)) ∧ ∃ Q,KRow w.heap.size p j.1 w' j.2 Q) (fun j=>i - j.1)
    (fun w5 e5=>⟨(0,nilS),⟨Nat.zero_le _,he.trans e5,hS.ext e5,fun h=>(hvb h).ext e5,[],Own.nil,rfl,fun i hi=>absurd hi (Nat.not_lt_zero _)⟩,(by repeat' (first | exact Sub.nil | refine Sub.val rfl (by first | with_reducible rfl | (congr 1;omega)) ?_ | refine Sub.same rfl ?_))⟩) ?_
  clear hS he hvb w2
  rintro ⟨t,u⟩ w2 ⟨hti,he,hS,hvb,Q,hQ⟩
  dsimp only at hti hS hvb hQ ⊢
  have hrr:=hS.rd.hr
  have hbt:=imA p f t
  by_cases htl:t < i
  · have hPt:=P4 t htl
    obtain ⟨-,d3,d4,d5⟩:=hD t htl
    have hfg:=hflag t htl
    have hf0':=hf0 (by omega)
    have hbeg:lvA p f t=((H + (bdA (emA p f) t).length:Nat):Int):=by unfold lvA;rw [← hnn,← hH]
    have hbg:(lyA (lvA p f) i).getD t 0=lvA p f t:=neA htl
    have htl1:=jsA (lvA p f) i
    have hcat:H + (bdA (emA p f) (t + 1)).length=H + (bdA (emA p f) t).length + (emA p f t).length:=by
      show H + (_ ++ emA p f t).length=_;rw [List.length_append];omega
    have hble:=mvA (blk p (kp p t)) (f t)
    have hone:∀ w',Ext w2 w' → Fc Tryz.prog 56 #[.pointer (some ⟨br,0,none⟩),.int .i64 (cnt (blk p (kp p t)) 65536:Nat),.bool (f t)] w' (fun en w''=>∃ v,en=.returned v ∧ (∃ kk,Cn TT w'' v (blk p (kp p t)) kk) ∧ Rdr w.heap.size w'' br bc sl zs (H + (bdA (emA p f) t).length + (emA p f t).length) 0 ∧ w'.grownBy w'' (some bc)):=fun w' e=>one_r (hS.rd.ext e) (f t) hPt d3 (ysA _ _)
    rw [hbeg] at hbg
    obtain ⟨C0,hC0⟩:∃ c,c=cnt (blk p (kp p t)) 65536:=⟨_,rfl⟩
    obtain ⟨q,hq⟩:∃ q,q=blk p (kp p t):=⟨_,rfl⟩
    obtain ⟨P0,hP0⟩:∃ c,c=H + (bdA (emA p f) t).length:=⟨_,rfl⟩
    obtain ⟨D0,hD0⟩:∃ c,c=(emA p f t).length:=⟨_,rfl⟩
    rw [← hC0,← hP0,← hD0,← hq] at hone
    rw [← hP0] at hS hbg hcat
    rw [← hD0] at hcat
    rw [← hC0] at d3 d4 d5
    have hqs:deA (blk p (kp p t)) (f t)=emA p f t:=rfl
    rw [hqs,← hD0] at hble
    obtain ⟨F,hF⟩:∃ F,F=(fB f i:Int):=⟨_,rfl⟩
    rw [← hF] at hf0' hfg
    obtain ⟨bs,hbs⟩:∃ bs,bs=lyA (lvA p f) i:=⟨_,rfl⟩
    rw [← hbs] at hbg htl1 hvb
    obtain ⟨ft,hft⟩:∃ b,b=f t:=⟨_,rfl⟩
    rw [← hft] at hone hfg
    have hP0b:P0 ≤ 2000000000:=by omega
    clear hPt hbeg hC0 hD0 hqs hF hft hP0
    have hQ1:=hQ.1
    have hat:=hposr w2 P0 hS
    cases O with
    | false =>
      repeat' (first|(refine oLA ?_;first|refine wBk ?_|(refine oNc ?_;refine a8A rfl rfl ?_)|(refine oF 0 ?_;refine a1A (a':=⟨br,0,none⟩) rfl rfl (fun _=>rfl) ?_)|(refine oF 1 ?_;refine a1A (a':=⟨br,1,none⟩) rfl rfl (fun _=>rfl) ?_)|(refine oD 118 ?_;refine a5A (c:=.int .i64 0) rfl (fun _=>rfl) rfl hrr rfl ?_)|(refine oD 135 ?_;refine a5A (c:=.pointer (some ⟨bc,0,none⟩)) rfl (fun _=>rfl) rfl hrr rfl ?_)|(refine oD 145 ?_;refine acA rfl _ rfl (fun _=>rfl) rfl (HasI.ownV hS.c) rfl (by omega) ?_;rw [d5])|(refine oD 149 ?_;refine duA rfl rfl rfl (by omega) (by omega) (by dsimp only [fits];omega) ?_;rw [show (t:Int) / 8=((0:Nat):Int) by omega])|(refine oD 150 ?_;refine acA rfl _ rfl (fun _=>rfl) rfl (HasI.ownV hS.f) rfl (by omega) ?_;rw [hf0'])|(refine oD 153 ?_;refine f8A rfl rfl rfl (by omega) (by omega) (by dsimp only [fits];omega) ?_;rw [show (t:Int) % 8=((t:Nat):Int) by omega])|(refine oD 154 ?_;refine hyA rfl rfl rfl ?_)|(refine oD 155 ?_;refine bzA (.inl rfl) rfl rfl rfl ?_;rw [hfg])|(refine oD 156 ?_;refine bpA (c:=.bool ft) rfl rfl rfl (fun _=>by cases ft <;> rfl) ?_)|refine wOp ?_|(refine wCm ?_ ?_<;>intro hc)|(refine oCv ?_;first|(refine oC 55 ?_;refine a2A (f:=55) rfl rfl rfl  (.val (.int .i64 (P0:Nat))) (by intro u1 w e hu1;(try obtain rfl:u1=_:=hu1);exact hat _ e) ?_)|(refine oC 53 ?_;refine a3A (f:=53) rfl rfl rfl rfl  (.val (.bool true)) (by intro u1 u2 w e hu1 hu2;(try obtain rfl:u1=_:=hu1);(try obtain rfl:u2=_:=hu2);exact e2A (hS.rd.ext e)) ?_))|(refine wNl hK ?_;clear hK K))|(refine oCX ?_;first|refine ajA (id:=29) [16,18] (by kernel_rfl) (by kernel_rfl) (by kernel_rfl) (a7A ?_))|refine wG ?_|(refine wCR ?_;intro K hK)|refine wPh ?_|fail)
      all_goals skip
      refine ooA (v3:=undef) (f:=56) rfl rfl rfl rfl rfl (fun w' v w''=>∃ qd:Qd,v=qv qd ∧ (∀ u ∈ qcs qd,u.oneCell'=true) ∧ (∃ kk,Cn TT w'' (qv qd) q kk) ∧ Rdr w.heap.size w'' br bc sl zs (P0 + D0) 0 ∧ w'.grownBy w'' (some bc)) (fun u3 w1 e1 hu3=>?_) (fun v3 w3 w4 e3 hR=>⟨_,fun t u _ hu=>bbA t u hu,a7A ?_⟩)
      · obtain rfl:u3=.bool ft:=hu3
        refine (hone w1 e1).mono (fun en w' ⟨v,g1,⟨kk,g2⟩,g3,g4⟩=>?_)
        obtain ⟨qd,rfl,h1⟩:=g2.qd
        exact ⟨_,g1,qd,rfl,h1,⟨kk,g2⟩,g3,g4⟩
      obtain ⟨qd,rfl,honec,⟨kk,hcn⟩,hR4,hG4⟩:=hR
      have hS4:=(hS.ext e3).go hR4 hG4
      have hQ4:=(hQ.ext e3).fr (Fr.grown hG4) (fun k hk=>by
        obtain ⟨cur,hcur⟩:=(hS.rd.ext e3).bcAt k hk
        exact ⟨cur,_,hcur,by decide,by decide,by decide,by decide⟩)
      have hv4:=fun h=>(hS.rd.ext e3).own hG4 (Own.ext (hvb h) e3) (by decide)
      have x4:=evA (he.trans e3) hG4 hbcw
      clear hS hQ hR4 hG4 hone hrr hQ1 hat
      repeat' (first|(refine oLA ?_;first|refine wBk ?_|(refine oD 145 ?_;refine acA rfl _ rfl (fun _=>rfl) rfl (HasI.ownV hS4.c) rfl (by omega) ?_;rw [d5])|(refine oD 149 ?_;refine duA rfl rfl rfl (by omega) (by omega) (by dsimp only [fits];omega) ?_;rw [show (t:Int) / 8=((0:Nat):Int) by omega])|(refine oD 150 ?_;refine acA rfl _ rfl (fun _=>rfl) rfl (HasI.ownV hS4.f) rfl (by omega) ?_;rw [hf0'])|(refine oD 153 ?_;refine f8A rfl rfl rfl (by omega) (by omega) (by dsimp only [fits];omega) ?_;rw [show (t:Int) % 8=((t:Nat):Int) by omega])|(refine oD 154 ?_;refine hyA rfl rfl rfl ?_)|(refine oD 155 ?_;refine bzA (.inl rfl) rfl rfl rfl ?_;rw [hfg])|(refine oD 156 ?_;refine bpA (c:=.bool ft) rfl rfl rfl (fun _=>by cases ft <;> rfl) ?_)|(refine oD 158 ?_;refine daA (base:=w4.heap.size) (Nat.le_refl _) rfl dbA rfl (fun v w e h=>by obtain rfl:v=_:=h;exact Cn.ext hcn e) ?_)|refine wOp ?_|(refine wCm ?_ ?_<;>intro hc)|(refine wNl hK ?_;clear hK K))|refine wG ?_|(refine wCR ?_;intro K hK)|refine wPh ?_|fail)
      all_goals skip
      refine gaA 158 rfl (by decide) rfl (fun v158 w5 e5 h158=>?_)
      obtain ⟨qc,r1,r2,r3⟩:=h158
      refine cqA rfl dbA rfl (hQ4.1.ext e5) rfl (HasC.ownV r1) r3 (by unfold maxLen;omega) (by omega) (fun v' w6 w7 e6 ho hf hl=>⟨_,fun t u _ hu=>bbA t u hu,aiA ?_⟩)
      have hS6:Rds w.heap.size w7 br bc sl zs (P0 + D0) fv vk vc fl ks cs:=(hS4.ext (e5.trans e6)).fr hf (fun k hk=>by
        obtain ⟨cur,hcur⟩:=atA (hQ4.1.ext (e5.trans e6)) hk
        exact ⟨cur,_,_,hcur,⟨by decide,by decide,by decide⟩,by decide,by decide⟩)
      repeat' (first|(refine oLA ?_;first|refine wBk ?_|(refine oD 145 ?_;refine acA rfl _ rfl (fun _=>rfl) rfl (HasI.ownV hS6.c) rfl (by omega) ?_;rw [d5])|(refine oD 149 ?_;refine duA rfl rfl rfl (by omega) (by omega) (by dsimp only [fits];omega) ?_;rw [show (t:Int) / 8=((0:Nat):Int) by omega])|(refine oD 150 ?_;refine acA rfl _ rfl (fun _=>rfl) rfl (HasI.ownV hS6.f) rfl (by omega) ?_;rw [hf0'])|(refine oD 153 ?_;refine f8A rfl rfl rfl (by omega) (by omega) (by dsimp only [fits];omega) ?_;rw [show (t:Int) % 8=((t:Nat):Int) by omega])|(refine oD 154 ?_;refine hyA rfl rfl rfl ?_)|(refine oD 155 ?_;refine bzA (.inl rfl) rfl rfl rfl ?_;rw [hfg])|(refine oD 156 ?_;refine bpA (c:=.bool ft) rfl rfl rfl (fun _=>by cases ft <;> rfl) ?_)|refine wOp ?_|(refine wCm ?_ ?_<;>intro hc)|(refine wNl hK ?_;clear hK K))|refine wG ?_|(refine wCR ?_;intro K hK)|refine wPh ?_|fail)
      all_goals skip
      have x6:=e5.trans e6
      have hRu:∀ k,u.ownBlock=some k → ∃ cur,w6.heap[k]?=some (.cells cur tC (0,0)):=fun k hk=>atA (hQ4.1.ext x6) hk
      have hS7:=(hS4.ext x6).fr hf (fun k hk=>by
        obtain ⟨cur,hcur⟩:=hRu k hk
        exact ⟨cur,_,_,hcur,⟨by decide,by decide,by decide⟩,by decide,by decide⟩)
      have hv7:=fun h=>ecA (Own.ext (hv4 h) x6) hf (fun k hk=>by
        obtain ⟨cur,hcur⟩:=hRu k hk
        exact ⟨cur,_,_,hcur,by decide⟩)
      have hQ7:=(hQ4.ext x6).snoc (qc:=qc) ⟨kk,by rw [← hq];exact Cn.ext r2 e6⟩ ho hf hl (x4.trans x6).size
      have x7:Ext w w7:=Fr.ext (x4.trans x6) hf (fun k hk=>(Own.lt hQ4.1 k hk).1)
      exact a6A (t + 1,v') (fun w8 e8=>⟨htl,x7.trans e8,by dsimp only;rw [hcat];exact hS7.ext e8,fun h=>by rw [← hbs];exact Own.ext (hv7 h) e8,_,hQ7.ext e8⟩) (by dsimp only;omega) (by repeat' (first | exact Sub.nil | refine Sub.val rfl (by first | with_reducible rfl | (congr 1;omega)) ?_ | refine Sub.same rfl ?_))
    | true =>
      have hvb':=hvb rfl
      repeat' (first|(refine oLA ?_;first|refine wBk ?_|(refine oNc ?_;refine a8A rfl rfl ?_)|(refine oF 0 ?_;refine a1A (a':=⟨br,0,none⟩) rfl rfl (fun _=>rfl) ?_)|(refine oF 1 ?_;refine a1A (a':=⟨br,1,none⟩) rfl rfl (fun _=>rfl) ?_)|(refine oD 118 ?_;refine a5A (c:=.int .i64 0) rfl (fun _=>rfl) rfl hrr rfl ?_)|(refine oD 135 ?_;refine a5A (c:=.pointer (some ⟨bc,0,none⟩)) rfl (fun _=>rfl) rfl hrr rfl ?_)|(refine oD 145 ?_;refine acA rfl _ rfl (fun _=>rfl) rfl (HasI.ownV hS.c) rfl (by omega) ?_;rw [d5])|(refine oD 149 ?_;refine duA rfl rfl rfl (by omega) (by omega) (by dsimp only [fits];omega) ?_;rw [show (t:Int) / 8=((0:Nat):Int) by omega])|(refine oD 150 ?_;refine acA rfl _ rfl (fun _=>rfl) rfl (HasI.ownV hS.f) rfl (by omega) ?_;rw [hf0'])|(refine oD 153 ?_;refine f8A rfl rfl rfl (by omega) (by omega) (by dsimp only [fits];omega) ?_;rw [show (t:Int) % 8=((t:Nat):Int) by omega])|(refine oD 154 ?_;refine hyA rfl rfl rfl ?_)|(refine oD 155 ?_;refine bzA (.inl rfl) rfl rfl rfl ?_;rw [hfg])|(refine oD 156 ?_;refine bpA (c:=.bool ft) rfl rfl rfl (fun _=>by cases ft <;> rfl) ?_)|(refine oD 129 ?_;refine acA rfl _ rfl (fun _=>rfl) rfl (HasI.ownV hvb') rfl (by omega) ?_;rw [hbg])|refine wOp ?_|(refine wCm ?_ ?_<;>intro hc)|(refine oCv ?_;first|(refine oC 55 ?_;refine a2A (f:=55) rfl rfl rfl  (.val (.int .i64 (P0:Nat))) (by intro u1 w e hu1;(try obtain rfl:u1=_:=hu1);exact hat _ e) ?_)|(refine oC 53 ?_;refine a3A (f:=53) rfl rfl rfl rfl  (.val (.bool true)) (by intro u1 u2 w e hu1 hu2;(try obtain rfl:u1=_:=hu1);(try obtain rfl:u2=_:=hu2);exact e2A (hS.rd.ext e)) ?_))|(refine wNl hK ?_;clear hK K))|(refine oCX ?_;first|refine ajA (id:=29) [16,18] (by kernel_rfl) (by kernel_rfl) (by kernel_rfl) (a7A ?_))|refine wG ?_|(refine wCR ?_;intro K hK)|refine wPh ?_|fail)
      all_goals skip
      refine ooA (v3:=undef) (f:=56) rfl rfl rfl rfl rfl (fun w' v w''=>∃ qd:Qd,v=qv qd ∧ (∀ u ∈ qcs qd,u.oneCell'=true) ∧ (∃ kk,Cn TT w'' (qv qd) q kk) ∧ Rdr w.heap.size w'' br bc sl zs (P0 + D0) 0 ∧ w'.grownBy w'' (some bc)) (fun u3 w1 e1 hu3=>?_) (fun v3 w3 w4 e3 hR=>⟨_,fun t u _ hu=>bbA t u hu,a7A ?_⟩)
      · obtain rfl:u3=.bool ft:=hu3
        refine (hone w1 e1).mono (fun en w' ⟨v,g1,⟨kk,g2⟩,g3,g4⟩=>?_)
        obtain ⟨qd,rfl,h1⟩:=g2.qd
        exact ⟨_,g1,qd,rfl,h1,⟨kk,g2⟩,g3,g4⟩
      obtain ⟨qd,rfl,honec,⟨kk,hcn⟩,hR4,hG4⟩:=hR
      have hS4:=(hS.ext e3).go hR4 hG4
      have hQ4:=(hQ.ext e3).fr (Fr.grown hG4) (fun k hk=>by
        obtain ⟨cur,hcur⟩:=(hS.rd.ext e3).bcAt k hk
        exact ⟨cur,_,hcur,by decide,by decide,by decide,by decide⟩)
      have hv4:=fun h=>(hS.rd.ext e3).own hG4 (Own.ext (hvb h) e3) (by decide)
      have x4:=evA (he.trans e3) hG4 hbcw
      clear hS hQ hR4 hG4 hone hrr hQ1 hat
      repeat' (first|(refine oLA ?_;first|refine wBk ?_|(refine oD 145 ?_;refine acA rfl _ rfl (fun _=>rfl) rfl (HasI.ownV hS4.c) rfl (by omega) ?_;rw [d5])|(refine oD 149 ?_;refine duA rfl rfl rfl (by omega) (by omega) (by dsimp only [fits];omega) ?_;rw [show (t:Int) / 8=((0:Nat):Int) by omega])|(refine oD 150 ?_;refine acA rfl _ rfl (fun _=>rfl) rfl (HasI.ownV hS4.f) rfl (by omega) ?_;rw [hf0'])|(refine oD 153 ?_;refine f8A rfl rfl rfl (by omega) (by omega) (by dsimp only [fits];omega) ?_;rw [show (t:Int) % 8=((t:Nat):Int) by omega])|(refine oD 154 ?_;refine hyA rfl rfl rfl ?_)|(refine oD 155 ?_;refine bzA (.inl rfl) rfl rfl rfl ?_;rw [hfg])|(refine oD 156 ?_;refine bpA (c:=.bool ft) rfl rfl rfl (fun _=>by cases ft <;> rfl) ?_)|(refine oD 158 ?_;refine daA (base:=w4.heap.size) (Nat.le_refl _) rfl dbA rfl (fun v w e h=>by obtain rfl:v=_:=h;exact Cn.ext hcn e) ?_)|refine wOp ?_|(refine wCm ?_ ?_<;>intro hc)|(refine wNl hK ?_;clear hK K))|refine wG ?_|(refine wCR ?_;intro K hK)|refine wPh ?_|fail)
      all_goals skip
      refine gaA 158 rfl (by decide) rfl (fun v158 w5 e5 h158=>?_)
      obtain ⟨qc,r1,r2,r3⟩:=h158
      refine cqA rfl dbA rfl (hQ4.1.ext e5) rfl (HasC.ownV r1) r3 (by unfold maxLen;omega) (by omega) (fun v' w6 w7 e6 ho hf hl=>⟨_,fun t u _ hu=>bbA t u hu,aiA ?_⟩)
      have hS6:Rds w.heap.size w7 br bc sl zs (P0 + D0) fv vk vc fl ks cs:=(hS4.ext (e5.trans e6)).fr hf (fun k hk=>by
        obtain ⟨cur,hcur⟩:=atA (hQ4.1.ext (e5.trans e6)) hk
        exact ⟨cur,_,_,hcur,⟨by decide,by decide,by decide⟩,by decide,by decide⟩)
      repeat' (first|(refine oLA ?_;first|refine wBk ?_|(refine oD 145 ?_;refine acA rfl _ rfl (fun _=>rfl) rfl (HasI.ownV hS6.c) rfl (by omega) ?_;rw [d5])|(refine oD 149 ?_;refine duA rfl rfl rfl (by omega) (by omega) (by dsimp only [fits];omega) ?_;rw [show (t:Int) / 8=((0:Nat):Int) by omega])|(refine oD 150 ?_;refine acA rfl _ rfl (fun _=>rfl) rfl (HasI.ownV hS6.f) rfl (by omega) ?_;rw [hf0'])|(refine oD 153 ?_;refine f8A rfl rfl rfl (by omega) (by omega) (by dsimp only [fits];omega) ?_;rw [show (t:Int) % 8=((t:Nat):Int) by omega])|(refine oD 154 ?_;refine hyA rfl rfl rfl ?_)|(refine oD 155 ?_;refine bzA (.inl rfl) rfl rfl rfl ?_;rw [hfg])|(refine oD 156 ?_;refine bpA (c:=.bool ft) rfl rfl rfl (fun _=>by cases ft <;> rfl) ?_)|refine wOp ?_|(refine wCm ?_ ?_<;>intro hc)|(refine wNl hK ?_;clear hK K))|refine wG ?_|(refine wCR ?_;intro K hK)|refine wPh ?_|fail)
      all_goals skip
      have x6:=e5.trans e6
      have hRu:∀ k,u.ownBlock=some k → ∃ cur,w6.heap[k]?=some (.cells cur tC (0,0)):=fun k hk=>atA (hQ4.1.ext x6) hk
      have hS7:=(hS4.ext x6).fr hf (fun k hk=>by
        obtain ⟨cur,hcur⟩:=hRu k hk
        exact ⟨cur,_,_,hcur,⟨by decide,by decide,by decide⟩,by decide,by decide⟩)
      have hv7:=fun h=>ecA (Own.ext (hv4 h) x6) hf (fun k hk=>by
        obtain ⟨cur,hcur⟩:=hRu k hk
        exact ⟨cur,_,_,hcur,by decide⟩)
      have hQ7:=(hQ4.ext x6).snoc (qc:=qc) ⟨kk,by rw [← hq];exact Cn.ext r2 e6⟩ ho hf hl (x4.trans x6).size
      have x7:Ext w w7:=Fr.ext (x4.trans x6) hf (fun k hk=>(Own.lt hQ4.1 k hk).1)
      exact a6A (t + 1,v') (fun w8 e8=>⟨htl,x7.trans e8,by dsimp only;rw [hcat];exact hS7.ext e8,fun h=>by rw [← hbs];exact Own.ext (hv7 h) e8,_,hQ7.ext e8⟩) (by dsimp only;omega) (by repeat' (first | exact Sub.nil | refine Sub.val rfl (by first | with_reducible rfl | (congr 1;omega)) ?_ | refine Sub.same rfl ?_))
  obtain rfl:t=i:=by omega
  obtain ⟨kks,hkks⟩:=hQ.kinds
  have hjn:∀ w',Ext w2 w' → Fc Tryz.prog 57 #[vk,u] w' (Ret w' (.tup2 (.pred (rsP TT TT p)) (.val (.int .i64 0)))):=fun w' e=>by
    have:=ajB (d:=true) (kn:=kp p) (qs:=fun i=>blk p (kp p i)) (kks:=kks) (OwnI.slI (hS.k.ext e)) (Own.slC (hQ.1.ext e)) hkl hQ.2.1 (hT.ext (he.trans e)) (fun i hi=>(hD i hi).1) (fun i hi=>(hkks i hi).ext e) (fun i _ j hj=>ehA (by omega)) (by omega) ⟨fun _=>by rw [hnn];exact rhA p,fun _=>rfl⟩
    rw [hnn,tyA htop] at this
    exact this
  obtain ⟨P0,hP0⟩:∃ c,c=H + (bdA (emA p f) t).length:=⟨_,rfl⟩
  rw [← hP0] at hS
  have hat:=hposr w2 P0 hS
  clear hkks P4 hD hflag
  repeat' (first|(refine oLA ?_;first|refine a0A rfl ?_|(refine oNc ?_;refine a8A rfl rfl ?_)|(refine oF 0 ?_;refine a1A (a':=⟨br,0,none⟩) rfl rfl (fun _=>rfl) ?_)|(refine oF 1 ?_;refine a1A (a':=⟨br,1,none⟩) rfl rfl (fun _=>rfl) ?_)|(refine oD 163 ?_;refine a5A (c:=.int .i64 0) rfl (fun _=>rfl) rfl hrr rfl ?_)|(refine oD 180 ?_;refine a5A (c:=.pointer (some ⟨bc,0,none⟩)) rfl (fun _=>rfl) rfl hrr rfl ?_)|(refine oD 182 ?_;refine avA rfl rfl rfl (by dsimp only [fits];omega) ?_;rw [show (at_:Int) + (P0:Int)=((at_ + L:Nat):Int) by omega])|refine wOp ?_|(refine wCm ?_ ?_<;>intro hc)|(refine oCv ?_;first|(refine oC 57 ?_;refine a3A (f:=57) rfl rfl rfl rfl  (.tup2 (.pred (rsP TT TT p)) (.val (.int .i64 0))) (by intro u1 u2 w e hu1 hu2;(try obtain rfl:u1=_:=hu1);(try obtain rfl:u2=_:=hu2);exact hjn _ e) ?_)|(refine oC 55 ?_;refine a2A (f:=55) rfl rfl rfl  (.val (.int .i64 (P0:Nat))) (by intro u1 w e hu1;(try obtain rfl:u1=_:=hu1);exact hat _ e) ?_))|(refine wNl hK ?_;clear hK K))|refine wG ?_|(refine wCR ?_;intro K hK)|fail)
  all_goals skip
  refine gyA rfl (fun v5 v6 v8 w5 e5 h5 h6 h8=>?_)
  exact ⟨_,rfl,he.trans e5,v5,v6,v8,rfl,h5,h6,h8⟩
end Go.Proofs.YtbokphkfojijoaaGreatDoor.Pt
end
section
set_option linter.unusedSimpArgs false
set_option linter.unusedVariables false
namespace Go.LA
open Go.RowKit
section
variable {P:Program} {l:List Oper} {N:Nn} {wb:World} {K:List Oper → Env → Prop} {rest:List Oper} {E:Env} {Q:Exit → Act → World → Prop}
variable {d:Tmp} {ty t t':TypeId} {pos:String} {after:Array Edge} {g:Option (Nat × Bool)} {x y z:Operand} {k k':IntKind}
theorem t8A {w:World} {v:Value} {xs:List Int} {src dst e:TypeId} (h:SlI .u8 w v xs) (hs:P.underlying src=some (.slice e)) (he:P.underlying e=some (.int .u8)) (hd:P.underlying dst=some .string) :
    (convert src dst v).run P w=.ok (.string (strOfNums xs)) w:=by
  obtain ⟨h0,a,cap,rfl,hc,hm,hn,hcs⟩:=h
  cases a with
  | none =>
    obtain rfl:=hn rfl
    obtain rfl:xs=[]:=List.eq_nil_of_length_eq_zero (by omega)
    exact run_convert_bytes_nil w src e hs he _ _ dst hd
  | some a =>
    rcases hcs with h1 | ⟨b,off,ha,hcell⟩
    · obtain rfl:xs=[]:=List.eq_nil_of_length_eq_zero h1
      rw [List.length_nil,run_convert_bytes_string w src dst e _ _ cap hs he hd,run_bytesToString w a 0 cap [] (by rfl),foldl_push_bytes]
      rfl
    · obtain rfl:=Option.some.inj ha
      exact run_convert_bytes_arg w src e hs he b off _ cap xs rfl (fun i hi=>hcell i _ (by simp [List.getD,List.getElem?_eq_getElem hi])) dst hd
theorem n5A {src dst e:TypeId} {r:AD} {xs:List Int} (hg:baA l E g=some true) (hs:P.underlying src=some (.slice e)) (he:P.underlying e=some (.int .u8)) (hd:P.underlying dst=some .string) (hr:opE E x=r) (hx:HasI wb r .u8 xs)
    (h:LA P l wb K rest ((d,.val (.string (strOfNums xs))) :: E)):LA P l wb K (⟨some d,.convert src dst x,ty,pos,after,g⟩ :: rest) E :=
  b2A _ hg (biA fun a w he' hh=>by
    have e1:=hh x (by simp [Op.operands])
    rw [hr] at e1
    have:=t8A (P:=P) (hx _ _ he' e1) hs he hd
    simp only [execOp,Sem.run_bind,this,Result.andThen_ok,Sem.run_pure]) h
theorem v3A {a b:ByteArray} (hg:baA l E g=some true) (ht:P.underlying t=some .string) (hx:opE E x=.val (.string a)) (hy:opE E y=.val (.string b)) (h:LA P l wb K rest ((d,.val (.bool (a.toList == b.toList))) :: E)) :
    LA P l wb K (⟨some d,.binOp .eql t x y t',ty,pos,after,g⟩ :: rest) E :=
  bpA hg hx hy (fun w=>by simp [eqGuard,binOp,Op.equal,Op.stringOp,run_underlying ht]) h
theorem sgA {a b:ByteArray} (hg:baA l E g=some true) (ht:P.underlying t=some .string) (hx:opE E x=.val (.string a)) (hy:opE E y=.val (.string b)) (hab:a=b) (h:LA P l wb K rest ((d,.val (.bool true)) :: E)) :
    LA P l wb K (⟨some d,.binOp .eql t x y t',ty,pos,after,g⟩ :: rest) E :=
  v3A hg ht hx hy (by subst hab;simpa using h)
theorem lrA {a b:ByteArray} (hg:baA l E g=some true) (ht:P.underlying t=some .string) (hx:opE E x=.val (.string a)) (hy:opE E y=.val (.string b)) (hab:a=b) (h:LA P l wb K rest ((d,.val (.bool false)) :: E)) :
    LA P l wb K (⟨some d,.binOp .neq t x y t',ty,pos,after,g⟩ :: rest) E :=
  bpA (c:=.bool false) hg hx hy (fun w=>by subst hab;simp [eqGuard,binOp,Op.equal,Op.stringOp,run_underlying ht]) h
end
end Go.LA
end
section
set_option linter.unusedSimpArgs false
set_option linter.unusedVariables false
set_option maxRecDepth 3000
namespace Go.Proofs.YtbokphkfojijoaaGreatDoor.Pt
open Go.LA Go.ArrP Go.RowKit
theorem mgA {p:Nat → Bool} (h:nk p ≤ 8):(ccA p).length ≤ 1100000:=by
  unfold ccA
  rw [mfA h]
  have h1:=imA p (c5A p) (nk p)
  have h2:dhA (nk p) (e6A (c5A p) (nk p)) ≤ 1000:=by
    unfold dhA;split
    · split <;> omega
    · omega
  omega
theorem u0A {p:Nat → Bool} (h:nk p ≤ 8):0 < (ccA p).length:=by
  unfold ccA
  rw [mfA h]
  have h2:0 < dhA (nk p) (e6A (c5A p) (nk p)):=by
    unfold dhA;split
    · split <;> omega
    · omega
  omega
theorem eqA {ps:Nat → Nat → Bool} (h:∀ i,nk (ps i) ≤ 8) (n:Nat):(bdA (fun i=>ccA (ps i)) n).length ≤ n * 1100000:=muA n (fun i _=>mgA (h i))
theorem gkA {ps:Nat → Nat → Bool} (h:∀ i,nk (ps i) ≤ 8) (n:Nat):∀ x ∈ bdA (fun i=>ccA (ps i)) n,0 ≤ x ∧ x < 256:=fun x hx=>by
  obtain ⟨i,-,h2⟩:=gjA n hx
  exact tzA (h i) x h2
theorem klA {ps:Nat → Nat → Bool} {i m:Nat} (h:i < m):AtB (bdA (fun i=>ccA (ps i)) m) (bdA (fun i=>ccA (ps i)) i).length (ccA (ps i)):=by
  have h1:AtB (bdA (fun i=>ccA (ps i)) m) 0 (bdA (fun i=>ccA (ps i)) m):=⟨[],[],by simp,rfl⟩
  have:=h1.cat h
  rw [Nat.zero_add] at this;exact this
theorem ykA {ps:Nat → Nat → Bool} (h:∀ i,nk (ps i) ≤ 8) (n:Nat):(bdA (fun i=>ccA (ps i)) n).length < (bdA (fun i=>ccA (ps i)) (n + 1)).length:=by
  show _ < (_ ++ ccA (ps n)).length
  rw [List.length_append]
  have:=u0A (h n)
  omega
theorem u1A {w:World} {v:Value} {n:Nat} {ps:Nat → Nat → Bool} (h:NIX tIv n ps w v) (hn:n ≤ 100) (h8:∀ i,nk (ps i) ≤ 8) (hT:Tab w):Fc Tryz.prog 22 #[v] w (Ret w (.pred (bfA w.heap.size tB .u8 (bdA (fun i=>ccA (ps i)) n)))):=by
  rcases h with ⟨rfl,rfl⟩ | ⟨b,sv,ptrs,rfl,hb,hs⟩
  · exact (iby_0 (ps:=ps) (.inl ⟨rfl,rfl⟩)).mono (fun en w' ⟨v',g1,g2,g3⟩=>⟨v',g1,g2,by obtain rfl:v'=nilS:=g3;exact OwnI.nil⟩)
  have hlen:∀ w',Ext w w' → Fc Tryz.prog 29 #[.pointer (some ⟨b,0,none⟩)] w' (Ret w' (.val (.int .i64 n))):=fun w' e=>raA (ps:=ps) (.inr ⟨b,sv,ptrs,rfl,e.block hb,hs.ext e⟩)
  refine Fc.of (args:=[_]) Tryz.func22 rfl rfl Tryz.ntmps22 (Nat.le_of_ble_eq_true rfl) ?_
  repeat' (first|(refine oLA ?_;first|refine a0A rfl ?_|refine wOp ?_|(refine wCm ?_ ?_<;>intro hc)|(refine oCv ?_;first|(refine oC 29 ?_;refine a2A (f:=29) rfl rfl rfl  (.val (.int .i64 n)) (by intro u1 w e hu1;(try obtain rfl:u1=_:=hu1);exact hlen _ e) ?_))|(refine wNl hK ?_;clear hK K))|refine wG ?_|(refine wCR ?_;intro K hK)|fail)
  all_goals skip
  refine adA (ι:=Nat × Value) (fun j=>[(0,.val (.pointer (some ⟨b,0,none⟩))),(3,.val j.2),(6,.val (.int .i64 n)),(7,.val (.int .i64 j.1))])
    (fun j w'=>Ext w w' ∧ j.1 ≤ n ∧ OwnI w.heap.size tB .u8 w' j.2 (bdA (fun i=>ccA (ps i)) j.1)) (fun j=>n - j.1)
    (fun w2 e2=>⟨(0,nilS),⟨e2,Nat.zero_le _,OwnI.nil⟩,(by repeat' (first | exact Sub.nil | refine Sub.val rfl (by first | with_reducible rfl | (congr 1;omega)) ?_ | refine Sub.same rfl ?_))⟩) ?_
  rintro ⟨i,vb⟩ w1 ⟨he,hi,hB⟩
  dsimp only at hi hB ⊢
  have hb1:=he.block hb
  have hs1:=hs.ext he
  by_cases hil:i < n
  · have hwr:∀ w',Ext w1 w' → Fc Tryz.prog 18 #[ptrs.getD i undef] w' (Ret w' (.pred (bfA w.heap.size tB .u8 (ccA (ps i))))):=fun w' e=>(pmA (.inr ((hs1.at_ i hil).ext e)) (h8 i) (hT.ext (he.trans e))).mono (aaA (he.trans e).size)
    have hl1:=eqA h8 i
    have hl2:=mgA (h8 i)
    have hcat:bdA (fun i=>ccA (ps i)) (i + 1)=bdA (fun i=>ccA (ps i)) i ++ ccA (ps i):=rfl
    obtain ⟨B,hBB⟩:∃ B,B=bdA (fun i=>ccA (ps i)) i:=⟨_,rfl⟩
    obtain ⟨D,hD⟩:∃ D,D=ccA (ps i):=⟨_,rfl⟩
    rw [← hBB] at hB hcat hl1
    rw [← hD] at hwr hcat hl2
    repeat' (first|(refine oLA ?_;first|refine a0A rfl ?_|refine a8A rfl rfl ?_|refine a1A (a':=⟨b,0,none⟩) rfl rfl (fun _=>rfl) ?_|(refine oD 14 ?_;refine a5A (c:=sv) rfl (fun _=>rfl) rfl hb1 rfl ?_)|(refine oD 16 ?_;refine e0A rfl _ rfl (fun _=>rfl) rfl (HasC.ownV hs1.own) rfl i rfl hil hs1.own.lenV ?_)|(refine oD 19 ?_;refine a4A (hK _ _ (b8A 18 rfl (fun vd wd ed hd=>?_)));clear hK K;replace hd:OwnI w.heap.size tB .u8 wd vd D:=hd;have hBd:=hB.ext ed;refine btA rfl (by decide) jqA rfl hBd rfl (HasI.ownV hd).c e5A (by unfold maxLen;omega) (by omega) (fun v' wu wv eu ho hfr hlc=>?_);refine aeA (by kernel_rfl) (fun K hK=>?_))|refine wOp ?_|(refine wCm ?_ ?_<;>intro hc)|(refine oCv ?_;first|(refine oC 18 ?_;refine a2A (f:=18) rfl rfl rfl  (.pred (bfA w.heap.size tB .u8 D)) (by intro u1 w e hu1;(try obtain rfl:u1=_:=hu1);exact hwr _ e) ?_))|(refine wNl hK ?_;clear hK K))|refine wG ?_|(refine wCR ?_;intro K hK)|fail)
    all_goals skip
    have hxd:=he.trans (ed.trans eu)
    have x3:Ext w wv:=Fr.ext hxd hfr (fun k hk=>(Own.lt hB k hk).1)
    have hnew:OwnI w.heap.size tB .u8 wv v' (B ++ D):=by
      unfold OwnI;rw [List.map_append,List.length_append]
      exact Own.rebase ho (hlc.ge (fun k hk=>(Own.lt hB k hk).1) hxd.size)
    exact a6A (i + 1,v') (fun w5 e5=>⟨x3.trans e5,hil,by dsimp only;rw [hcat];exact OwnI.ext hnew e5⟩) (by dsimp only;omega) (by repeat' (first | exact Sub.nil | refine Sub.val rfl (by first | with_reducible rfl | (congr 1;omega)) ?_ | refine Sub.same rfl ?_))
  · obtain rfl:i=n:=by omega
    repeat' (first|(refine oLA ?_;first|refine a0A rfl ?_|refine wOp ?_|(refine wCm ?_ ?_<;>intro hc)|(refine wNl hK ?_;clear hK K))|refine wG ?_|(refine wCR ?_;intro K hK)|fail)
    all_goals skip
    exact akA rfl rfl he (fun u w5 e5 hu=>by obtain rfl:u=_:=hu;exact OwnI.ext hB e5)
theorem teA {w:World} {v:Value} {n:Nat} {ps:Nat → Nat → Bool} (h:NIX tRg n ps w v) (hn:n ≤ 100) (h8:∀ i,nk (ps i) ≤ 8) (hT:Tab w):Fc Tryz.prog 26 #[v] w (Ret w (.pred (bfA w.heap.size tB .u8 (bdA (fun i=>ccA (ps i)) n)))):=by
  rcases h with ⟨rfl,rfl⟩ | ⟨b,sv,ptrs,rfl,hb,hs⟩
  · exact (rby_0 (ps:=ps) (.inl ⟨rfl,rfl⟩)).mono (fun en w' ⟨v',g1,g2,g3⟩=>⟨v',g1,g2,by obtain rfl:v'=nilS:=g3;exact OwnI.nil⟩)
  have hlen:∀ w',Ext w w' → Fc Tryz.prog 36 #[.pointer (some ⟨b,0,none⟩)] w' (Ret w' (.val (.int .i64 n))):=fun w' e=>q8A (ps:=ps) (.inr ⟨b,sv,ptrs,rfl,e.block hb,hs.ext e⟩)
  refine Fc.of (args:=[_]) Tryz.func26 rfl rfl Tryz.ntmps26 (Nat.le_of_ble_eq_true rfl) ?_
  repeat' (first|(refine oLA ?_;first|refine a0A rfl ?_|refine wOp ?_|(refine wCm ?_ ?_<;>intro hc)|(refine oCv ?_;first|(refine oC 36 ?_;refine a2A (f:=36) rfl rfl rfl  (.val (.int .i64 n)) (by intro u1 w e hu1;(try obtain rfl:u1=_:=hu1);exact hlen _ e) ?_))|(refine wNl hK ?_;clear hK K))|refine wG ?_|(refine wCR ?_;intro K hK)|fail)
  all_goals skip
  refine adA (ι:=Nat × Value) (fun j=>[(0,.val (.pointer (some ⟨b,0,none⟩))),(3,.val j.2),(6,.val (.int .i64 n)),(7,.val (.int .i64 j.1))])
    (fun j w'=>Ext w w' ∧ j.1 ≤ n ∧ OwnI w.heap.size tB .u8 w' j.2 (bdA (fun i=>ccA (ps i)) j.1)) (fun j=>n - j.1)
    (fun w2 e2=>⟨(0,nilS),⟨e2,Nat.zero_le _,OwnI.nil⟩,(by repeat' (first | exact Sub.nil | refine Sub.val rfl (by first | with_reducible rfl | (congr 1;omega)) ?_ | refine Sub.same rfl ?_))⟩) ?_
  rintro ⟨i,vb⟩ w1 ⟨he,hi,hB⟩
  dsimp only at hi hB ⊢
  have hb1:=he.block hb
  have hs1:=hs.ext he
  by_cases hil:i < n
  · have hwr:∀ w',Ext w1 w' → Fc Tryz.prog 18 #[ptrs.getD i undef] w' (Ret w' (.pred (bfA w.heap.size tB .u8 (ccA (ps i))))):=fun w' e=>(pmA (.inr ((hs1.at_ i hil).ext e)) (h8 i) (hT.ext (he.trans e))).mono (aaA (he.trans e).size)
    have hl1:=eqA h8 i
    have hl2:=mgA (h8 i)
    have hcat:bdA (fun i=>ccA (ps i)) (i + 1)=bdA (fun i=>ccA (ps i)) i ++ ccA (ps i):=rfl
    obtain ⟨B,hBB⟩:∃ B,B=bdA (fun i=>ccA (ps i)) i:=⟨_,rfl⟩
    obtain ⟨D,hD⟩:∃ D,D=ccA (ps i):=⟨_,rfl⟩
    rw [← hBB] at hB hcat hl1
    rw [← hD] at hwr hcat hl2
    repeat' (first|(refine oLA ?_;first|refine a0A rfl ?_|refine a8A rfl rfl ?_|refine a1A (a':=⟨b,0,none⟩) rfl rfl (fun _=>rfl) ?_|(refine oD 14 ?_;refine a5A (c:=sv) rfl (fun _=>rfl) rfl hb1 rfl ?_)|(refine oD 16 ?_;refine e0A rfl _ rfl (fun _=>rfl) rfl (HasC.ownV hs1.own) rfl i rfl hil hs1.own.lenV ?_)|(refine oD 19 ?_;refine a4A (hK _ _ (b8A 18 rfl (fun vd wd ed hd=>?_)));clear hK K;replace hd:OwnI w.heap.size tB .u8 wd vd D:=hd;have hBd:=hB.ext ed;refine btA rfl (by decide) jqA rfl hBd rfl (HasI.ownV hd).c e5A (by unfold maxLen;omega) (by omega) (fun v' wu wv eu ho hfr hlc=>?_);refine aeA (by kernel_rfl) (fun K hK=>?_))|refine wOp ?_|(refine wCm ?_ ?_<;>intro hc)|(refine oCv ?_;first|(refine oC 18 ?_;refine a2A (f:=18) rfl rfl rfl  (.pred (bfA w.heap.size tB .u8 D)) (by intro u1 w e hu1;(try obtain rfl:u1=_:=hu1);exact hwr _ e) ?_))|(refine wNl hK ?_;clear hK K))|refine wG ?_|(refine wCR ?_;intro K hK)|fail)
    all_goals skip
    have hxd:=he.trans (ed.trans eu)
    have x3:Ext w wv:=Fr.ext hxd hfr (fun k hk=>(Own.lt hB k hk).1)
    have hnew:OwnI w.heap.size tB .u8 wv v' (B ++ D):=by
      unfold OwnI;rw [List.map_append,List.length_append]
      exact Own.rebase ho (hlc.ge (fun k hk=>(Own.lt hB k hk).1) hxd.size)
    exact a6A (i + 1,v') (fun w5 e5=>⟨x3.trans e5,hil,by dsimp only;rw [hcat];exact OwnI.ext hnew e5⟩) (by dsimp only;omega) (by repeat' (first | exact Sub.nil | refine Sub.val rfl (by first | with_reducible rfl | (congr 1;omega)) ?_ | refine Sub.same rfl ?_))
  · obtain rfl:i=n:=by omega
    repeat' (first|(refine oLA ?_;first|refine a0A rfl ?_|refine wOp ?_|(refine wCm ?_ ?_<;>intro hc)|(refine wNl hK ?_;clear hK K))|refine wG ?_|(refine wCR ?_;intro K hK)|fail)
    all_goals skip
    exact akA rfl rfl he (fun u w5 e5 hu=>by obtain rfl:u=_:=hu;exact OwnI.ext hB e5)
end Go.Proofs.YtbokphkfojijoaaGreatDoor.Pt
end
section
set_option linter.unusedSimpArgs false
set_option linter.unusedVariables false
namespace Go.Proofs.YtbokphkfojijoaaGreatDoor.Pt
open Go.LA Go.ArrP Go.RowKit
def rdX (t:Nat) (b:Bool) (n:Nat) (ps:Nat → Nat → Bool):AD:=match b with
  | true=>.tup2 (.pred (ixP t n ps)) (.val (.int .i64 0))
  | false=>.tup2 (.val (.pointer none)) (.val (.int .i64 5))
theorem w2A {p:Nat → Bool} (h:∀ x,65536 ≤ x → p x=false):nk p ≤ 1:=by
  have h1:cnt (ne p) 65536=cnt (ne p) 1:=ftA (p:=ne p) (a:=1) 65536 (by omega) (fun k hk _=>by
    cases hn:ne p k with
    | false=>rfl
    | true =>
      obtain ⟨i,hi,hp⟩:=ne_iff.1 hn
      rw [h _ (by omega)] at hp;cases hp)
  have h2:=cnt_le (ne p) 1
  show cnt (ne p) 65536 ≤ 1
  omega
theorem id8 {ids:List Int} (hl:ids.length ≤ 300) (i:Int):nk (idP ids i) ≤ 8:=Nat.le_trans (w2A fun x hx=>ieA (by omega)) (by decide)
theorem nfA {ids:List Int} {k x:Nat} (h:ids.length ≤ x):sumP ids k x=false:=fdA fun h'=>by have:=((dyA _).1 h').1;omega
theorem sum8 {ids:List Int} (hl:ids.length ≤ 300) (k:Nat):nk (sumP ids k) ≤ 8:=Nat.le_trans (w2A fun x hx=>nfA (by omega)) (by decide)
theorem zsA {ids:List Int} {k:Nat} (T:Nat):cnt (sumP ids (k + 1)) T=cnt (sumP ids k) T + cnt (idP ids k) T:=roA T fun i _=>by
  have h1:=dyA (ids:=ids) (x:=i) (k + 1)
  have h2:=dyA (ids:=ids) (x:=i) k
  have h3:idP ids k i=true ↔ _:=idP_iff (ids:=ids) (id:=k) (x:=i)
  by_cases c1:idP ids k i=true
  · have g:=h3.1 c1
    have c2:sumP ids k i=false:=fdA fun h'=>by have:=(h2.1 h').2.2;omega
    have c4:sumP ids (k + 1) i=true:=h1.2 ⟨g.1,by omega,by omega⟩
    rw [c1,c2,c4];rfl
  · have c1':=fdA c1
    by_cases c2:sumP ids k i=true
    · have g:=h2.1 c2
      have c4:sumP ids (k + 1) i=true:=h1.2 ⟨g.1,g.2.1,by omega⟩
      rw [c1',c2,c4];rfl
    · have c4:sumP ids (k + 1) i=false:=fdA fun h'=>by
        have g:=h1.1 h'
        by_cases e:ids.getD i 0=(k:Int)
        · exact c1 (h3.2 ⟨g.1,e⟩)
        · exact c2 (h2.2 ⟨g.1,g.2.1,by omega⟩)
      rw [c1',fdA c2,c4];rfl
theorem hvA {ids:List Int} {n T:Nat} (h:IdsIn ids n) (hT:ids.length ≤ T):cnt (sumP ids n) T=ids.length:=yfA (fun x=>by
  rw [dyA]
  constructor
  · exact fun h=>h.1
  · intro hx;have:=h x hx;omega) hT
end Go.Proofs.YtbokphkfojijoaaGreatDoor.Pt
end
