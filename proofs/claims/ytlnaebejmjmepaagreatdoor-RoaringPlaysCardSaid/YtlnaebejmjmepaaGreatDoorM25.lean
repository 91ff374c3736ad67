import Derived.Test.YtlnaebejmjmepaaGreatDoorM14
import Derived.Test.YtlnaebejmjmepaaGreatDoorM21
import Derived.Test.YtlnaebejmjmepaaGreatDoorM22
set_option linter.unusedSimpArgs false
set_option linter.unusedVariables false
set_option maxRecDepth 3000
set_option maxHeartbeats 16000000
section
namespace Go.LA
open Go.RowKit Go.ArrP Go.ChangeShapes
structure Od where
 kd:Int
 kn:Int
 x:Int
 lo:Int
 hi:Int
 v:Value
 l:List Sp
def Od.cs (q:Od):List Value:=[.int .i64 q.kd,.int .i64 q.kn,.int .u32 q.x,.int .u64 q.lo,.int .u64 q.hi,q.v]
structure Od.ok (q:Od) (w:World):Prop where
 kd:-9223372036854775808≤q.kd∧q.kd<9223372036854775808
 kn:-9223372036854775808≤q.kn∧q.kn<9223372036854775808
 x:0≤q.x∧q.x<4294967296
 lo:0≤q.lo∧q.lo<18446744073709551616
 hi:0≤q.hi∧q.hi<18446744073709551616
 sl:SlP .u64 w q.v q.l
 wf:∀ x ∈ q.l,0≤x.1∧x.1<18446744073709551616∧0≤x.2∧x.2<18446744073709551616
 by_:(1+q.l.length)*16≤140737488355328
theorem Od.ok.ext {q:Od} {w w':World} (h:q.ok w) (e:Ext w w'):q.ok w':=⟨h.kd,h.kn,h.x,h.lo,h.hi,h.sl.ext e,h.wf,h.by_⟩
def g8A (qs:List Od):List Value:=qs.flatMap Od.cs
theorem h6A:∀ qs,(g8A qs).length=qs.length*6
 | []=>rfl
 | q::r=>by
   have:=h6A r;unfold g8A at this ⊢;rw [List.flatMap_cons,List.length_append,this,List.length_cons];show 6+_=_;omega
theorem h6Aq (q:Od) (r:List Od) (j:Nat):(q.cs++g8A r).drop ((j+1)*6)=(g8A r).drop (j*6):=by
  rw [show (j+1)*6=q.cs.length+j*6 by show _=6+_;omega,← List.drop_drop,List.drop_left]
theorem iwA:∀ (qs:List Od) (j:Nat) (h:j<qs.length),((g8A qs).drop (j*6)).take 6=qs[j].cs
 | [],j,h=>by simp at h
 | q::r,0,_=>rfl
 | q::r,j+1,h=>by
   have:=iwA r j (by simpa using h);rw [List.getElem_cons_succ,← this];show ((q.cs++g8A r).drop ((j+1)*6)).take 6=_;rw [h6Aq]
theorem p3A (qs:List Od) (j:Nat) (h:j<qs.length*6):∃ hq:j / 6<qs.length,(g8A qs)[j]?=(qs[j / 6]'hq).cs[j % 6]?:=by
 have hq:j / 6<qs.length:=oZ;refine ⟨hq,?_⟩;rw [← iwA qs (j / 6) hq,List.getElem?_take,if_pos (Nat.mod_lt _ dZ),List.getElem?_drop];congr 1;omega
structure IsRowO (w:World) (a:Option Addr) (len cap:Nat) (qs:List Od):Prop where
 sl:SlC w (.slice a len cap) len 6 (g8A qs)
 hl:qs.length=len
 at_:∀ q ∈ qs,q.ok w
section
variable {H:Type} {enc:TypeId × Value→H} {P:Program} {w:World} {base:Nat} {spare:Nat→Bool} {held:Bool}
theorem i1A {e:TypeId} {p:Nat→Bool}:∀ {ds:List (DataW H)} {i:Nat} {d:DataW H},(DataW.weightsAll P e ds).all p=true→ds[i]?=some d→(DataW.weights P e d).all p=true
 | [],_,_,_,h=>by simp at h
 | x::r,0,d,h,hd=>by
   simp only [List.getElem?_cons_zero,Option.some.injEq] at hd;subst hd;simp only [DataW.weightsAll,List.all_append,Bool.and_eq_true] at h;exact h.1
 | x::r,i+1,d,h,hd=>by
   simp only [List.getElem?_cons_succ] at hd;simp only [DataW.weightsAll,List.all_append,Bool.and_eq_true] at h;exact i1A h.2 hd
theorem y6A {e ti tu tq sp u:TypeId} {g0 g1:Field} {f0 f1 f2 f3 f4 f5:Field} {fuel:Nat} {cs:List Value} {x:DataW H × List MemPlace} (he:P.underlying e=some (.struct #[f0,f1,f2,f3,f4,f5]))
 (o0:f0.offset=0) (o1:f1.offset=1) (o2:f2.offset=2) (o3:f3.offset=3) (o4:f4.offset=4) (o5:f5.offset=5)
 (h0:f0.type=ti) (h1:f1.type=ti) (h2:f2.type=tu) (h3:f3.type=tq) (h4:f4.type=tq) (h5:f5.type=sp)
 (ui:P.underlying ti=some (.int .i64)) (uu:P.underlying tu=some (.int .u32)) (uq:P.underlying tq=some (.int .u64)) (ci:P.cellsOf ti=1) (cu:P.cellsOf tu=1) (cq:P.cellsOf tq=1) (ce:P.cellsOf e=6) (csp:P.cellsOf sp=1)
 (hs:P.underlying sp=some (.slice u)) (hu:P.underlying u=some (.struct #[g0,g1])) (hcu:P.cellsOf u=2) (k0:g0.type=tq) (k1:g1.type=tq) (p0:g0.offset=0) (p1:g1.offset=1) (hb:P.bytesOf u=16)
 (h:DataW.trod enc P w base spare held fuel e cs=some x) (hw:(DataW.weights P e x.1).all (·≤reachBytes)=true):∃ q:Od,cs=q.cs∧q.ok w:=by
 obtain ⟨xs,n,-,rfl,hl,hlen,hf⟩:=DataW.trod_struct he h;rw [ce] at hl
 match cs,hl with
 | [c0,c1,c2,c3,c4,c5],_ =>
 have hlen6:xs.length=6:=hlen;have e0:=hf 0 f0 rfl;have e1:=hf 1 f1 rfl;have e2:=hf 2 f2 rfl;have e3:=hf 3 f3 rfl;have e4:=hf 4 f4 rfl;have e5:=hf 5 f5 rfl;rw [List.getElem?_eq_getElem oZ] at e0 e1 e2 e3 e4 e5;rw [o0,h0,ci] at e0;rw [o1,h1,ci] at e1;rw [o2,h2,cu] at e2;rw [o3,h3,cq] at e3;rw [o4,h4,cq] at e4;rw [o5,h5,csp] at e5;obtain ⟨n0,r0,-,wf0⟩:=DataW.trod_int ui e0;obtain ⟨n1,r1,-,wf1⟩:=DataW.trod_int ui e1;obtain ⟨n2,r2,-,wf2⟩:=DataW.trod_int uu e2;obtain ⟨n3,r3,-,wf3⟩:=DataW.trod_int uq e3;obtain ⟨n4,r4,-,wf4⟩:=DataW.trod_int uq e4;obtain rfl:c0=_:=by simpa using r0
 obtain rfl:c1=_:=by simpa using r1
 obtain rfl:c2=_:=by simpa using r2
 obtain rfl:c3=_:=by simpa using r3
 obtain rfl:c4=_:=by simpa using r4
 have e5':DataW.trod enc P w base spare held n sp [c5]=some xs[5]:=e5;obtain ⟨a,len,cap,rfl⟩:∃ a len cap,c5=.slice a len cap:=by
  rcases DataW.trod_slice hs e5' with ⟨g,-⟩|⟨_,_,_,_,_,_,-,g,-⟩ <;> exact ⟨_,_,_,by simpa using g⟩
 obtain ⟨rs,g1',g2',g3'⟩:=ovA hs hu hcu k0 k1 p0 p1 uq cq e5';have hw5:(DataW.weights P sp xs[5].1).all (·≤reachBytes)=true:=by
  unfold DataW.weights at hw;rw [he] at hw;refine sized_at (ts:=[ti,ti,tu,tq,tq,sp]) (vs:=[]) (ds:=xs.map (·.1)) (gs:=[]) (j:=5) ?_ rfl (by rw [List.getElem?_map,List.getElem?_eq_getElem oZ];rfl);rw [List.append_nil,List.append_nil];have:(#[f0,f1,f2,f3,f4,f5]:Array Field).toList.map (·.type)=[ti,ti,tu,tq,tq,sp]:=by simp [h0,h1,h2,h3,h4,h5]
  dsimp only at hw;rw [this] at hw;exact hw
 have hsz:=orA (ts:=[]) (ds:=[]) hs hb (d:=xs[5].1) (ps:=xs[5].2) e5' hw5;exact ⟨⟨n0,n1,n2,n3,n4,_,rs⟩,rfl,wf_i64 wf0,wf_i64 wf1,wf_u32 wf2,wf_u64 wf3,wf_u64 wf4,g1',g2',by rw [g3'];exact hsz⟩
theorem open_ops {t e ti tu tq sp u:TypeId} {g0 g1:Field} {f0 f1 f2 f3 f4 f5:Field} {fuel:Nat} {a:Option Addr} {len cap:Nat} {x:DataW H × List MemPlace} (ht:P.underlying t=some (.slice e)) (he:P.underlying e=some (.struct #[f0,f1,f2,f3,f4,f5]))
 (o0:f0.offset=0) (o1:f1.offset=1) (o2:f2.offset=2) (o3:f3.offset=3) (o4:f4.offset=4) (o5:f5.offset=5)
 (h0:f0.type=ti) (h1:f1.type=ti) (h2:f2.type=tu) (h3:f3.type=tq) (h4:f4.type=tq) (h5:f5.type=sp)
 (ui:P.underlying ti=some (.int .i64)) (uu:P.underlying tu=some (.int .u32)) (uq:P.underlying tq=some (.int .u64)) (ci:P.cellsOf ti=1) (cu:P.cellsOf tu=1) (cq:P.cellsOf tq=1) (ce:P.cellsOf e=6) (csp:P.cellsOf sp=1)
 (hs:P.underlying sp=some (.slice u)) (hu:P.underlying u=some (.struct #[g0,g1])) (hcu:P.cellsOf u=2) (k0:g0.type=tq) (k1:g1.type=tq) (p0:g0.offset=0) (p1:g1.offset=1) (hb:P.bytesOf u=16)
 (h:DataW.trod enc P w base spare held fuel t [.slice a len cap]=some x) (hw:(DataW.weights P t x.1).all (·≤reachBytes)=true):∃ qs,IsRowO w a len cap qs:=by
 rcases DataW.trod_slice ht h with ⟨h2',-⟩|⟨ad,len',cap',elems,rest,n,-,h2',hd,hb',hl,hm,hlen,hel,-,-⟩
 ·simp only [List.cons.injEq,Value.slice.injEq,and_true] at h2'
  obtain ⟨rfl,rfl,rfl⟩:=h2';exact ⟨[],⟨rfl,none,0,rfl,Nat.le_refl _,Nat.zero_le _,λ _=>rfl,.inl rfl⟩,rfl,λ q hq=>by cases hq⟩
 simp only [List.cons.injEq,Value.slice.injEq,and_true] at h2';obtain ⟨rfl,rfl,rfl⟩:=h2';have hwa:(DataW.weightsAll P e (elems.map (·.1))).all (·≤reachBytes)=true:=by
  rw [hd] at hw;unfold DataW.weights at hw;rw [ht] at hw;simp only [List.all_cons,List.all_append,Bool.and_eq_true] at hw;exact hw.2.1
 have each:∀ i,i<len→∃ q:Od,q.ok w∧∀ j,j<6→w.cell? (ad.add (i*6+j))=q.cs[j]?:=λ i hi=>by
  have h3':=hel i hi;rw [List.getElem?_eq_getElem oZ,ce,Option.bind_eq_some_iff] at h3';obtain ⟨cs,hcs,hy⟩:=h3';have hcell:=(World.cells?_some hcs).2.2
  obtain ⟨q,rfl,hq⟩:=y6A he o0 o1 o2 o3 o4 o5 h0 h1 h2 h3 h4 h5 ui uu uq ci cu cq ce csp hs hu hcu k0 k1 p0 p1 hb hy
   (i1A (i:=i) hwa (by rw [List.getElem?_map,List.getElem?_eq_getElem oZ];rfl))
  refine ⟨q,hq,λ j hj=>?_⟩;rw [← hcell j hj,Addr.add_add]
 obtain ⟨q,hq⟩:∃ q:Nat→Od,∀ i,i<len→(q i).ok w∧∀ j,j<6→w.cell? (ad.add (i*6+j))=(q i).cs[j]? :=
  ⟨λ i=>if hi:i<len then Classical.choose (each i hi) else ⟨0,0,0,0,0,undef,[]⟩,λ i hi=>by
   have h5:=Classical.choose_spec (each i hi);simp only [hi,dif_pos];exact h5⟩
 obtain ⟨qs,hqs⟩:∃ qs,qs=(List.range len).map q:=⟨_,rfl⟩;have hl2:qs.length=len:=by rw [hqs];simp
 have hget:∀ i (h:i<qs.length),qs[i]=q i:=λ i hi=>by simp [hqs]
 refine ⟨qs,⟨by rw [h6A,hl2],some ad,cap,rfl,hl,hm,(λ h=>by cases h),?_⟩,hl2,λ x hx=>?_⟩
 ·by_cases hz:len=0
  ·exact .inl hz
  ·right
   have hx:=(hq 0 oZ).2 0 dZ;obtain ⟨b,off,spot⟩:=ad;have hs':spot=none:=by
    cases spot with
    | none=>rfl
    | some s =>
      exfalso
      rw [Nat.zero_mul,Addr.add_zero'] at hx;simp only [World.cell?] at hx
      split at hx <;> simp [Od.cs] at hx
   subst hs';refine ⟨b,off,rfl,λ j c hj=>?_⟩;have hjl:j<qs.length*6:=by
    have:=(List.getElem?_eq_some_iff.1 hj).1;rwa [h6A] at this
   obtain ⟨hi,hg⟩:=p3A qs j hjl;rw [hget] at hg;have hc:=(hq (j / 6) oZ).2 (j % 6) (Nat.mod_lt _ dZ);rw [Addr.add_lit,show j / 6*6+j % 6=j by omega,← hg] at hc;rw [hc,hj]
 ·rw [hqs,List.mem_map] at hx
  obtain ⟨i,hi,rfl⟩:=hx;exact (hq i (List.mem_range.1 hi)).1
end
end Go.LA
end
section
namespace Go.Proofs.YtlnaebejmjmepaaGreatDoor
open Go.LA Go.ArrP Go.RowKit
theorem e8A (T:Nat):spL (λ _=>false) T=[]:=(deA (Nat.zero_le T) (λ _ _ _=>rfl)).trans rfl
theorem qeA (x y:Bool):opF 2 x y=(x || y):=by cases x <;> cases y <;> decide
theorem t9A {xs:List Sp} {i:Nat} (h:i<xs.length) {lo hi:Nat} (h1:(xs.getD i (0,0)).1=(lo:Int)) (h2:(xs.getD i (0,0)).2=(hi:Int)):spU (xs.take (i+1))=two (opF 2) (spU (xs.take i)) (itv lo (min hi TOP)):=by
 rw [← n6A h,h1,h2,Int.toNat_natCast,Int.toNat_natCast]
 funext y
 unfold two;rw [qeA];rfl
theorem tiA {w:World} {v:Value} {xs:List Sp} (h:SlP .u64 w v xs) (hx:U64 xs):Fc Tryz.prog 20 #[v] w (Ret w (.pred (etA w.heap.size tSp .u64 (spL (spU xs) TOP)))):=by
 have hlen:=h.len;refine Fc.of (args:=[_]) Tryz.func20 rfl rfl Tryz.ntmps20 nZ ?_
 repeat' (first|(refine yL ?_;first|refine a0A rfl ?_|refine yO ?_|(refine yC ?_ ?_<;>intro hc)|(refine yN hK ?_;clear hK K))|refine wG ?_|(refine yR ?_;intro K hK)|fail)
 refine agA (ι:=Nat × Value) (λ j=>[(0,.val v),(3,.val j.2),(4,.val (.int .i64 j.1))]) (λ j w'=>j.1≤xs.length∧Ext w w'∧OwnP w.heap.size tSp .u64 w' j.2 (spL (spU (xs.take j.1)) TOP)) (λ j=>xs.length-j.1)
  (λ w2 e2=>⟨(0,nilS),⟨Nat.zero_le _,e2,by show OwnP _ _ _ _ _ (spL (spU []) TOP);rw [x8A,e8A];exact OwnP.nil⟩,sZ⟩) ?_
 rintro ⟨i,vs⟩ w1 ⟨hi,he,hs⟩;dsimp only at hi hs ⊢;have hv:=h.ext he
 by_cases hil:i<xs.length
 ·obtain ⟨u1,u2,u3,u4⟩:=hx _ (iqA hil)
  obtain ⟨lo,hlo⟩:∃ lo:Nat,(xs.getD i (0,0)).1=(lo:Int):=⟨(xs.getD i (0,0)).1.toNat,by omega⟩;obtain ⟨hi',hhi⟩:∃ hi:Nat,(xs.getD i (0,0)).2=(hi:Int):=⟨(xs.getD i (0,0)).2.toNat,by omega⟩;have hor:=t9A hil hlo hhi;rw [hlo] at u1 u2;rw [hhi] at u3 u4;have hsp:∀ w',Ext w1 w'→Fc Tryz.prog 26 #[.int .u64 lo,.int .u64 hi'] w' (Ret w' (.pred (etA w.heap.size tSp .u64 (spL (itv lo (min hi' TOP)) TOP)))):=λ w' e=>(i8A w' oZ oZ).mono (biA (he.trans e).size rfl)
  have hbo:∀ w' u2,Ext w1 w'→SlP .u64 w' u2 (spL (itv lo (min hi' TOP)) TOP)→Fc Tryz.prog 23 #[vs,u2,.int .i64 2] w' (Ret w' (.pred (etA w.heap.size tSp .u64 (spL (spU (xs.take (i+1))) TOP)))):=λ w' u2 e hu=>by
   rw [hor];exact (eqA w' 2 (hs.slP.ext e) hu).mono (biA (he.trans e).size rfl)
  repeat' (first|(refine yL ?_;first|refine a0A rfl ?_|(refine c7A ?_;refine b3A rfl _ rfl rfl (HasP.val hv) ?_)|(refine oI ?_;refine atA rfl _ rfl (λ _=>rfl) rfl (HasP.val hv) rfl hil ?_;rw [hlo,hhi])|(refine oF 0 ?_;refine acA (f:=0) (o:=0) rfl rfl (λ _ _=>rfl) ?_)|(refine oF 1 ?_;refine acA (f:=1) (o:=1) rfl rfl (λ _ _=>rfl) ?_)|(refine oL ?_;refine ayA rfl (λ _=>rfl) rfl rfl ?_)|refine yO ?_|(refine yC ?_ ?_<;>intro hc)|(refine yV ?_;first|(refine oC 26 ?_;refine a3A (f:=26) rfl rfl rfl rfl  (.pred (etA w.heap.size tSp .u64 (spL (itv lo (min hi' TOP)) TOP))) (by intro u1 u2 w e hu1 hu2;(try obtain rfl:u1=_:=hu1);(try obtain rfl:u2=_:=hu2);exact hsp _ e) ?_)|(refine oC 23 ?_;refine alA (f:=23) rfl rfl rfl rfl rfl  (.pred (etA w.heap.size tSp .u64 (spL (spU (xs.take (i+1))) TOP))) (by intro u1 u2 u3 w e hu1 hu2 hu3;(try obtain rfl:u1=_:=hu1);(try obtain rfl:u2=_:=hu2);(try obtain rfl:u3=_:=hu3);exact hbo _ _ e (OwnP.slP hu2)) ?_))|(refine yN hK ?_;clear hK K))|refine wG ?_|(refine yR ?_;intro K hK)|fail)
  refine dfA 3 rfl (λ v9 w9 e9 h9=>?_);exact a6A (i+1,v9) (λ w5 e5=>⟨hil,he.trans (e9.trans e5),OwnP.ext h9 e5⟩) eZ sZ
 ·obtain rfl:i=xs.length:=oZ
  rw [List.take_length] at hs
  repeat' (first|(refine yL ?_;first|refine a0A rfl ?_|(refine c7A ?_;refine b3A rfl _ rfl rfl (HasP.val hv) ?_)|refine yO ?_|(refine yC ?_ ?_<;>intro hc)|(refine yN hK ?_;clear hK K))|refine wG ?_|(refine yR ?_;intro K hK)|fail)
  exact ajA rfl rfl he (λ u w5 e5 hu=>by obtain rfl:u=_:=hu;exact OwnP.ext hs e5)
def zzA (x:Nat) (k:Nat):Nat→Bool:=if k=0 then λ _=>false else itv x (x+1)
theorem qfA (x:Nat):zzA x 1=two (opF 2) (zzA x 0) (itv x (x+1)):=by
 funext y;unfold two zzA;rw [qeA];rfl
theorem xkA {w:World} {v:Value} {x:Nat} (h:SlI .u32 w v [(x:Int)]) (hx:x<4294967296):Fc Tryz.prog 24 #[v] w (Ret w (.pred (etA w.heap.size tSp .u64 (spL (itv x (x+1)) TOP)))):=by
 have htop:=crA;refine Fc.of (args:=[_]) Tryz.func24 rfl rfl Tryz.ntmps24 nZ ?_
 repeat' (first|(refine yL ?_;first|refine a0A rfl ?_|refine yO ?_|(refine yC ?_ ?_<;>intro hc)|(refine yN hK ?_;clear hK K))|refine wG ?_|(refine yR ?_;intro K hK)|fail)
 refine agA (ι:=Nat × Value) (λ j=>[(0,.val v),(3,.val j.2),(4,.val (.int .i64 j.1))]) (λ j w'=>j.1≤1∧Ext w w'∧OwnP w.heap.size tSp .u64 w' j.2 (spL (zzA x j.1) TOP)) (λ j=>1-j.1)
  (λ w2 e2=>⟨(0,nilS),⟨Nat.zero_le _,e2,by show OwnP _ _ _ _ _ (spL (λ _=>false) TOP);rw [e8A];exact OwnP.nil⟩,sZ⟩) ?_
 rintro ⟨i,vs⟩ w1 ⟨hi,he,hs⟩;dsimp only at hi hs ⊢;have hv:=h.ext he;have hlen:([(x:Int)]:List Int).length=1:=rfl
 by_cases hil:i<1
 ·obtain rfl:i=0:=oZ
  have hsp:∀ w',Ext w1 w'→Fc Tryz.prog 26 #[.int .u64 x,.int .u64 ((x:Int)+1)] w' (Ret w' (.pred (etA w.heap.size tSp .u64 (spL (itv x (x+1)) TOP)))):=λ w' e=>by
   have:=i8A w' (lo:=x) (hi:=x+1) oZ oZ;rw [show min (x+1) TOP=x+1 by omega,Int.natCast_add] at this;exact this.mono (biA (he.trans e).size rfl)
  have hbo:∀ w' u2,Ext w1 w'→SlP .u64 w' u2 (spL (itv x (x+1)) TOP)→Fc Tryz.prog 23 #[vs,u2,.int .i64 2] w' (Ret w' (.pred (etA w.heap.size tSp .u64 (spL (zzA x 1) TOP)))):=λ w' u2 e hu=>by
   rw [qfA];exact (eqA w' 2 (hs.slP.ext e) hu).mono (biA (he.trans e).size rfl)
  repeat' (first|(refine yL ?_;first|refine a0A rfl ?_|(refine oI ?_;refine ahA (j:=0) rfl _ rfl (λ _=>rfl) rfl (HasI.val hv) rfl (by rw [hlen];decide) ?_;rw [show ([(x:Int)]:List Int).getD 0 0=(x:Int) from rfl])|refine yO ?_|(refine yC ?_ ?_<;>intro hc)|(refine yV ?_;first|(refine oC 26 ?_;refine a3A (f:=26) rfl rfl rfl rfl  (.pred (etA w.heap.size tSp .u64 (spL (itv x (x+1)) TOP))) (by intro u1 u2 w e hu1 hu2;(try obtain rfl:u1=_:=hu1);(try obtain rfl:u2=_:=hu2);exact hsp _ e) ?_)|(refine oC 23 ?_;refine alA (f:=23) rfl rfl rfl rfl rfl  (.pred (etA w.heap.size tSp .u64 (spL (zzA x 1) TOP))) (by intro u1 u2 u3 w e hu1 hu2 hu3;(try obtain rfl:u1=_:=hu1);(try obtain rfl:u2=_:=hu2);(try obtain rfl:u3=_:=hu3);exact hbo _ _ e (OwnP.slP hu2)) ?_))|(refine yN hK ?_;clear hK K))|refine wG ?_|(refine yR ?_;intro K hK)|fail)
  refine dfA 3 rfl (λ v9 w9 e9 h9=>?_);exact a6A (1,v9) (λ w5 e5=>⟨Nat.le_refl _,he.trans (e9.trans e5),OwnP.ext h9 e5⟩) eZ sZ
 ·obtain rfl:i=1:=oZ
  have hs':OwnP w.heap.size tSp .u64 w1 vs (spL (itv x (x+1)) TOP):=hs
  repeat' (first|(refine yL ?_;first|refine a0A rfl ?_|refine yO ?_|(refine yC ?_ ?_<;>intro hc)|(refine yN hK ?_;clear hK K))|refine wG ?_|(refine yR ?_;intro K hK)|fail)
  exact ajA rfl rfl he (λ u w5 e5 hu=>by obtain rfl:u=_:=hu;exact OwnP.ext hs' e5)
abbrev tOp:Nat:=57
set_option maxRecDepth 3000 in
theorem z3A:El Tryz.prog 64 49 (.int .u32 0) 1 4:=⟨rfl,rfl,rfl,by decide⟩
theorem opF_1 (x y:Bool):opF 1 x y=(x && y):=by unfold opF;rw [if_pos rfl]
theorem b3B (x y:Bool):opF 3 x y=(x && !y):=by unfold opF;rw [if_neg dZ,if_neg dZ,if_pos rfl]
theorem opF_4 (x y:Bool):opF 4 x y=!(x == y):=by unfold opF;rw [if_neg dZ,if_neg dZ,if_neg dZ]
theorem two_1 (p q:Nat→Bool):two (opF 1) p q=two (λ x y=>x && y) p q:=funext λ i=>opF_1 _ _
theorem two_2 (p q:Nat→Bool):two (opF 2) p q=two (λ x y=>x || y) p q:=funext λ i=>qeA _ _
theorem two_3 (p q:Nat→Bool):two (opF 3) p q=two (λ x y=>x && !y) p q:=funext λ i=>b3B _ _
theorem two_4 (p q:Nat→Bool):two (opF 4) p q=two (λ x y=>!(x == y)) p q:=funext λ i=>opF_4 _ _
theorem zjA (p:Nat→Bool) (x:Nat):two (opF 2) p (itv x (x+1))=m3A p x:=funext λ i=>by
 show opF 2 (p i) (itv x (x+1) i)=(p i || decide (i=x))
 rw [qeA];congr 1;unfold itv;rw [Bool.eq_iff_iff,Bool.and_eq_true,decide_eq_true_iff,decide_eq_true_iff,decide_eq_true_iff];omega
theorem xmA (p:Nat→Bool) (lo hi:Nat):two (opF 2) p (itv lo hi)=rng p lo hi:=funext λ i=>by
 show opF 2 (p i) (itv lo hi i)=_
 rw [qeA];rfl
theorem y9A (n:Nat) (p:Nat→Bool):two (opF 3) (itv 0 (min n TOP)) p=l5A n p:=funext λ i=>by
 show opF 3 (itv 0 (min n TOP) i) (p i)=_
 rw [b3B];unfold itv l5A;rw [decide_eq_true (Nat.zero_le i),Bool.true_and]
structure Kept (w W:World) (bo:Nat) (cs:Array Value) (v7 v8 v9 wv:Value) (p q:Nat→Bool):Prop where
 e:Ext w W
 hb:W.heap[bo]?=some (.cells cs tOp (0,0))
 o:RSet TT TT W v7 q
 v:SlP .u64 W v8 (spL q TOP)
 was:RSet TT TT W v9 p
 be:SlP .u64 W wv (spL p TOP)
theorem Kept.ext {w W W':World} {bo:Nat} {cs:Array Value} {v7 v8 v9 wv:Value} {p q:Nat→Bool} (h:Kept w W bo cs v7 v8 v9 wv p q) (e:Ext W W'):Kept w W' bo cs v7 v8 v9 wv p q :=
 ⟨h.e.trans e,e.block h.hb,h.o.ext e,h.v.ext e,h.was.ext e,h.be.ext e⟩
theorem jxA {wz W':World} {b:Nat} {kv lv v:Value} {p q:Nat→Bool} {n:Nat} {A:Nat→Prop} (hS:RS TT wz b kv lv p) (hF:Fr (onw b kv lv) wz W') (hlt:∀ k,onw b kv lv k→k<n) (hA:∀ k,kv.ownBlock=some k→¬ A k)
 (h:RSet (λ k=>n≤k) A wz v q):RSet (λ k=>n≤k) A W' v q :=
 h.fr hF (hS.plainA hA) (λ k hk ho=>Nat.lt_irrefl _ (Nat.lt_of_lt_of_le (hlt k ho) hk))
theorem k6A {wz W':World} {b base:Nat} {kv lv v:Value} {p:Nat→Bool} {xs:List Sp} (hS:RS TT wz b kv lv p) (hF:Fr (onw b kv lv) wz W') (h:OwnP base tSp .u64 wz v xs):OwnP base tSp .u64 W' v xs :=
 hF.own h (λ k hk=>hS.off h ⟨by decide,by decide,by decide⟩ k hk)
structure Pre (w W:World) (n bo b:Nat) (kv lv:Value) (cs:Array Value) (v7 v8 v9 wv:Value) (p q:Nat→Bool):Prop where
 e:Ext w W
 hb:W.heap[bo]?=some (.cells cs tOp (0,0))
 o:RSet (λ k=>n≤k) (λ k=>n≤k) W v7 q
 v:OwnP n tSp .u64 W v8 (spL q TOP)
 was:RSet (λ k=>n≤k) (λ k=>kv.ownBlock≠some k) W v9 p
 be:OwnP w.heap.size tSp .u64 W wv (spL p TOP)
 s:RS TT W b kv lv p
 hB:∀ k,onw b kv lv k→w.heap.size≤k
 lt:∀ k,onw b kv lv k→k<n
 nb:¬ onw b kv lv bo
theorem Pre.ext {w W W':World} {n bo b:Nat} {kv lv:Value} {cs:Array Value} {v7 v8 v9 wv:Value} {p q:Nat→Bool} (h:Pre w W n bo b kv lv cs v7 v8 v9 wv p q) (e:Ext W W'):Pre w W' n bo b kv lv cs v7 v8 v9 wv p q :=
 ⟨h.e.trans e,e.block h.hb,h.o.ext e,h.v.ext e,h.was.ext e,h.be.ext e,h.s.ext e,h.hB,h.lt,h.nb⟩
theorem Pre.kept {w W:World} {n bo b:Nat} {kv lv:Value} {cs:Array Value} {v7 v8 v9 wv:Value} {p q:Nat→Bool} (h:Pre w W n bo b kv lv cs v7 v8 v9 wv p q):Kept w W bo cs v7 v8 v9 wv p q :=
 ⟨h.e,h.hb,h.o.tt,h.v.slP,h.was.tt,h.be.slP⟩
theorem Pre.mut {w W W':World} {n bo b:Nat} {kv lv:Value} {cs:Array Value} {v7 v8 v9 wv:Value} {p q p':Nat→Bool} (h:Pre w W n bo b kv lv cs v7 v8 v9 wv p q) (hM:Mut TT W b kv lv p' W') :
 Kept w W' bo cs v7 v8 v9 wv p q∧OwnP w.heap.size tSp .u64 W' wv (spL p TOP)∧RSet (λ k=>w.heap.size≤k) TT W' (.pointer (some ⟨b,0,none⟩)) p':=by
 obtain ⟨kv',lv',hS',hF,hl1,hl2⟩:=hM;refine ⟨⟨Fr.ext h.e hF h.hB,hF.at h.hb h.nb,(jxA h.s hF h.lt (λ k hk ha=>Nat.lt_irrefl _ (Nat.lt_of_lt_of_le (h.lt k (.inr (.inl hk))) ha)) h.o).tt,(k6A h.s hF h.v).slP,(jxA h.s hF h.lt (λ k hk ha=>ha hk) h.was).tt,(k6A h.s hF h.be).slP⟩,k6A h.s hF h.be,
  b,kv',lv',rfl,hS',λ k hk=>?_⟩
 exact gaA h.hB h.e.size hl1 hl2 k hk
end Go.Proofs.YtlnaebejmjmepaaGreatDoor
end
