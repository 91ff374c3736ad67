import Derived.ChangeSame
import Derived.ChangeSlices
import Derived.Test.YtlnaebejmjmepaaGreatDoorM5
import Derived.Test.YtlnaebejmjmepaaGreatDoorM13
set_option linter.unusedSimpArgs false
set_option linter.unusedVariables false
set_option maxRecDepth 3000
set_option maxHeartbeats 16000000
section
namespace Go.LA
open Go.RowKit
def spV (k:IntKind) (x:Sp):Value:=.agg #[.int k x.1,.int k x.2]
def ckA (k:IntKind):List Sp→List Value
 | []=>[]
 | x::r=>.int k x.1::.int k x.2::ckA k r
variable {k:IntKind}
theorem ezA:∀ a b,ckA k (a++b)=ckA k a++ckA k b
 | [],b=>rfl
 | x::a,b=>by simp only [List.cons_append,ckA,ezA a b]
theorem g1A:∀ a,(ckA k a).length=a.length*2
 | []=>rfl
 | x::a=>by simp only [ckA,List.length_cons,g1A a];omega
theorem jlA:∀ a,∀ u ∈ ckA k a,u.oneCell'=true
 | [],u,h=>by cases h
 | x::a,u,h=>by
   simp only [ckA,List.mem_cons] at h
   rcases h with rfl|rfl|h
   ·rfl
   ·rfl
   ·exact jlA a u h
theorem ivA:∀ (a:List Sp) (j:Nat),j<a.length→((ckA k a).drop (j*2)).take 2=[.int k (a.getD j (0,0)).1,.int k (a.getD j (0,0)).2]
 | [],j,h=>by simp at h
 | x::a,0,_=>rfl
 | x::a,j+1,h=>by
   have ih:=ivA a j (by simpa using h);rw [show (j+1)*2=j*2+1+1 by omega];exact ih
theorem iuA:∀ (a:List Sp) (j:Nat) (c:Int),(ckA k a).set (j*2+1) (.int k c)=ckA k (a.set j ((a.getD j (0,0)).1,c))
 | [],j,c=>by simp [ckA]
 | x::a,0,c=>rfl
 | x::a,j+1,c=>by
   rw [show (j+1)*2+1=j*2+1+1+1 by omega];simp only [ckA,List.set_cons_succ,iuA a j c,List.getD_cons_succ]
def SlP (k:IntKind) (w:World) (v:Value) (rs:List Sp):Prop:=SlC w v rs.length 2 (ckA k rs)
theorem SlP.ext {w w':World} {v:Value} {rs:List Sp} (h:SlP k w v rs) (e:Ext w w'):SlP k w' v rs:=SlC.ext h e
theorem SlP.len {w:World} {v:Value} {rs:List Sp} (h:SlP k w v rs):rs.length≤9223372036854775807:=SlC.len h
theorem SlP.isSlice {w:World} {v:Value} {rs:List Sp} (h:SlP k w v rs):∃ a c,v=.slice a rs.length c:=SlC.isSlice h
def OwnP (base e:Nat) (k:IntKind) (w:World) (v:Value) (rs:List Sp):Prop:=Own base e 2 w v rs.length (ckA k rs)
theorem OwnP.ext {base e:Nat} {w w':World} {v:Value} {rs:List Sp} (h:OwnP base e k w v rs) (x:Ext w w'):OwnP base e k w' v rs:=Own.ext h x
theorem OwnP.slP {base e:Nat} {w:World} {v:Value} {rs:List Sp} (h:OwnP base e k w v rs):SlP k w v rs:=Own.slC h
theorem OwnP.nil {base e:Nat} {w:World}:OwnP base e k w (.slice none 0 0) []:=Own.nil
def etA (base e:Nat) (k:IntKind) (rs:List Sp):AV:=⟨λ v w=>OwnP base e k w v rs,λ _ _ _ x h=>h.ext x⟩
theorem biA {w:World} {base base' e:Nat} {rs rs':List Sp} (hb:base'≤base) (hr:rs=rs') (en:Ending) (w':World) (h:Ret w (.pred (etA base e k rs)) en w'):Ret w (.pred (etA base' e k rs')) en w':=by
 obtain ⟨v,h1,h2,h3⟩:=h;exact ⟨v,h1,h2,hr▸Own.base h3 hb⟩
def HasP (wb:World) (r:AD) (k:IntKind) (rs:List Sp):Prop:=HasC wb r rs.length 2 (ckA k rs)
theorem HasP.val {wb:World} {u:Value} {rs:List Sp} (h:SlP k wb u rs):HasP wb (.val u) k rs:=HasC.val h
theorem HasP.ownV {wb:World} {base e:Nat} {u:Value} {rs:List Sp} (h:OwnP base e k wb u rs):HasP wb (.val u) k rs:=HasC.ownV h
theorem HasP.own {wb:World} {base e:Nat} {rs:List Sp}:HasP wb (.pred (etA base e k rs)) k rs:=HasC.own
section
variable {P:Program} {l:List Oper} {N:Nn} {wb:World} {K:List Oper→Env→Prop} {rest:List Oper} {E:Env} {Q:Exit→Act→World→Prop}
variable {d:Tmp} {ty t t':TypeId} {pos:String} {after:Array Edge} {g:Option (Nat × Bool)} {x y z:Operand} {k':IntKind}
theorem b3A {rs:List Sp} (hg:bmA l E g=some true) (e:TypeId) (ht:P.underlying t=some (.slice e)) {r:AD} (hr:opE E x=r) (hx:HasP wb r k rs)
 (h:LA P l wb K rest ((d,.val (.int .i64 (rs.length:Int)))::E)):LA P l wb K (⟨some d,.call ⟨.builtin .len,#[x],#[t]⟩,ty,pos,after,g⟩::rest) E:=asA hg e ht hr hx h
theorem atA {rs:List Sp} {j:Nat} (hg:bmA l E g=some true) (e:TypeId) (ht:P.underlying t=some (.slice e)) (hs:∀ w,(sizeOf e).run P w=.ok 2 w)
 {r:AD} (hr:opE E x=r) (hx:HasP wb r k rs) (hi:opE E y=.val (.int k' ((j:Nat):Int))) (hn:j<rs.length)
 (h:LA P l wb K rest ((d,.pred (hpA [.int k (rs.getD j (0,0)).1,.int k (rs.getD j (0,0)).2]))::E)):LA P l wb K (⟨some d,.indexAddr t x y,ty,pos,after,g⟩::rest) E :=
 c3A hg e ht hs hr hx hi j rfl hn (by rw [ivA rs j hn];exact h)
theorem jmA {w0:World} {e b r0:Nat} {v z:Value} {f m:Int} {cs:List Sp} (hg:g=none) (hd:d<N.n) (hel:El P t e z 2 b) (hx:opE E x=.val v) (hown:OwnP w0.heap.size e k wb v cs) (hy:opE E y=.pred (hqA r0 e 2 1 (spV k (f,m)).cells.toList))
 (h63:cs.length+1≤9223372036854775807) (hbytes:(cs.length+1)*b≤140737488355328) (hbase:Ext w0 wb)
 (h:∀ v' w',Ext w0 w'→OwnP w0.heap.size e k w' v' (cs++[(f,m)])→LX P N w' l Q rest ((d,.val v')::vals E)) :
 LX P N wb l Q (⟨some d,.call ⟨.builtin .append,#[x,y],#[t,t]⟩,ty,pos,after,g⟩::rest) E :=
 cpA hg hd hel hx hown hy HasC.own (by intro u hu;simp [spV,Value.cells] at hu;rcases hu with rfl|rfl <;> rfl) h63 hbytes hbase.size (λ v' w w' e1 ho hg'=>h v' w' ((hbase.trans e1).grown hg' (λ q hq=>(Own.lt hown q hq).1))
  (by unfold OwnP;rw [ezA,List.length_append,List.length_singleton];exact ho))
theorem znA {f m f' m':Int} {z0:Value} {b:Nat} {e:TypeId} (hg:bmA l E g=some true) (hel:El P t e z0 2 b) (hx:opE E x=.val (spV k (f,m))) (hy:opE E y=.val (spV k (f',m'))) (h:LA P l wb K rest ((d,.pred (hqA wb.heap.size e 2 2 (ckA k [(f,m),(f',m')])))::E)) :
 LA P l wb K (⟨some d,.buildSlice t 2 #[(0,x),(1,y)],ty,pos,after,g⟩::rest) E:=by
 refine bhA (.pred (hqA wb.heap.size e 2 2 (ckA k [(f,m),(f',m')]))) hg (λ a w he hh=>?_) h;have e1:=hh x (by simp [Op.operands]);have e2:=hh y (by simp [Op.operands]);rw [hx] at e1;rw [hy] at e2;simp only [AD.ok] at e1 e2;have hf:Instr.fill (λ i=>some (i*2,2)) ((Array.range (2*2)).map (λ j=>z0.cells[j % z0.cells.size]!)) [(0,spV k (f,m)),(1,spV k (f',m'))]=some #[.int k f,.int k m,.int k f',.int k m']:=by
  have er:Array.range (2*2)=#[0,1,2,3]:=rfl;rw [er];simp [Instr.fill,spV,Value.cells]
 have hrun:(Instr.buildSlice t 2 #[(0,spV k (f,m)),(1,spV k (f',m'))]).run P w=.ok (.slice (some ⟨w.heap.size,0,none⟩) 2 2) (w.alloc (.cells #[.int k f,.int k m,.int k f',.int k m'] e)):=by
  simp only [Instr.buildSlice,Sem.run_bind,run_underlying hel.ht,Result.andThen_ok,hel.sizeOf,Nat.reduceMul,Nat.reducePow,gt_iff_lt,Nat.reduceLT,if_false,Sem.run_pure,Nat.reduceEqDiff,hel.zero];simp only [Nat.reduceMul] at hf;rw [hf];rfl
 simp only [execOp,List.map_toArray,List.map_cons,List.map_nil,e1,e2,Sem.run_bind,hrun,Result.andThen_ok,Sem.run_pure];exact ⟨Ext.alloc _ _,by simp [ckA],.inr ⟨w.heap.size,2,#[.int k f,.int k m,.int k f',.int k m'],rfl,he.size,heap_alloc_new w _,Nat.le_refl _,by decide,by simp,by simp [ckA]⟩⟩
end
theorem OwnP.row {base e:Nat} {w:World} {v:Value} {rs:List Sp} (h:OwnP base e k w v rs) (hp:0<rs.length) :
 ∃ b cap cur,v=.slice (some ⟨b,0,none⟩) rs.length cap∧base≤b∧w.heap[b]?=some (.cells cur e (0,0))∧rs.length≤cap∧cap≤maxLen∧cur.size=cap*2∧cur.toList.take (rs.length*2)=ckA k rs:=by
 rcases h.2 with ⟨_,h0⟩|⟨b,cap,cur,rfl,h1,h2,h3,h4,h5,h6⟩
 ·omega
 ·exact ⟨b,cap,cur,rfl,h1,h2,h3,h4,h5,h6⟩
theorem OwnP.set2 {base e b cap:Nat} {w:World} {cur:Array Value} {rs:List Sp} (hb:base≤b) (hg:w.heap[b]?=some (.cells cur e (0,0))) (hnc:rs.length≤cap) (hm:cap≤maxLen) (hsz:cur.size=cap*2) (ht:cur.toList.take (rs.length*2)=ckA k rs) (i:Nat) (c:Int) :
 OwnP base e k (w.setRow b (cur.setIfInBounds (i*2+1) (.int k c))) (.slice (some ⟨b,0,none⟩) rs.length cap) (rs.set i ((rs.getD i (0,0)).1,c)):=by
 refine ⟨by rw [g1A],.inr ⟨b,cap,cur.setIfInBounds (i*2+1) (.int k c),by rw [List.length_set],hb,setRow_heap w b cur _ e _ hg,by rw [List.length_set];exact hnc,hm,by simpa using hsz,?_⟩⟩;rw [Array.toList_setIfInBounds,List.length_set,List.take_set,ht,iuA]
end Go.LA
end
section
namespace Go.LA
open Go.RowKit Go.ArrP
def itv (lo hi y:Nat):Bool:=decide (lo≤y) && decide (y<hi)
theorem r6A {lo hi y:Nat} (h1:lo≤y) (h2:y<hi):itv lo hi y=true:=by unfold itv;rw [decide_eq_true h1,decide_eq_true h2];rfl
theorem imA {lo hi y:Nat} (h:y<lo∨hi≤y):itv lo hi y=false:=by
 unfold itv
 rcases h with h|h
 ·rw [decide_eq_false (Nat.not_le.2 h),Bool.false_and]
 ·rw [decide_eq_false (Nat.not_lt.2 h),Bool.and_false]
theorem itv_iff {lo hi y:Nat}:itv lo hi y=true↔lo≤y∧y<hi:=by
 unfold itv;rw [Bool.and_eq_true,decide_eq_true_iff,decide_eq_true_iff]
theorem mpA (lo hi:Nat):∀ T,cnt (itv lo hi) T=min hi T-min lo T
 | 0=>by simp [cnt]
 | T+1=>by
   have ih:=mpA lo hi T
   by_cases h1:lo≤T∧T<hi
   ·have:=r6A h1.1 h1.2
    simp only [cnt,ih,this,if_true];omega
   ·have:=imA (lo:=lo) (hi:=hi) (y:=T) oZ
    simp only [cnt,ih,this,Bool.false_eq_true,if_false];omega
theorem u9A {e:Nat→Bool} {n:Nat} {l:List Int} (hi:Inc l) (hm:∀ z,z ∈ l↔∃ i:Nat,i<n∧e i=true∧z=i):adA e n=l :=
 gbA (bjA _ _) hi (λ z=>by rw [c9A,hm])
theorem xaA {p:Nat→Bool} {a:Nat} (h:∀ x,x<a→p x=false):spL p a=[]:=by
 rw [deA (p:=p) (Nat.zero_le a) (λ x _ hx=>h x hx),e8A]
theorem zhA {p:Nat→Bool} {a:Nat} (h:∀ x,x<a→a≤x+1→p x=false):bel p a=false:=by
 cases a with
 | zero=>rfl
 | succ a=>exact h a (Nat.lt_succ_self a) (Nat.le_refl _)
theorem m7A {p:Nat→Bool} {a lo hi b:Nat} {l:List Sp} (h:spL p a=l) (h1:a<lo∨(a=lo∧a=0)) (h2:lo<hi) (h3:hi≤b) (g1:∀ x,a≤x→x<lo→p x=false) (g2:∀ x,lo≤x→x<hi→p x=true) (g3:∀ x,hi≤x→x<b→p x=false) :
 spL p b=l++[((lo:Int),(hi:Int))]:=by
 have hb:bel p lo=false:=zhA (λ x hx1 hx2=>g1 x oZ hx1);rw [deA h3 g3,psA h2 g2 hb,deA (a:=a) oZ g1,h]
theorem aiB (lo hi T:Nat) (h:hi≤T):spL (itv lo hi) T=if lo<hi then [((lo:Int),(hi:Int))] else []:=by
 by_cases h1:lo<hi
 ·rw [if_pos h1]
  exact m7A (a:=0) (l:=[]) (e8A _) oZ h1 h (λ x _ h3=>imA (.inl h3)) (λ x h2 h3=>r6A h2 h3) (λ x h2 _=>imA (.inr h2))
 ·rw [if_neg h1];exact xaA (λ x _=>imA oZ)
end Go.LA
end
section
namespace Go.LA
open Go.RowKit Go.ArrP Go.ChangeShapes
def c6B (w:World) (a:Option Addr) (len cap:Nat) (rs:List Sp):Prop:=SlP .u64 w (.slice a len cap) rs∧(∀ x ∈ rs,0≤x.1∧x.1<18446744073709551616∧0≤x.2∧x.2<18446744073709551616)∧rs.length=len
section
variable {H:Type} {enc:TypeId × Value→H} {P:Program} {w:World} {base:Nat} {spare:Nat→Bool} {held:Bool}
theorem ovA {t e u:TypeId} {f0 f1:Field} {fuel:Nat} {a:Option Addr} {len cap:Nat} {x:DataW H × List MemPlace} (ht:P.underlying t=some (.slice e)) (he:P.underlying e=some (.struct #[f0,f1])) (hc:P.cellsOf e=2)
 (h0:f0.type=u) (h1:f1.type=u) (o0:f0.offset=0) (o1:f1.offset=1) (hu:P.underlying u=some (.int .u64)) (hcu:P.cellsOf u=1)
 (h:DataW.trod enc P w base spare held fuel t [.slice a len cap]=some x):∃ rs,c6B w a len cap rs:=by
 rcases DataW.trod_slice ht h with ⟨h2,-⟩|⟨ad,len',cap',elems,rest,n,-,h2,-,hb,hl,hm,hlen,hel,-,-⟩
 ·simp only [List.cons.injEq,Value.slice.injEq,and_true] at h2
  obtain ⟨rfl,rfl,rfl⟩:=h2;exact ⟨[],⟨rfl,none,0,rfl,Nat.le_refl _,Nat.zero_le _,λ _=>rfl,.inl rfl⟩,λ x hx=>(by cases hx),rfl⟩
 simp only [List.cons.injEq,Value.slice.injEq,and_true] at h2;obtain ⟨rfl,rfl,rfl⟩:=h2;have each:∀ i,i<len→∃ f m:Int,(0≤f∧f<18446744073709551616∧0≤m∧m<18446744073709551616)∧w.cell? (ad.add (i*2))=some (.int .u64 f)∧w.cell? (ad.add (i*2+1))=some (.int .u64 m):=λ i hi=>by
  have h3:=hel i hi;rw [List.getElem?_eq_getElem oZ,hc,Option.bind_eq_some_iff] at h3;obtain ⟨cs,hcs,hy⟩:=h3;obtain ⟨y0,y1,n',-,hcl,e0,e1⟩:=trod_struct2 he hy;rw [h0,o0,hcu] at e0;rw [h1,o1,hcu] at e1;obtain ⟨f,hf,-,wf0⟩:=DataW.trod_int hu e0;obtain ⟨m,hm',-,wf1⟩:=DataW.trod_int hu e1;have b0:=wf_u64 wf0;have b1:=wf_u64 wf1;have g0:cs[0]?=some (.int .u64 f):=by
   have:=congrArg (λ l=>l[0]?) hf
   simpa [List.getElem?_take,List.getElem?_drop] using this
  have g1:cs[1]?=some (.int .u64 m):=by
   have:=congrArg (λ l=>l[0]?) hm'
   simpa [List.getElem?_take,List.getElem?_drop] using this
  have hcell:=(World.cells?_some hcs).2.2;refine ⟨f,m,⟨b0.1,b0.2,b1.1,b1.2⟩,?_,?_⟩
  ·rw [← g0,← hcell 0 dZ,Addr.add_add,Nat.add_zero]
  ·rw [← g1,← hcell 1 dZ,Addr.add_add]
 obtain ⟨q,hq⟩:∃ q:Nat→Sp,∀ i,i<len→(0≤(q i).1∧(q i).1<18446744073709551616∧0≤(q i).2∧(q i).2<18446744073709551616)∧w.cell? (ad.add (i*2))=some (.int .u64 (q i).1)∧w.cell? (ad.add (i*2+1))=some (.int .u64 (q i).2) :=
  ⟨λ i=>if hi:i<len then (Classical.choose (each i hi),Classical.choose (Classical.choose_spec (each i hi))) else (0,0),λ i hi=>by
   have h5:=Classical.choose_spec (Classical.choose_spec (each i hi));simp only [hi,dif_pos];exact h5⟩
 obtain ⟨rs,hrs⟩:∃ rs,rs=(List.range len).map q:=⟨_,rfl⟩;have hl2:rs.length=len:=by rw [hrs];simp
 have hget:∀ i,i<len→rs.getD i (0,0)=q i:=λ i hi=>by rw [hrs];simp [List.getD,List.getElem?_range hi]
 refine ⟨rs,⟨by rw [g1A],some ad,cap,by rw [hl2],by omega,hm,(λ h=>by cases h),?_⟩,λ x hx=>?_,hl2⟩
 ·by_cases hz:len=0
  ·left;omega
  ·right
   have hx:=(hq 0 oZ).2.1;obtain ⟨b,off,spot⟩:=ad;have hs:spot=none:=by
    cases spot with
    | none=>rfl
    | some s =>
      exfalso
      rw [Nat.zero_mul,Addr.add_zero'] at hx;simp only [World.cell?] at hx
      split at hx <;> simp at hx
   subst hs;refine ⟨b,off,rfl,λ j c hj=>?_⟩;have hjl:j<len*2:=by
    have:=(List.getElem?_eq_some_iff.1 hj).1;rwa [g1A,hl2] at this
   have hi:j / 2<len:=oZ;have hat:=ivA (k:=.u64) rs (j / 2) oZ;rw [hget _ hi] at hat;obtain ⟨-,c0,c1⟩:=hq (j / 2) hi;rw [Addr.add_lit] at c0 c1;have h2:j % 2=0∨j % 2=1:=oZ
   rcases h2 with h2|h2
   ·have e:=congrArg (λ l=>l[0]?) hat
    simp only [List.getElem?_take,List.getElem?_drop,List.getElem?_cons_zero] at e;rw [if_pos dZ,show j / 2*2+0=j by omega,hj] at e;rw [show j / 2*2=j by omega] at c0;rw [c0,Option.some.inj e]
   ·have e:=congrArg (λ l=>l[1]?) hat
    simp only [List.getElem?_take,List.getElem?_drop,List.getElem?_cons_succ,List.getElem?_cons_zero] at e;rw [if_pos dZ,show j / 2*2+1=j by omega,hj] at e;rw [show j / 2*2+1=j by omega] at c1;rw [c1,Option.some.inj e]
 ·rw [hrs,List.mem_map] at hx
  obtain ⟨i,hi,rfl⟩:=hx;exact (hq i (List.mem_range.1 hi)).1
theorem orA {t e:TypeId} {fuel:Nat} {a:Option Addr} {len cap:Nat} {d:DataW H} {ps:List MemPlace} {ts:List TypeId} {ds:List (DataW H)} (ht:P.underlying t=some (.slice e)) (hb:P.bytesOf e=16)
 (h:DataW.trod enc P w base spare held fuel t [.slice a len cap]=some (d,ps)) (hw:(DataW.weights P t d).all (·≤reachBytes)=true):(1+len)*16≤140737488355328:=by
 rcases DataW.trod_slice ht h with ⟨h2,-⟩|⟨ad,len',cap',elems,rest,n,-,h2,hd,-,hl,-,hlen,-,-,-⟩
 ·simp only [List.cons.injEq,Value.slice.injEq,and_true] at h2
  obtain ⟨rfl,rfl,rfl⟩:=h2;decide
 ·simp only [List.cons.injEq,Value.slice.injEq,and_true] at h2
  obtain ⟨rfl,rfl,rfl⟩:=h2;obtain ⟨rfl,-⟩:=Prod.mk.inj hd;unfold DataW.weights at hw;rw [ht] at hw;simp only [List.all_cons,Bool.and_eq_true,decide_eq_true_eq,List.length_map,hb] at hw;have h3:=hw.1;unfold reachBytes at h3;rw [hlen] at h3;have h4:len*16≤(len+rest.length)*16:=Nat.mul_le_mul_right _ oZ;omega
theorem sized_at {gs:List (DataW H)} {vs:List TypeId}:∀ {ts:List TypeId} {ds:List (DataW H)} {j:Nat} {t:TypeId} {d:DataW H},(DataW.weightsEach P (ts++vs) (ds++gs)).all (·≤reachBytes)=true→ts[j]?=some t→ds[j]?=some d→(DataW.weights P t d).all (·≤reachBytes)=true
 | [],_,_,_,_,_,h,_=>by cases h
 | _::_,[],_,_,_,_,_,h=>by cases h
 | t::ts,d::ds,0,_,_,hw,h1,h2=>by
   simp only [List.getElem?_cons_zero,Option.some.injEq] at h1 h2;subst h1;subst h2;simp only [List.cons_append,DataW.weightsEach,List.all_append,Bool.and_eq_true] at hw;exact hw.1
 | t::ts,d::ds,j+1,_,_,hw,h1,h2=>by
   simp only [List.cons_append,DataW.weightsEach,List.all_append,Bool.and_eq_true] at hw;exact sized_at hw.2 h1 h2
end
end Go.LA
end
section
namespace Go.LA
open Go.RowKit Go.ArrP
structure SpW (p:Nat→Bool) (T n:Nat) (lo hi:Nat→Nat):Prop where
 lt:∀ i,i<n→lo i<hi i∧hi i≤T
 up:∀ i,i+1<n→hi i<lo (i+1)
 on:∀ i,i<n→∀ y,lo i≤y→y<hi i→p y=true
 off:∀ i,i+1<n→∀ y,hi i≤y→y<lo (i+1)→p y=false
 pre:∀ y,(0<n→y<lo 0)→y<T→p y=false
 post:0<n→∀ y,hi (n-1)≤y→y<T→p y=false
theorem taA {α:Type} {d x:α} {l:List α} {i:Nat} (hl:0<l.length):(l.set (l.length-1) x).getD i d=if i=l.length-1 then x else l.getD i d:=by
 rw [List.getD_eq_getElem?_getD,List.getElem?_set,List.getD_eq_getElem?_getD]
 by_cases e:l.length-1=i
 ·rw [if_pos e,if_pos oZ,if_pos e.symm];rfl
 ·rw [if_neg e,if_neg (λ h=>e h.symm)]
theorem ffA (p:Nat→Bool):∀ T,∃ lo hi:Nat→Nat,SpW p T (spL p T).length lo hi∧∀ i,i<(spL p T).length→(spL p T).getD i (0,0)=((lo i:Int),(hi i:Int))
 | 0=>⟨λ _=>0,λ _=>0,by
  rw [e8A];exact ⟨λ i h=>by simp at h,λ i h=>by simp at h,λ i h=>by simp at h,λ i h=>by simp at h,λ y _ h=>by omega,λ h=>by simp at h⟩,λ i h=>by rw [e8A] at h;simp at h⟩
 | T+1=>by
   obtain ⟨lo,hi,W,hS⟩:=ffA p T;cases hp:p T with
   | false =>
     rw [deA (p:=p) (Nat.le_succ T) (λ x h1 h2=>by obtain rfl:x=T:=oZ
                                                   exact hp)]
     refine ⟨lo,hi,⟨λ i h=>⟨(W.lt i h).1,by have:=(W.lt i h).2;omega⟩,W.up,W.on,W.off,λ y h1 h2=>?_,λ h y h1 h2=>?_⟩,hS⟩
     ·by_cases e:y=T
      ·subst e;exact hp
      ·exact W.pre y h1 oZ
     ·by_cases e:y=T
      ·subst e;exact hp
      ·exact W.post h y h1 oZ
   | true =>
     have hon:∀ x,T≤x→x<T+1→p x=true:=λ x h1 h2=>by
      obtain rfl:x=T:=oZ;exact hp
     cases hb:bel p T with
     | false =>
       rw [psA (Nat.lt_succ_self T) hon hb];obtain ⟨S,hSd⟩:∃ S,S=spL p T:=⟨_,rfl⟩;rw [← hSd] at W hS ⊢;have hlast:0<S.length→hi (S.length-1)<T:=λ h0=>by
        have h1:=(W.lt (S.length-1) oZ).2
        by_cases e:hi (S.length-1)=T
        ·exfalso
         have h2:=W.lt (S.length-1) oZ;have h3:=W.on (S.length-1) oZ (T-1) oZ oZ;have:bel p T=true:=by
          rw [show T=(T-1)+1 by omega];exact h3
         rw [hb] at this;cases this
        ·omega
       refine ⟨λ i=>if i=S.length then T else lo i,λ i=>if i=S.length then T+1 else hi i,?_,?_⟩
       ·rw [List.length_append,List.length_singleton]
        refine ⟨λ i h=>?_,λ i h=>?_,λ i h y h1 h2=>?_,λ i h y h1 h2=>?_,λ y h1 h2=>?_,λ h y h1 h2=>?_⟩
        ·by_cases e:i=S.length
         ·simp only [if_pos e];omega
         ·simp only [if_neg e];have:=W.lt i oZ;omega
        ·by_cases e:i+1=S.length
         ·simp only [if_pos e,if_neg (show ¬ i=S.length by omega)]
          have:=hlast oZ;rwa [show S.length-1=i by omega] at this
         ·simp only [if_neg e,if_neg (show ¬ i=S.length by omega)];exact W.up i oZ
        ·by_cases e:i=S.length
         ·simp only [if_pos e] at h1 h2;exact hon y h1 h2
         ·simp only [if_neg e] at h1 h2;exact W.on i oZ y h1 h2
        ·by_cases e:i+1=S.length
         ·simp only [if_pos e,if_neg (show ¬ i=S.length by omega)] at h1 h2
          exact W.post oZ y (by rwa [show S.length-1=i by omega]) h2
         ·simp only [if_neg e,if_neg (show ¬ i=S.length by omega)] at h1 h2;exact W.off i oZ y h1 h2
        ·have h3:=h1 oZ
         by_cases e:0=S.length
         ·simp only [if_pos e] at h3;exact W.pre y (λ h=>by omega) h3
         ·simp only [if_neg e] at h3
          have:=W.lt 0 oZ;exact W.pre y (λ _=>h3) oZ
        ·simp only [if_pos (show S.length+1-1=S.length by omega)] at h1;omega
       ·intro i h
        rw [List.length_append,List.length_singleton] at h
        by_cases e:i=S.length
        ·simp only [if_pos e]
         rw [dmA oZ,e,Nat.sub_self];rfl
        ·simp only [if_neg e]
         rw [ewA oZ];exact hS i oZ
     | true =>
       obtain ⟨h0,he⟩:=ptA (Nat.lt_succ_self T) hon hb;have hend:((spL p T).getD ((spL p T).length-1) (0,0)).2=T:=(sp_bel.1 hb).2;rw [he];obtain ⟨S,hSd⟩:∃ S,S=spL p T:=⟨_,rfl⟩;rw [← hSd] at W hS h0 hend ⊢;rw [hS _ oZ] at hend;have hend':hi (S.length-1)=T:=by dsimp only at hend;omega
       refine ⟨lo,λ i=>if i=S.length-1 then T+1 else hi i,?_,?_⟩
       ·rw [List.length_set]
        refine ⟨λ i h=>?_,λ i h=>?_,λ i h y h1 h2=>?_,λ i h y h1 h2=>?_,λ y h1 h2=>?_,λ h y h1 h2=>?_⟩
        ·have:=W.lt i h
         by_cases e:i=S.length-1
         ·simp only [if_pos e];omega
         ·simp only [if_neg e];omega
        ·simp only [if_neg (show ¬ i=S.length-1 by omega)];exact W.up i h
        ·by_cases e:i=S.length-1
         ·simp only [if_pos e] at h2
          by_cases e2:y=T
          ·subst e2;exact hp
          ·exact W.on i h y h1 (by rw [e,hend'];omega)
         ·simp only [if_neg e] at h2;exact W.on i h y h1 h2
        ·simp only [if_neg (show ¬ i=S.length-1 by omega)] at h1;exact W.off i h y h1 h2
        ·have:=h1 h0
         have:=W.lt 0 h0;exact W.pre y h1 oZ
        ·simp only [if_true] at h1;omega
       ·intro i h
        rw [List.length_set] at h;rw [taA h0]
        by_cases e:i=S.length-1
        ·simp only [if_pos e]
         rw [hS _ oZ,e]
        ·simp only [if_neg e];exact hS i h
def ciA (n:Nat) (lo hi:Nat→Nat) (i:Nat) (b:Bool):Nat:=if n≤i then 4611686018427387904 else if b then hi i else lo i
structure EdgeOK (p:Nat→Bool) (T n:Nat) (lo hi:Nat→Nat) (i:Nat) (b:Bool) (last:Nat):Prop where
 le:i≤n
 inn:b=true→i<n
 ge:last≤ciA n lo hi i b
 is:∀ t,last≤t→t<ciA n lo hi i b→t<T→p t=b
variable {p:Nat→Bool} {T n:Nat} {lo hi:Nat→Nat}
theorem jjA (W:SpW p T n lo hi):EdgeOK p T n lo hi 0 false 0:=by
 refine ⟨Nat.zero_le _,λ h=>Bool.noConfusion h,Nat.zero_le _,λ t _ h2 h3=>W.pre t (λ h0=>?_) h3⟩;unfold ciA at h2;rw [if_neg oZ] at h2;exact h2
theorem lrA {i:Nat} {b:Bool} {last next:Nat} (h:EdgeOK p T n lo hi i b last) (h1:last≤next) (h2:next≤ciA n lo hi i b):EdgeOK p T n lo hi i b next :=
 ⟨h.le,h.inn,h2,λ t g1 g2 g3=>h.is t (Nat.le_trans h1 g1) g2 g3⟩
theorem rjA (W:SpW p T n lo hi) {i:Nat} {b:Bool} (h:i<n):ciA n lo hi i b≤T:=by
 have:=W.lt i h;unfold ciA;rw [if_neg oZ];cases b
 ·exact Nat.le_of_lt (Nat.lt_of_lt_of_le this.1 this.2)
 ·exact this.2
theorem riA (W:SpW p T n lo hi) {i last:Nat} (h:EdgeOK p T n lo hi i false last) (hi':i<n):EdgeOK p T n lo hi i true (ciA n lo hi i false):=by
 have:=W.lt i hi';have e1:ciA n lo hi i false=lo i:=by unfold ciA;rw [if_neg oZ];rfl
 have e2:ciA n lo hi i true=hi i:=by unfold ciA;rw [if_neg oZ];rfl
 refine ⟨h.le,λ _=>hi',by rw [e1,e2];omega,λ t g1 g2 _=>?_⟩;rw [e1] at g1;rw [e2] at g2;exact W.on i hi' t g1 g2
theorem nyA (W:SpW p T n lo hi) {i last:Nat} (hT:T≤4294967296) (h:EdgeOK p T n lo hi i true last):EdgeOK p T n lo hi (i+1) false (ciA n lo hi i true):=by
 have hi':=h.inn rfl;have:=W.lt i hi';have e1:ciA n lo hi i true=hi i:=by unfold ciA;rw [if_neg oZ];rfl
 rw [e1]
 by_cases e:i+1<n
 ·have e2:ciA n lo hi (i+1) false=lo (i+1):=by unfold ciA;rw [if_neg oZ];rfl
  have:=W.up i e;exact ⟨hi',λ h=>Bool.noConfusion h,by rw [e2];omega,λ t g1 g2 _=>by rw [e2] at g2;exact W.off i e t g1 g2⟩
 ·have e2:ciA n lo hi (i+1) false=4611686018427387904:=by unfold ciA;rw [if_pos oZ]
  exact ⟨hi',λ h=>Bool.noConfusion h,by rw [e2];omega,λ t g1 _ g3=>W.post oZ t (by rwa [show n-1=i by omega]) g3⟩
theorem ryA {F:Bool→Bool→Bool} {q:Nat→Bool} {n':Nat} {lo' hi':Nat→Nat} {i k:Nat} {a b:Bool} {last next:Nat} (h:EdgeOK p T n lo hi i a last) (h':EdgeOK q T n' lo' hi' k b last)
 (h1:next≤ciA n lo hi i a) (h2:next≤ciA n' lo' hi' k b) (hT:next≤T):∀ t,last≤t→t<next→two F p q t=F a b:=λ t g1 g2=>by
 unfold two;rw [h.is t g1 oZ oZ,h'.is t g1 oZ oZ]
theorem krA {a:Nat}:∀ k,(∀ y,a≤y→y<a+k→p y=true)→cnt p (a+k)=cnt p a+k
 | 0,_=>rfl
 | k+1,h=>by
   have:=krA k (λ y h1 h2=>h y h1 oZ);have h3:=h (a+k) oZ oZ;show cnt p (a+k+1)=_;simp only [cnt,this,h3,if_true];omega
def iaA (T n:Nat) (lo:Nat→Nat) (i:Nat):Nat:=if i<n then lo i else T
theorem fhA {i:Nat} (h:i<n):iaA T n lo i=lo i:=if_pos h
theorem fiA {i:Nat} (h:¬ i<n):iaA T n lo i=T:=if_neg h
theorem k3A (W:SpW p T n lo hi) {i:Nat} (h:i<n):hi i≤iaA T n lo (i+1)∧∀ y,hi i≤y→y<iaA T n lo (i+1)→p y=false:=by
 by_cases e:i+1<n
 ·rw [fhA e];exact ⟨Nat.le_of_lt (W.up i e),W.off i e⟩
 ·rw [fiA e]
  refine ⟨(W.lt i h).2,λ y h1 h2=>W.post oZ y ?_ h2⟩;rwa [show n-1=i by omega]
theorem k4A (W:SpW p T n lo hi):cnt p (iaA T n lo 0)=0 :=
 dyA _ (λ y h=>W.pre y (λ h0=>by rwa [fhA h0] at h) (by
  by_cases e:0<n
  ·rw [fhA e] at h;have:=W.lt 0 e;omega
  ·rwa [fiA e] at h))
theorem y0A (W:SpW p T n lo hi) {i:Nat} (h:i<n):cnt p (iaA T n lo (i+1))=cnt p (lo i)+(hi i-lo i):=by
 obtain ⟨h1,h2⟩:=k3A W h;have h3:=W.lt i h;have h4:=krA (p:=p) (a:=lo i) (hi i-lo i) (λ y g1 g2=>W.on i h y g1 oZ);rw [show lo i+(hi i-lo i)=hi i by omega] at h4;rw [g0A _ h1 h2,h4]
theorem trA (W:SpW p T n lo hi) {i:Nat} (h:i<n) (x:Nat):cnt p (min x (iaA T n lo (i+1)))=cnt p (min x (lo i))+(min (hi i) x-lo i):=by
 obtain ⟨h1,h2⟩:=k3A W h;have h3:=W.lt i h
 by_cases e1:x≤lo i
 ·rw [Nat.min_eq_left oZ,Nat.min_eq_left e1];omega
 ·rw [Nat.min_eq_right (a:=x) (b:=lo i) oZ]
  have h4:=krA (p:=p) (a:=lo i) (min (hi i) x-lo i) (λ y g1 g2=>W.on i h y g1 oZ);rw [← h4]
  by_cases e2:x≤hi i
  ·rw [Nat.min_eq_left oZ,Nat.min_eq_right e2,show lo i+(x-lo i)=x by omega]
  ·rw [Nat.min_eq_left (a:=hi i) oZ,show lo i+(hi i-lo i)=hi i by omega]
   exact g0A _ oZ (λ y g1 g2=>h2 y g1 oZ)
theorem raA (W:SpW p T n lo hi) {x:Nat} (hp:p x=true):∀ i,i≤n→x<iaA T n lo i→∃ j,j<i∧lo j≤x∧x<hi j
 | 0,_,h=>by
   have:p x=false:=W.pre x (λ h0=>by rwa [fhA h0] at h) (by
    by_cases e:0<n
    ·rw [fhA e] at h;have:=W.lt 0 e;omega
    ·rwa [fiA e] at h)
   rw [hp] at this;cases this
 | i+1,hi',h=>by
   by_cases e1:x<lo i
   ·obtain ⟨j,g1,g2⟩:=raA W hp i oZ (by rw [fhA oZ];exact e1)
    exact ⟨j,by omega,g2⟩
   ·by_cases e2:x<hi i
    ·exact ⟨i,by omega,by omega,e2⟩
    ·have:=(k3A W oZ).2 x oZ h
     rw [hp] at this;cases this
end Go.LA
end
