import Derived.Scope
import Derived.Lib.Overlaps
import Derived.Laws.Externs
import Derived.Laws.OwnMore
import Init
import Derived.Test.YtbokphkfojijoaaGreatDoorM2
set_option linter.unusedSimpArgs false
set_option linter.unusedVariables false
set_option maxRecDepth 3000
set_option maxHeartbeats 16000000
section
namespace Go.LA
open Go.RowKit
section
variable {P:Program} {l:List Oper} {N:Nn} {wb:World} {K:List Oper→Env→Prop} {rest:List Oper} {E:Env} {Q:Exit→Act→World→Prop}
variable {d:Tmp} {ty t t':TypeId} {pos:String} {after:Array Edge} {g:Option (Nat × Bool)} {x y z:Operand} {k k':IntKind}
theorem j0A {w:World} {u:Value} {m s j:Nat} {xs:List Value} (h:SlC w u m s xs) (hj:j≤m):(Builtin.firstCells s j u).run P w=.ok (xs.take (j*s)).toArray w:=by
 obtain ⟨h0,a,cap,rfl,hc,hm,hn,hcs⟩:=h;have hlen:(xs.take (j*s)).length=j*s:=by
  rw [List.length_take,h0];exact Nat.min_eq_left (Nat.mul_le_mul_right _ hj)
 cases a with
 | none =>
   obtain rfl:=hn rfl;obtain rfl:m=0:=oZ;obtain rfl:j=0:=oZ;simp [Builtin.firstCells]
 | some a =>
   show (loadCells a (j*s)).run P w=_
   rw [← hlen];rw [run_loadCells_list w a (xs.take (j*s)) (λ i v hv=>?_)]
   ·rw [hlen]
   ·rw [List.getElem?_take] at hv
    split at hv
    ·rcases hcs with rfl|⟨b,off,ha,hc'⟩
     ·have:j=0:=oZ
      subst this;simp at *
     ·obtain rfl:=Option.some.inj ha
      rw [Addr.add_lit];exact hc' i v hv
    ·cases hv
theorem lvA {w:World} {base e s n m:Nat} {v u z:Value} {b:Nat} {cs xs:List Value} (hel:El P t e z s b) (hown:Own base e s w v n cs) (hsrc:SlC w u m s xs) (i:Nat) (hi:i≤n) (h1:∀ c ∈ xs.take (min m (n-i)*s),c.oneCell'=true) (tt:TypeId) :
 ∃ w',(Builtin.copy_ #[t,tt] ty #[fcA v i n s,u]).run P w=.ok (goInt ((min m (n-i):Nat):Int)) w' ∧
  Own base e s w' v n (cs.take (i*s)++xs.take (min m (n-i)*s)++cs.drop ((i+min m (n-i))*s))∧w.grownBy w' v.ownBlock:=by
 have hlen:∀ u',(∃ a c,u'=Value.slice a m c)→(Builtin.lenOf u').run P w=.ok m w:=by rintro _ ⟨a,c,rfl⟩;rfl
 have hf:=j0A (P:=P) hsrc (Nat.min_le_left m (n-i));have hcl:=hown.1
 rcases hown.2 with ⟨rfl,rfl⟩|⟨gb,cap,cur,rfl,hb,hg,hnc,hm,hsz,htake⟩
 ·obtain rfl:i=0:=oZ
  refine ⟨w,?_,?_,⟨rfl,rfl,rfl,Nat.le_refl _,λ _ _ _=>rfl⟩⟩
  ·simp only [Nat.zero_sub,Nat.min_zero,Nat.sub_zero] at hf ⊢
   have e1:fcA (.slice none 0 0) 0 0 s=.slice none 0 0:=by simp [fcA,sliced]
   rw [e1];simp only [Builtin.copy_,Sem.run_bind,run_underlying hel.ht,Result.andThen_ok,hlen u hsrc.isSlice,hel.sizeOf];simp [run_underlying hel.ht,hlen u hsrc.isSlice,hel.sizeOf,hf]
  ·have:cs=[]:=List.eq_nil_of_length_eq_zero (by simpa using hcl)
   subst this
   simpa using hown
 ·have hks:(xs.take (min m (n-i)*s)).length=min m (n-i)*s:=by
   rw [List.length_take,hsrc.1];exact Nat.min_eq_left (Nat.mul_le_mul_right _ (Nat.min_le_left _ _))
  have hle:i*s+min m (n-i)*s≤n*s:=by
   rw [← Nat.add_mul];exact Nat.mul_le_mul_right _ oZ
  have hcap:n*s≤cap*s:=Nat.mul_le_mul_right _ hnc;have hst:=run_storeCells_at P gb (i*s) e (xs.take (min m (n-i)*s)) 0 cur w hg (by rw [hks,hsz];omega) h1;simp only [Nat.add_zero,hks] at hst;refine ⟨w.setRow gb (cur.toList.take (i*s)++xs.take (min m (n-i)*s)++cur.toList.drop (i*s+min m (n-i)*s)).toArray,?_,?_,?_⟩
  ·by_cases hci:cap=i
   ·have e0:min m (n-i)=0:=oZ
    rw [e0] at hst hf ⊢;simp only [Nat.zero_mul,List.take_zero,List.append_nil,Nat.add_zero,List.take_append_drop,Array.toArray_toList] at hst hf ⊢;rw [setRow_self w gb cur e (0,0) hg];have e1:fcA (.slice (some ⟨gb,0,none⟩) n cap) i n s=.slice (some ⟨gb,0,none⟩) (n-i) (cap-i):=by simp only [fcA,sliced];rw [if_pos hci]
    rw [e1];simp only [Builtin.copy_,Sem.run_bind,run_underlying hel.ht,Result.andThen_ok,hlen u hsrc.isSlice,hel.sizeOf,List.getElem?_toArray,List.getElem?_cons_zero,List.getElem?_cons_succ,Nat.min_eq_min,e0,hf,storeCells];simp [storeCells]
   ·have e1:fcA (.slice (some ⟨gb,0,none⟩) n cap) i n s=.slice (some ⟨gb,i*s,none⟩) (n-i) (cap-i):=by simp only [fcA,sliced];rw [if_neg hci];simp [Addr.add_lit]
    rw [e1];simp only [Builtin.copy_,Sem.run_bind,run_underlying hel.ht,Result.andThen_ok,hlen u hsrc.isSlice,hel.sizeOf,List.getElem?_toArray,List.getElem?_cons_zero,List.getElem?_cons_succ,Nat.min_eq_min,hf,hst];simp [hst]
  ·refine ⟨?_,.inr ⟨gb,cap,_,rfl,hb,setRow_heap w gb cur _ e _ hg,hnc,hm,?_,?_⟩⟩
   ·simp only [List.length_append,List.length_take,List.length_drop,hcl,hks,hsrc.1,Nat.add_mul]
    have:=Nat.min_eq_left (Nat.mul_le_mul_right s (Nat.min_le_left m (n-i)));omega
   ·simp only [List.size_toArray,List.length_append,List.length_take,List.length_drop,Array.length_toList,hsz,hks,hsrc.1]
    have:=Nat.min_eq_left (Nat.mul_le_mul_right s (Nat.min_le_left m (n-i)));omega
   ·rw [← htake]
    have l1:(cur.toList.take (i*s)).length=i*s:=by rw [List.length_take,Array.length_toList,hsz];omega
    simp only [List.take_take,Nat.add_mul];rw [List.take_append,List.take_append,List.length_append,l1,hks,Nat.min_eq_left (by omega:i*s≤n*s)];rw [List.take_of_length_le (by omega:(cur.toList.take (i*s)).length≤n*s),List.take_of_length_le (by omega:(xs.take (min m (n-i)*s)).length≤n*s-i*s),List.drop_take]
  ·exact ⟨rfl,rfl,rfl,by simp,λ k _ hk=>setRow_other w gb k _ (λ e=>hk (by simp [Value.ownBlock,e]))⟩
theorem j1A {w:World} {e s b n kn:Nat} {v z:Value} {cap:Nat} {a:Option Addr} {cs:List Value} {tn:TypeId} {kd kd':IntKind} (hel:El P t e z s b) (htn:P.underlying tn=some (.int kd')) (hv:SlC w (.slice a n cap) n s cs) (hroom:cap<n+kn) (hk:0<kn)
 (hz1:∀ c ∈ z.cells.toList,c.oneCell'=true) (hbytes:(n+kn)*b≤140737488355328) (h63:n+kn≤9223372036854775807) :
 ∃ (v':Value) (w':World) (zs:List Value),(Builtin.append_ #[t,tn] ty #[.slice a n cap,.int kd (kn:Int)]).run P w=.ok v' w'∧zs.length=kn*s∧(∀ c ∈ zs,c.oneCell'=true)∧Own w.heap.size e s w' v' (n+kn) (cs++zs)∧Ext w w':=by
 obtain ⟨i,hi1,hi2,hi3,hi4⟩:=hel.parts;have hf:=j0A (P:=P) hv (Nat.le_refl n);have hcl:=hv.1;have hle1:kn*b≤(n+kn)*b:=Nat.mul_le_mul_right _ oZ;have hw:IntKind.i64.wrap (kn:Int)=kn:=by rw [IntKind.wrap_i64];omega
 have hneg:¬ ((kn:Int)<0):=oZ;have h48i:¬ (281474976710656<(kn:Int)*(i.bytes:Int)):=by
  rw [hi4,← Int.natCast_mul];omega
 have h48:=growslice_fits (old:=cap) (need:=n+kn) (bytes:=i.bytes) oZ (by rw [hi4];exact hbytes);have hneed:¬ (n+kn≤cap):=oZ;have hns:¬ (kn*i.size=0):=by rw [hi3];exact Nat.mul_ne_zero oZ (by have:=hel.pos;omega)
 have hzc:∀ j,(Builtin.zeroCells z.cells j).toList.length=j*s:=λ j=>by simp [Builtin.zeroCells,hel.zs]
 have hz1':∀ j,∀ c ∈ (Builtin.zeroCells z.cells j).toList,c.oneCell'=true:=λ j c hc=>by
  simp only [Builtin.zeroCells,Array.toList_map,List.mem_map] at hc;obtain ⟨q,_,rfl⟩:=hc;refine hz1 _ ?_
  have:q % z.cells.size<z.cells.size:=Nat.mod_lt _ (by rw [hel.zs];exact hel.pos);rw [getElem!_pos z.cells _ this];simp
 refine ⟨.slice (some ⟨w.heap.size,0,none⟩) (n+kn) (grownCap w (n+kn) cap e),w.drew.alloc (.cells (cs.toArray++Builtin.zeroCells z.cells kn++Builtin.zeroCells z.cells (grownCap w (n+kn) cap e-(n+kn))) e),(Builtin.zeroCells z.cells kn).toList,?_,hzc kn,hz1' kn,?_,?_⟩
 ·have hf':(Builtin.firstCells i.size n (.slice a n cap)).run P w.drew=.ok cs.toArray w.drew:=by
   have:=j0A (P:=P) (w:=w.drew) (hv.ext ⟨rfl,rfl,rfl,Nat.le_refl _,λ _ _=>rfl⟩) (Nat.le_refl n);rw [hi3];rw [List.take_of_length_le (by rw [hcl];exact Nat.le_refl _)] at this;exact this
  have h64:¬ (9223372036854775807<((n+kn:Nat):Int)):=oZ;simp [Builtin.append_,run_underlying hel.ht,run_underlying htn,sizeOf,typeInfo,zeroValue,hi1,hi2,asInt,asIntOf,hw,hneg,h48i,hneed,hns,h48,Question.forced,newRow,grownCap,hf'];rw [if_neg oZ,if_neg oZ]
 ·exact ⟨by rw [List.length_append,hcl,hzc,Nat.add_mul],.inr ⟨w.heap.size,grownCap w (n+kn) cap e,_,rfl,Nat.le_refl _,heap_alloc_new w.drew _,grownCap_ge ..,grownCap_le_maxLen _ _ _ _ (by unfold maxLen;omega),by
   have:=grownCap_ge w (n+kn) cap e;simp [hcl,Builtin.zeroCells,hel.zs];rw [← Nat.add_assoc,← Nat.add_mul,← Nat.add_mul];congr 1;omega,by
   have l1:(cs++(Builtin.zeroCells z.cells kn).toList).length=(n+kn)*s:=by rw [List.length_append,hcl,hzc,Nat.add_mul]
   rw [Array.toList_append,Array.toList_append];rw [List.take_append_of_le_length (by rw [← l1];simp),List.take_of_length_le (by rw [← l1];simp)]⟩⟩
 ·exact ⟨rfl,rfl,rfl,by simp,λ k hk=>heap_alloc_old w.drew _ hk⟩
theorem xhA {c:Code} (h:CX P N wb c E (Exit.noGoto Q)):CX P N wb (.scope c) E Q:=by unfold CX at *;exact λ a w st=>wp_scope_straight (h a w st)
theorem tjA (h:PX N wb Q .ret E):PX N wb (Exit.noGoto Q) .ret E:=by unfold PX at *;exact h
theorem dtA {a b:Int} {ats:Array TypeId} (hg:bkA l E g=some true) (hx:opE E x=.val (.int k a)) (hy:opE E y=.val (.int k' b)) (h:LA P l wb K rest ((d,.val (.int k (min a b)))::E)) :
 LA P l wb K (⟨some d,.call ⟨.builtin .min,#[x,y],ats⟩,ty,pos,after,g⟩::rest) E :=
 bcA _ hg (btA λ ac w he hh=>by
  have e1:=hh x (by simp [Op.operands,Call.operands]);have e2:=hh y (by simp [Op.operands,Call.operands]);rw [hx] at e1;rw [hy] at e2;simp only [AD.ok] at e1 e2;have:(Builtin.min_ ats ty #[.int k a,.int k' b]).run P w=.ok (.int k (min a b)) w:=by
   simp only [Builtin.min_,List.foldlM,Builtin.min2];have:(if b<a then b else a)=min a b:=oZ;simp [this]
  simp only [execOp,resolve,Sem.run_bind,Sem.run_pure,Result.andThen_ok,List.map_toArray,List.map_cons,List.map_nil,e1,e2,invoke,builtin,this]) h
theorem fxA {a b:Int} {ats:Array TypeId} (hg:bkA l E g=some true) (hx:opE E x=.val (.int k a)) (hy:opE E y=.val (.int k' b)) (h:LA P l wb K rest ((d,.val (.int k (max a b)))::E)) :
 LA P l wb K (⟨some d,.call ⟨.builtin .max,#[x,y],ats⟩,ty,pos,after,g⟩::rest) E :=
 bcA _ hg (btA λ ac w he hh=>by
  have e1:=hh x (by simp [Op.operands,Call.operands]);have e2:=hh y (by simp [Op.operands,Call.operands]);rw [hx] at e1;rw [hy] at e2;simp only [AD.ok] at e1 e2;have:(Builtin.max_ ats ty #[.int k a,.int k' b]).run P w=.ok (.int k (max a b)) w:=by
   simp only [Builtin.max_,List.foldlM,Builtin.max2];have:(if b > a then b else a)=max a b:=oZ;simp [this]
  simp only [execOp,resolve,Sem.run_bind,Sem.run_pure,Result.andThen_ok,List.map_toArray,List.map_cons,List.map_nil,e1,e2,invoke,builtin,this]) h
theorem jxA {e:TypeId} {a:Option Addr} {n c:Nat} (hg:bkA l E g=some true) (ht:P.underlying t=some (.slice e)) (hx:opE E x=.val (.slice a n c)) (h:LA P l wb K rest ((d,.val (.int .i64 c))::E)) :
 LA P l wb K (⟨some d,.call ⟨.builtin .cap,#[x],#[t]⟩,ty,pos,after,g⟩::rest) E :=
 bcA _ hg (btA λ ac w he hh=>by
  have e1:=hh x (by simp [Op.operands,Call.operands]);rw [hx] at e1;simp only [AD.ok] at e1;have:(Builtin.cap_ #[t] ty #[.slice a n c]).run P w=.ok (goInt c) w:=by simp [Builtin.cap_,run_underlying ht]
  simp only [execOp,resolve,Sem.run_bind,Sem.run_pure,Result.andThen_ok,List.map_toArray,List.map_cons,List.map_nil,e1,invoke,builtin,this];rfl) h
theorem fnA {c:Value} (hg:bkA l E g=some true) (hr:∀ w,(Instr.build t #[]).run P w=.ok c w) (h:LA P l wb K rest ((d,.val c)::E)) :
 LA P l wb K (⟨some d,.build t #[],ty,pos,after,g⟩::rest) E :=
 bcA _ hg (btA λ a w he hh=>by
  have:=hr w;simp only [execOp,List.map_toArray,List.map_nil,Sem.run_bind,this,Result.andThen_ok,Sem.run_pure]) h
theorem a1A {a a':Addr} {f:Nat} (hg:bkA l E g=some true) (hx:opE E x=.val (.pointer (some a))) (hr:∀ w,(Instr.fieldAt t (.pointer (some a)) f).run P w=.ok (.pointer (some a')) w)
 (h:LA P l wb K rest ((d,.val (.pointer (some a')))::E)):LA P l wb K (⟨some d,.fieldAddr t x f,ty,pos,after,g⟩::rest) E :=
 bcA _ hg (btA λ ac w he hh=>by
  have e1:=hh x (by simp [Op.operands]);rw [hx] at e1;simp only [AD.ok] at e1;simp only [execOp,Sem.run_bind,e1,hr,Result.andThen_ok,Sem.run_pure]) h
theorem a9A {a:Addr} (hg:bkA l E g=some true) (hx:opE E x=.val (.pointer (some a))) (h:LA P l wb K rest ((d,.val (.pointer (some a)))::E)) :
 LA P l wb K (⟨some d,.nilCheck x,ty,pos,after,g⟩::rest) E :=
 bcA _ hg (btA λ ac w he hh=>by
  have e1:=hh x (by simp [Op.operands]);rw [hx] at e1;simp only [AD.ok] at e1;simp only [execOp,e1,Sem.run_pure]) h
theorem bqA {op:BinOp} {u v c:Value} (hg:bkA l E g=some true) (hx:opE E x=.val u) (hy:opE E y=.val v) (hr:∀ w,(do eqGuard op t x y u v;binOp op t u v:Sem Value).run P w=.ok c w)
 (h:LA P l wb K rest ((d,.val c)::E)):LA P l wb K (⟨some d,.binOp op t x y t',ty,pos,after,g⟩::rest) E :=
 bcA _ hg (btA λ ac w he hh=>by
  have e1:=hh x (by simp [Op.operands]);have e2:=hh y (by simp [Op.operands]);rw [hx] at e1;rw [hy] at e2;simp only [AD.ok] at e1 e2;have:=hr w;simp only [execOp,Sem.run_bind,e1,e2,Result.andThen_ok,Sem.run_pure] at this ⊢;rw [this];rfl) h
theorem bjA {b off n cap s:Nat} {e:TypeId} {i:Int} (hg:bkA l E g=some true) (ht:P.underlying t=some (.slice e)) (hs:∀ w,(sizeOf e).run P w=.ok s w) (hx:opE E x=.val (.slice (some ⟨b,off,none⟩) n cap))
 (hy:opE E y=.val (.int k i)) (h0:0≤i) (h1:i<n) (h:LA P l wb K rest ((d,.val (.pointer (some ⟨b,off+i.toNat*s,none⟩)))::E)) :
 LA P l wb K (⟨some d,.indexAddr t x y,ty,pos,after,g⟩::rest) E :=
 bcA _ hg (btA λ a w he hh=>by
  have e1:=hh x (by simp [Op.operands]);have e2:=hh y (by simp [Op.operands]);rw [hx] at e1;rw [hy] at e2;simp only [AD.ok] at e1 e2;obtain ⟨j,rfl⟩:∃ j:Nat,i=j:=⟨i.toNat,by omega⟩;have hn:j<n:=oZ;have hrun:(Instr.indexAt t (.slice (some ⟨b,off,none⟩) n cap) (.int k (j:Int))).run P w=.ok (.pointer (some (Addr.add ⟨b,off,none⟩ (j*s)))) w:=by
   simp [Instr.indexAt,run_underlying ht,asIntOf,hs,hn,Instr.sureAddr]
  simp only [execOp,e1,e2,Sem.run_bind,hrun,Result.andThen_ok,Sem.run_pure,Addr.add_lit,Int.toNat_natCast]) h
theorem OwnI.row {base e:Nat} {kd:IntKind} {w:World} {v:Value} {xs:List Int} (h:OwnI base e kd w v xs) (hp:0<xs.length) :
 ∃ b cap cur,v=.slice (some ⟨b,0,none⟩) xs.length cap∧base≤b∧w.heap[b]?=some (.cells cur e (0,0))∧xs.length≤cap∧cap≤maxLen∧cur.size=cap∧cur.toList.take xs.length=xs.map (Value.int kd):=by
 rcases h.2 with ⟨_,h0⟩|⟨gb,cap,cur,h1,hb,hg,hnc,hm,hsz,htake⟩
 ·omega
 ·exact ⟨gb,cap,cur,h1,hb,hg,hnc,hm,by simpa using hsz,by simpa using htake⟩
theorem OwnI.set {base e b cap:Nat} {kd:IntKind} {w:World} {cur:Array Value} {xs:List Int} (hb:base≤b) (hg:w.heap[b]?=some (.cells cur e (0,0))) (hnc:xs.length≤cap) (hm:cap≤maxLen) (hsz:cur.size=cap) (ht:cur.toList.take xs.length=xs.map (Value.int kd)) (i:Nat) (hi:i<xs.length) (c:Int) :
 OwnI base e kd (w.setRow b (cur.setIfInBounds i (.int kd c))) (.slice (some ⟨b,0,none⟩) xs.length cap) (xs.set i c):=by
 refine ⟨by simp,.inr ⟨b,cap,cur.setIfInBounds i (.int kd c),by simp,hb,setRow_heap w b cur _ e _ hg,by simpa using hnc,hm,by simpa using hsz,?_⟩⟩;rw [Array.toList_setIfInBounds,List.map_set,← ht];simp only [Nat.mul_one,List.length_set];rw [List.take_set]
theorem bfA {b o:Nat} {cur:Array Value} {e:TypeId} {c:Value} (hg:g=none) (hx:opE E x=.val (.pointer (some ⟨b,o,none⟩))) (hy:opE E y=.val c) (hb:wb.heap[b]?=some (.cells cur e (0,0)))
 (hs:∀ w,(sizeOf t).run P w=.ok 1 w) (ho:o<cur.size) (hc:c.cells=#[c]) (h1:c.oneCell'=true) (h:∀ w,Ext wb w→LX P N (w.setRow b (cur.setIfInBounds o c)) l Q rest (vals E)) :
 LX P N wb l Q (⟨none,.store t x y,ty,pos,after,g⟩::rest) E:=by
 unfold LX;intro a w st;have e1:=st.opd x;rw [hx] at e1;simp only [AD.ok] at e1;have e2:=st.opd y;rw [hy] at e2;simp only [AD.ok] at e2;have hrun:(Instr.storeAt t (.pointer (some ⟨b,o,none⟩)) c).run P w=.ok () (w.setRow b (cur.setIfInBounds o c)):=by
  have hst:=run_storeCells_at P b o e [c] 0 cur w (st.ext.block hb) (by simp;omega) (by simpa using h1);have e3:(cur.toList.take (o+0)++[c]++cur.toList.drop (o+0+[c].length)).toArray=cur.setIfInBounds o c:=by
   apply Array.ext'
   rw [Array.toList_setIfInBounds,List.set_eq_take_append_cons_drop,if_pos (by simpa using ho)];simp
  rw [e3] at hst;simp only [Instr.storeAt,Instr.sureAddr,storeVar,Sem.run_bind,Sem.run_pure,Result.andThen_ok,hs,hc,ne_eq,if_false,List.size_toArray,List.length_cons,List.length_nil,Nat.zero_add,not_true_eq_false,hst]
 refine wpList_plain hg λ Kc hK=>?_
 unfold Oper.wp;simp only [execOp,Sem.run_bind,e1,e2,hrun,Result.andThen_ok,Sem.run_pure,Oper.upon];refine hK _ _ ?_
 have h2:=h w st.ext;unfold LX at h2;exact h2 _ _ (st.vals (w':=w.setRow b (cur.setIfInBounds o c)))
theorem cmA {f:FuncId} {ats:Array TypeId} {fv:Operand} {v1:Value} (hg:g=none) (hd:d<N.n) (hfv:opE E fv=.val (.func (.func f) #[] #[])) (hv1:opE E x=.val v1) (R:Value→World→Prop)
 (hc:∀ w,Ext wb w→Fc P f #[v1] w (λ e w'=>∃ v,e=.returned v∧R v w')) (h:∀ v w,R v w→LX P N w l Q rest ((d,.val v)::vals E)) :
 LX P N wb l Q (⟨some d,.call ⟨.value fv,#[x],ats⟩,ty,pos,after,g⟩::rest) E:=by
 unfold LX;intro a w st;have h0:=st.opd fv;rw [hfv] at h0;simp only [AD.ok] at h0;have ev1:=st.opd x;rw [hv1] at ev1;simp only [AD.ok] at ev1;have hcc:=hc w st.ext;refine wpList_plain hg λ Kc hK=>?_
 unfold Oper.wp;rw [csA h0 (Fc.run hcc _ _)];simp only [Oper.upon,List.map_toArray,List.map_cons,List.map_nil,ev1];refine hcc.calls.mono ?_
 rintro e w' ⟨v,rfl,hv⟩;refine hK _ _ ?_
 have h2:=h v w' hv;unfold LX at h2;exact h2 _ _ ((st.vals (w':=w')).push (Ext.refl _) (dst:=some d) (r:=.val v) (λ d' hd'=>by cases hd';exact hd) (.inr rfl))
theorem goA {f:FuncId} {ats:Array TypeId} {fv:Operand} {v1 v2:Value} (hg:g=none) (hd:d<N.n) (hfv:opE E fv=.val (.func (.func f) #[] #[])) (hv1:opE E x=.val v1) (hv2:opE E y=.val v2) (R:Value→World→Prop)
 (hc:∀ w,Ext wb w→Fc P f #[v1,v2] w (λ e w'=>∃ v,e=.returned v∧R v w')) (h:∀ v w,R v w→LX P N w l Q rest ((d,.val v)::vals E)) :
 LX P N wb l Q (⟨some d,.call ⟨.value fv,#[x,y],ats⟩,ty,pos,after,g⟩::rest) E:=by
 unfold LX;intro a w st;have h0:=st.opd fv;rw [hfv] at h0;simp only [AD.ok] at h0;have ev1:=st.opd x;rw [hv1] at ev1;simp only [AD.ok] at ev1;have ev2:=st.opd y;rw [hv2] at ev2;simp only [AD.ok] at ev2;have hcc:=hc w st.ext;refine wpList_plain hg λ Kc hK=>?_
 unfold Oper.wp;rw [csA h0 (Fc.run hcc _ _)];simp only [Oper.upon,List.map_toArray,List.map_cons,List.map_nil,ev1,ev2];refine hcc.calls.mono ?_
 rintro e w' ⟨v,rfl,hv⟩;refine hK _ _ ?_
 have h2:=h v w' hv;unfold LX at h2;exact h2 _ _ ((st.vals (w':=w')).push (Ext.refl _) (dst:=some d) (r:=.val v) (λ d' hd'=>by cases hd';exact hd) (.inr rfl))
theorem d5A {f:FuncId} {ats:Array TypeId} {fv:Operand} {v1 v2 v3:Value} (hg:g=none) (hd:d<N.n) (hfv:opE E fv=.val (.func (.func f) #[] #[])) (hv1:opE E x=.val v1) (hv2:opE E y=.val v2) (hv3:opE E z=.val v3) (R:Value→World→Prop)
 (hc:∀ w,Ext wb w→Fc P f #[v1,v2,v3] w (λ e w'=>∃ v,e=.returned v∧R v w')) (h:∀ v w,R v w→LX P N w l Q rest ((d,.val v)::vals E)) :
 LX P N wb l Q (⟨some d,.call ⟨.value fv,#[x,y,z],ats⟩,ty,pos,after,g⟩::rest) E:=by
 unfold LX;intro a w st;have h0:=st.opd fv;rw [hfv] at h0;simp only [AD.ok] at h0;have ev1:=st.opd x;rw [hv1] at ev1;simp only [AD.ok] at ev1;have ev2:=st.opd y;rw [hv2] at ev2;simp only [AD.ok] at ev2;have ev3:=st.opd z;rw [hv3] at ev3;simp only [AD.ok] at ev3;have hcc:=hc w st.ext;refine wpList_plain hg λ Kc hK=>?_
 unfold Oper.wp;rw [csA h0 (Fc.run hcc _ _)];simp only [Oper.upon,List.map_toArray,List.map_cons,List.map_nil,ev1,ev2,ev3];refine hcc.calls.mono ?_
 rintro e w' ⟨v,rfl,hv⟩;refine hK _ _ ?_
 have h2:=h v w' hv;unfold LX at h2;exact h2 _ _ ((st.vals (w':=w')).push (Ext.refl _) (dst:=some d) (r:=.val v) (λ d' hd'=>by cases hd';exact hd) (.inr rfl))
theorem e5A {f:FuncId} {ats:Array TypeId} {fv:Operand} {q:Operand} {v1 v2 v3 v4:Value} (hg:g=none) (hd:d<N.n) (hfv:opE E fv=.val (.func (.func f) #[] #[])) (hv1:opE E x=.val v1) (hv2:opE E y=.val v2) (hv3:opE E z=.val v3) (hv4:opE E q=.val v4) (R:Value→World→Prop)
 (hc:∀ w,Ext wb w→Fc P f #[v1,v2,v3,v4] w (λ e w'=>∃ v,e=.returned v∧R v w')) (h:∀ v w,R v w→LX P N w l Q rest ((d,.val v)::vals E)) :
 LX P N wb l Q (⟨some d,.call ⟨.value fv,#[x,y,z,q],ats⟩,ty,pos,after,g⟩::rest) E:=by
 unfold LX;intro a w st;have h0:=st.opd fv;rw [hfv] at h0;simp only [AD.ok] at h0;have ev1:=st.opd x;rw [hv1] at ev1;simp only [AD.ok] at ev1;have ev2:=st.opd y;rw [hv2] at ev2;simp only [AD.ok] at ev2;have ev3:=st.opd z;rw [hv3] at ev3;simp only [AD.ok] at ev3;have ev4:=st.opd q;rw [hv4] at ev4;simp only [AD.ok] at ev4;have hcc:=hc w st.ext;refine wpList_plain hg λ Kc hK=>?_
 unfold Oper.wp;rw [csA h0 (Fc.run hcc _ _)];simp only [Oper.upon,List.map_toArray,List.map_cons,List.map_nil,ev1,ev2,ev3,ev4];refine hcc.calls.mono ?_
 rintro e w' ⟨v,rfl,hv⟩;refine hK _ _ ?_
 have h2:=h v w' hv;unfold LX at h2;exact h2 _ _ ((st.vals (w':=w')).push (Ext.refl _) (dst:=some d) (r:=.val v) (λ d' hd'=>by cases hd';exact hd) (.inr rfl))
theorem dgB {n:Int} (hg:bkA l E g=some true) (hx:opE E x=.val (.int k n)) (h:LA P l wb K rest ((d,.val (.int k (k.wrap (-n))))::E)):LA P l wb K (⟨some d,.unOp .neg t x,ty,pos,after,g⟩::rest) E :=
 bcA _ hg (btA λ a w he hh=>by
  have h0:=hh x (by simp [Op.operands]);rw [hx] at h0;simp only [AD.ok] at h0;simp [execOp,h0,Op.unary,Op.intArith]) h
theorem cjA (n:Nat) {id:Nat} (hn:l.length=n+1) (hP:P.follows .mixedOrders=true) (hok:okR l n N.n=true)
 (h:∀ K:List Oper→Env→Prop,(∀ rest E,rest.length=1→LX P N wb l Q rest E→K rest E)→LA P l wb K l E):CX P N wb (.region id l.toArray true) E Q :=
 dyA n hP hok oZ (λ K hK=>h K (λ rest E hr=>hK rest E oZ))
theorem jwA (e:TypeId) {s:Nat} (hg:bkA l E g=some true)
 (hr:∀ w,(Instr.buildSlice t 0 #[]).run P w=.ok (.slice (some ⟨w.heap.size,0,none⟩) 0 0) (w.alloc (.cells #[] e))) (h:LA P l wb K rest ((d,.pred (i9A wb.heap.size e s 0 []))::E)) :
 LA P l wb K (⟨some d,.buildSlice t 0 #[],ty,pos,after,g⟩::rest) E :=
 bcA _ hg (λ a w he hh=>by
  simp only [execOp,List.map_toArray,List.map_nil,Sem.run_bind,hr,Result.andThen_ok,Sem.run_pure];refine ⟨Ext.alloc _ _,?_⟩;have:=World.ownsRow_lit (base:=wb.heap.size) (e:=e) (size:=s) w #[] 0 he.size dZ (by simp);show Own _ _ _ _ _ _ _
  simpa [Own] using this) h
theorem e6A {c z:Value} {b:Nat} {e:TypeId} (hg:bkA l E g=some true) (hel:El P t e z 1 b) (hx:opE E x=.val c) (hc:c.cells=#[c]) (h:LA P l wb K rest ((d,.pred (i9A wb.heap.size e 1 1 [c]))::E)) :
 LA P l wb K (⟨some d,.buildSlice t 1 #[(0,x)],ty,pos,after,g⟩::rest) E:=by
 refine bcA (.pred (i9A wb.heap.size e 1 1 [c])) hg (λ a w he hh=>?_) h;have h1:=hh x (by simp [Op.operands]);rw [hx] at h1;simp only [AD.ok] at h1;have hrun:(Instr.buildSlice t 1 #[(0,c)]).run P w=.ok (.slice (some ⟨w.heap.size,0,none⟩) 1 1) (w.alloc (.cells #[c] e)):=by
  simp only [Instr.buildSlice,Sem.run_bind,run_underlying hel.ht,Result.andThen_ok,hel.sizeOf,Nat.reduceMul,Nat.reducePow,gt_iff_lt,Nat.reduceLT,if_false,Sem.run_pure,Nat.reduceEqDiff,hel.zero,lcA hc hel.zs];rfl
 simp only [execOp,List.map_toArray,List.map_cons,List.map_nil,h1,Sem.run_bind,hrun,Result.andThen_ok,Sem.run_pure];refine ⟨Ext.alloc _ _,?_⟩;have:=World.ownsRow_lit (base:=wb.heap.size) (e:=e) (size:=1) w #[c] 1 he.size dZ (by simp);show Own _ _ _ _ _ _ _
 simpa [Own] using this
theorem Own.more {base e s n cap gb:Nat} {w:World} {cs:List Value} (h:Own base e s w (.slice (some ⟨gb,0,none⟩) n cap) n cs) (m:Nat) (hm:n+m≤cap):∃ zs:List Value,zs.length=m*s∧Own base e s w (.slice (some ⟨gb,0,none⟩) (n+m) cap) (n+m) (cs++zs):=by
 rcases h.2 with ⟨h1,_⟩|⟨gb',cap',cur,h1,hb,hg,hnc,hmx,hsz,htake⟩
 ·cases h1
 ·cases h1
  have hle:(n+m)*s≤cap*s:=Nat.mul_le_mul_right _ hm;have e1:(n+m)*s=n*s+m*s:=Nat.add_mul ..;refine ⟨(cur.toList.drop (n*s)).take (m*s),?_,?_⟩
  ·rw [List.length_take,List.length_drop,Array.length_toList,hsz];omega
  ·refine ⟨?_,.inr ⟨gb,cap,cur,rfl,hb,hg,hm,hmx,hsz,?_⟩⟩
   ·rw [List.length_append,h.1,List.length_take,List.length_drop,Array.length_toList,hsz];omega
   ·rw [e1,List.take_add,htake]
theorem ggA {n cap gb s:Nat} {i:Int} (hg:bkA l E g=some true) (e:TypeId) (ht:P.underlying t=some (.slice e))
 (hx:opE E x=.val (.slice (some ⟨gb,0,none⟩) n cap)) (hi:opE E y=.val (.int k i)) (h0:0≤i) (hc0:0<cap) (hn:i≤cap) (hs:∀ w,(sizeOf e).run P w=.ok s w) (h:LA P l wb K rest ((d,.val (.slice (some ⟨gb,0,none⟩) i.toNat cap))::E)) :
 LA P l wb K (⟨some d,.slice t x none (some y) none,ty,pos,after,g⟩::rest) E :=
 bcA _ hg (btA λ a w he hh=>by
  have h1:=hh x (by simp [Op.operands]);have h2:=hh y (by simp [Op.operands]);rw [hx] at h1;rw [hi] at h2;simp only [AD.ok] at h1 h2;obtain ⟨j,rfl⟩:=Int.eq_ofNat_of_zero_le h0;have hrun:(Instr.sliceAt t (.slice (some ⟨gb,0,none⟩) n cap) none (some (.int k (j:Int))) none).run P w=.ok (.slice (some ⟨gb,0,none⟩) j cap) w:=by
   simp only [Instr.sliceAt,Instr.slice,Sem.run_bind,run_underlying ht,Result.andThen_ok,poA (k:=k) (n:=n) (cap:=cap) (h:=j) (w:=w) (P:=P) oZ,hs];simp only [sliced,Nat.zero_mul,Nat.sub_zero];rw [if_neg oZ];simp [Addr.add_zero']
  simp only [execOp,Option.map_some,Option.map_none,h1,h2,Sem.run_bind,hrun,Result.andThen_ok,Sem.run_pure,Int.toNat_natCast]) h
theorem m1A {base e s n cap gb:Nat} {w:World} {cs:List Value} (h:Own base e s w (.slice (some ⟨gb,0,none⟩) n cap) n cs):w.shape? gb=some (e,cap*s)∧(∀ o,w.frozen? ⟨gb,o,none⟩=false):=by
 rcases h.2 with ⟨h1,_⟩|⟨gb',cap',cur,h1,hb,hg,hnc,hmx,hsz,htake⟩
 ·cases h1
 ·cases h1
  refine ⟨by simp [World.shape?,hg,hsz],λ o=>by simp [World.frozen?,hg]⟩
theorem fzA {w:World} {ba bb e s na ca nb cb ga gb:Nat} {xs ys:List Value} {tR:TypeId} (ht:P.underlying t=some (.slice e)) (hs:∀ w,(sizeOf e).run P w=.ok s w) (hsp:0<s)
 (ha:Own ba e s w (.slice (some ⟨ga,0,none⟩) na ca) na xs) (hb:Own bb e s w (.slice (some ⟨gb,0,none⟩) nb cb) nb ys) (hcb:0<cb) (hne:ga≠gb) (o l' c':Nat) :
 (Extern.SlicesOverlaps.overlaps #[t,t] #[tR] #[.slice (some ⟨ga,0,none⟩) na ca,.slice (some ⟨gb,o,none⟩) l' c']).run P w=.ok (.bool false) w:=by
 obtain ⟨a1,a2⟩:=m1A ha;obtain ⟨b1,b2⟩:=m1A hb;exact Lib.run_overlaps_apart w t tR e ht s hs ⟨ga,0,none⟩ ⟨gb,o,none⟩ na ca l' c' hne e e (ca*s) (cb*s) a1 b1 (by have:=Nat.mul_pos hcb hsp;omega) (a2 _) (a2 _)
theorem u5A {f:FuncId} {ats:Array TypeId} {fv:Operand} {v1 v2 c:Value} (hg:bkA l E g=some true) (hfv:opE E fv=.val (.func (.func f) #[] #[])) (h1:opE E x=.val v1) (h2:opE E y=.val v2)
 (hr:∀ w,Ext wb w→(callFunc f #[v1,v2]).run P w=.ok (.value c) w) (h:LA P l wb K rest ((d,.val c)::E)):LA P l wb K (⟨some d,.call ⟨.value fv,#[x,y],ats⟩,ty,pos,after,g⟩::rest) E :=
 bcA _ hg (λ a w he hh=>by
  have h0:=hh fv (by simp [Op.operands,Call.operands]);rw [hfv] at h0;simp only [AD.ok] at h0;have e1:=hh x (by simp [Op.operands,Call.operands]);rw [h1] at e1;simp only [AD.ok] at e1;have e2:=hh y (by simp [Op.operands,Call.operands]);rw [h2] at e2;simp only [AD.ok] at e2;have hrun:(execOp a.eval ⟨some d,.call ⟨.value fv,#[x,y],ats⟩,ty,pos,after,g⟩).run P w=.ok (.value c) w:=by
   simp only [execOp,resolve,Deferred.ofValue,h0,Sem.run_bind,Sem.run_pure,Result.andThen_ok,invoke,List.map_toArray,List.map_cons,List.map_nil,e1,e2]
   simpa using hr w he
  rw [hrun];exact ⟨Ext.refl _,rfl⟩) h
theorem fvA {base e s b n m:Nat} {v u z:Value} {cs xs:List Value} {tt:TypeId} (i:Nat) (hg:g=none) (hd:∀ q,(some d:Option Tmp)=some q→q<N.n) (hel:El P t e z s b) (hx:opE E x=.val (fcA v i n s)) (hy:opE E y=.val u) (hown:Own base e s wb v n cs) (hsrc:SlC wb u m s xs) (hi:i≤n)
 (h1:∀ c ∈ xs.take (min m (n-i)*s),c.oneCell'=true) (h:∀ w w',Ext wb w→Own base e s w' v n (cs.take (i*s)++xs.take (min m (n-i)*s)++cs.drop ((i+min m (n-i))*s))→w.grownBy w' v.ownBlock→LX P N w' l Q rest ((d,.val (goInt ((min m (n-i):Nat):Int)))::vals E)) :
 LX P N wb l Q (⟨some d,.call ⟨.builtin .copy,#[x,y],#[t,tt]⟩,ty,pos,after,g⟩::rest) E:=by
 unfold LX;intro a w st;have e1:=st.opd x;rw [hx] at e1;simp only [AD.ok] at e1;have e2:=st.opd y;rw [hy] at e2;simp only [AD.ok] at e2;obtain ⟨w',g1,g2,g3⟩:=lvA (ty:=ty) hel (hown.ext st.ext) (hsrc.ext st.ext) i hi h1 tt;refine wpList_plain hg λ Kc hK=>?_
 unfold Oper.wp;simp only [execOp,resolve,invoke,builtin,Sem.run_bind,Sem.run_pure,Result.andThen_ok,List.map_toArray,List.map_cons,List.map_nil,e1,e2,g1,Oper.upon];refine hK _ _ ?_
 have h2:=h w w' st.ext g2 g3;unfold LX at h2;exact h2 _ _ ((st.vals (w':=w')).push (Ext.refl _) (dst:=some d) (r:=.val _) hd (.inr rfl))
theorem fwA {e s b n kn cap:Nat} {z:Value} {a:Option Addr} {cs:List Value} {tn:TypeId} {kd kd':IntKind} {i:Int} (hg:g=none) (hd:d<N.n) (hel:El P t e z s b) (htn:P.underlying tn=some (.int kd')) (hx:opE E x=.val (.slice a n cap)) (hy:opE E y=.val (.int kd i)) (hv:SlC wb (.slice a n cap) n s cs)
 (hik:i=(kn:Int)) (hroom:cap<n+kn) (hk:0<kn) (hz1:∀ c ∈ z.cells.toList,c.oneCell'=true) (hbytes:(n+kn)*b≤140737488355328) (h63:n+kn≤9223372036854775807)
 (h:∀ v' w w' zs,Ext wb w→zs.length=kn*s→(∀ c ∈ zs,c.oneCell'=true)→Own w.heap.size e s w' v' (n+kn) (cs++zs)→Ext w w'→LX P N w' l Q rest ((d,.val v')::vals E)) :
 LX P N wb l Q (⟨some d,.call ⟨.builtin .append,#[x,y],#[t,tn]⟩,ty,pos,after,g⟩::rest) E:=by
 unfold LX;intro ac w st;have e1:=st.opd x;rw [hx] at e1;simp only [AD.ok] at e1;have e2:=st.opd y;rw [hy,hik] at e2;simp only [AD.ok] at e2;obtain ⟨v',w',zs,g1,g2,g3,g4,g5⟩:=j1A (v:=undef) (t:=t) (ty:=ty) (kd:=kd) hel htn (hv.ext st.ext) hroom hk hz1 hbytes h63;refine wpList_plain hg λ Kc hK=>?_
 unfold Oper.wp;simp only [execOp,resolve,invoke,builtin,Sem.run_bind,Sem.run_pure,Result.andThen_ok,List.map_toArray,List.map_cons,List.map_nil,e1,e2,g1,Oper.upon];refine hK _ _ ?_
 have h2:=h v' w w' zs st.ext g2 g3 g4 g5;unfold LX at h2;exact h2 _ _ ((st.vals (w':=w')).push (Ext.refl _) (dst:=some d) (r:=.val v') (λ d' hd'=>by cases hd';exact hd) (.inr rfl))
theorem gxA {gb n cap l h s:Nat} (hl:l<cap):fcA (.slice (some ⟨gb,0,none⟩) n cap) l h s=.slice (some ⟨gb,l*s,none⟩) (h-l) (cap-l):=by
 simp only [fcA,sliced];rw [if_neg oZ];simp [Addr.add_lit]
theorem kzA {base e s n cap gb:Nat} {w:World} {cs:List Value} (h:Own base e s w (.slice (some ⟨gb,0,none⟩) n cap) n cs) (i:Nat) (hi:i≤n):Own base e s w (.slice (some ⟨gb,0,none⟩) i cap) i (cs.take (i*s)):=by
 rcases h.2 with ⟨h1,_⟩|⟨gb',cap',cur,h1,hb,hg,hnc,hmx,hsz,htake⟩
 ·cases h1
 ·cases h1
  have hle:i*s≤n*s:=Nat.mul_le_mul_right _ hi;refine ⟨by rw [List.length_take,h.1];exact Nat.min_eq_left hle,.inr ⟨gb,cap,cur,rfl,hb,hg,Nat.le_trans hi hnc,hmx,hsz,?_⟩⟩;rw [← htake,List.take_take,Nat.min_eq_left hle]
theorem kaA {A Z xs D:List Value} {i n s:Nat} (hi:i<n) (hA:A.length=i*s) (hx:xs.length=s) (hZ:Z.length=(n+1-i)*s) (hD:D.length=(n-i)*s) :
 ((A++Z).take (i*s)++xs.take (min 1 (n+1-i)*s)++(A++Z).drop ((i+min 1 (n+1-i))*s)).take ((i+1)*s)++D.take (min (n-i) (n+1-(i+1))*s)++((A++Z).take (i*s)++xs.take (min 1 (n+1-i)*s)++(A++Z).drop ((i+min 1 (n+1-i))*s)).drop ((i+1+min (n-i) (n+1-(i+1)))*s)=A++xs++D:=by
 have m1:min 1 (n+1-i)=1:=oZ;have m2:min (n-i) (n+1-(i+1))=n-i:=oZ;have m3:i+1+(n-i)=n+1:=oZ;have e1:(i+1)*s=i*s+s:=by rw [Nat.add_mul,Nat.one_mul]
 have e2:(n+1-i)*s=(n-i)*s+s:=by rw [show n+1-i=(n-i)+1 by omega,Nat.add_mul,Nat.one_mul]
 have e3:(n+1)*s=i*s+(n-i)*s+s:=by rw [← Nat.add_mul,show i+(n-i)=n by omega,Nat.add_mul,Nat.one_mul]
 have f1:(A++Z).take (i*s)=A:=by rw [List.take_append_of_le_length oZ,List.take_of_length_le oZ]
 have f2:xs.take s=xs:=List.take_of_length_le oZ;have f3:D.take ((n-i)*s)=D:=List.take_of_length_le oZ;have f4:(A++Z).drop ((i+1)*s)=Z.drop s:=by rw [e1,← hA,List.drop_append];simp
 have f5:(A++xs++Z.drop s).take ((i+1)*s)=A++xs:=by rw [List.take_append_of_le_length (by rw [List.length_append];omega),List.take_of_length_le (by rw [List.length_append];omega)]
 have f6:(A++xs++Z.drop s).drop ((n+1)*s)=[]:=List.drop_of_length_le (by simp only [List.length_append,List.length_drop];omega);rw [m1,m2,m3,Nat.one_mul,f1,f2,f3,f4,f5,f6,List.append_nil]
theorem ixA {C Z xs:List Value} {i n s:Nat} (hi:i<n) (hC:C.length=n*s) (hx:xs.length=s) (hZ:Z.length=1*s) :
 ((C++Z).take ((i+1)*s)++(((C++Z).take ((n+1)*s)).drop (i*s)).take (min (n+1-i) (n+1-(i+1))*s)++(C++Z).drop ((i+1+min (n+1-i) (n+1-(i+1)))*s)).take (i*s)++xs.take (min 1 (n+1-i)*s) ++
  ((C++Z).take ((i+1)*s)++(((C++Z).take ((n+1)*s)).drop (i*s)).take (min (n+1-i) (n+1-(i+1))*s)++(C++Z).drop ((i+1+min (n+1-i) (n+1-(i+1)))*s)).drop ((i+min 1 (n+1-i))*s)=C.take (i*s)++xs++C.drop (i*s):=by
 have m1:min 1 (n+1-i)=1:=oZ;have m2:min (n+1-i) (n+1-(i+1))=n-i:=oZ;have m3:i+1+(n-i)=n+1:=oZ;have e1:(i+1)*s=i*s+s:=by rw [Nat.add_mul,Nat.one_mul]
 have e3:(n+1)*s=n*s+s:=by rw [Nat.add_mul,Nat.one_mul]
 have e5:n*s=i*s+(n-i)*s:=by rw [← Nat.add_mul,show i+(n-i)=n by omega]
 have e6:s≤(n-i)*s:=by have:=Nat.mul_le_mul_right s (show 1≤n-i by omega);omega
 have d1:(C++Z).take ((n+1)*s)=C++Z:=List.take_of_length_le (by rw [List.length_append];omega);have d2:(C++Z).drop ((n+1)*s)=[]:=List.drop_of_length_le (by rw [List.length_append];omega);have d3:((C++Z).drop (i*s)).take ((n-i)*s)=C.drop (i*s):=by
  rw [List.drop_append_of_le_length oZ,List.take_append_of_le_length (by rw [List.length_drop];omega),List.take_of_length_le (by rw [List.length_drop];omega)]
 have d4:(C++Z).take ((i+1)*s)=C.take ((i+1)*s):=List.take_append_of_le_length oZ;have l4:(C.take ((i+1)*s)).length=(i+1)*s:=by rw [List.length_take];omega
 rw [m1,m2,m3,d1,d2,d3,d4,List.append_nil,Nat.one_mul,List.take_of_length_le (by omega:xs.length≤s),List.take_append_of_le_length oZ,List.take_take,Nat.min_eq_left (by omega:i*s≤(i+1)*s)];congr 1;rw [List.drop_append,l4,Nat.sub_self,List.drop_of_length_le (by omega:(C.take ((i+1)*s)).length≤(i+1)*s)];rfl
theorem omA {C Z:List Value} {i n s:Nat} (hi:i<n) (hC:C.length=n*s) (hZ:Z.length=1*s) :
 (((C++Z).take ((n+1)*s)).drop (i*s)).take (min (n+1-i) (n+1-(i+1))*s)=C.drop (i*s):=by
 have m2:min (n+1-i) (n+1-(i+1))=n-i:=oZ;have e3:(n+1)*s=n*s+s:=by rw [Nat.add_mul,Nat.one_mul]
 have e5:n*s=i*s+(n-i)*s:=by rw [← Nat.add_mul,show i+(n-i)=n by omega]
 have d1:(C++Z).take ((n+1)*s)=C++Z:=List.take_of_length_le (by rw [List.length_append];omega);rw [m2,d1,List.drop_append_of_le_length oZ,List.take_append_of_le_length (by rw [List.length_drop];omega),List.take_of_length_le (by rw [List.length_drop];omega)]
theorem ayA {w w2 w3:World} {b:Option Nat} (e:Ext w w2) (h:w2.grownBy w3 b):w.grownBy w3 b :=
 ⟨h.os.trans e.os,h.tape.trans e.tape,h.output.trans e.output,Nat.le_trans e.size h.size,λ k hk hn=>(h.block k (Nat.lt_of_lt_of_le hk e.size) hn).trans (Below.block e k hk)⟩
theorem asA {w w2 w3:World} {b:Option Nat} (h:w.grownBy w2 b) (e:Ext w2 w3):w.grownBy w3 b :=
 ⟨e.os.trans h.os,e.tape.trans h.tape,e.output.trans h.output,Nat.le_trans h.size e.size,λ k hk hn=>(Below.block e k (Nat.lt_of_lt_of_le hk h.size)).trans (h.block k hk hn)⟩
theorem d2A {w w2 w3:World} {b:Option Nat} (h:w.grownBy w2 b) (h':w2.grownBy w3 b):w.grownBy w3 b :=
 ⟨h'.os.trans h.os,h'.tape.trans h.tape,h'.output.trans h.output,Nat.le_trans h.size h'.size,λ k hk hn=>(h'.block k (Nat.lt_of_lt_of_le hk h.size) hn).trans (h.block k hk hn)⟩
theorem mfA {w w2:World} (b:Option Nat) (e:Ext w w2):w.grownBy w2 b :=
 ⟨e.os,e.tape,e.output,e.size,λ k hk _=>Below.block e k hk⟩
theorem leA {w w2:World} (h:w.grownBy w2 none):Ext w w2:=⟨h.os,h.tape,h.output,h.size,λ k hk=>h.block k hk (by simp)⟩
theorem sbA (k:IntKind) (n:Nat):(madeCells (Value.int k 0).cells (n*1)).toList=(List.replicate n (0:Int)).map (Value.int k):=by
 rw [List.map_replicate];refine List.ext_getElem (by simp [madeCells]) λ i h1 h2=>?_
 simp [madeCells,Value.cells,Nat.mod_one]
theorem e7A {e:TypeId} {b n:Nat} {kl kc:IntKind} (hg:bkA l E g=some true) (hel:El P t e (.int k 0) 1 b) (hx:opE E x=.val (.int kl (n:Int))) (hy:opE E y=.val (.int kc (n:Int))) (hb:b*n≤281474976710656) (hn:n≤9223372036854775807)
 (h:LA P l wb K rest ((d,.pred (b4A wb.heap.size e k (List.replicate n 0)))::E)):LA P l wb K (⟨some d,.makeSlice t x y,ty,pos,after,g⟩::rest) E :=
 bcA (.pred (b4A wb.heap.size e k (List.replicate n 0))) hg (λ a w he hh=>by
  have e1:=hh x (by simp [Op.operands]);have e2:=hh y (by simp [Op.operands]);rw [hx] at e1;rw [hy] at e2;simp only [AD.ok] at e1 e2;obtain ⟨i,hi1,hi2,hi3,hi4⟩:=hel.parts;obtain ⟨w',g1,g2,g3⟩:=run_make_full (P:=P) w wb.heap.size t e i _ 1 hel.ht hi1 hi2 hi3 kl kc n (by rw [hi4];exact hb) (by unfold maxLen;omega) he.size;rw [sbA] at g2;simp only [execOp,Sem.run_bind,e1,e2,g1,Result.andThen_ok,Sem.run_pure];refine ⟨leA g3,?_⟩;show Own _ _ _ _ _ _ _;rw [List.length_replicate];exact g2) h
theorem dlA {a b:Int} (hg:bkA l E g=some true) (hx:opE E x=.val (.int k a)) (hy:opE E y=.val (.int k b)) (ha:0≤a) (hb:0<b) (hf:fits k (a / b)) (h:LA P l wb K rest ((d,.val (.int k (a / b)))::E)) :
 LA P l wb K (⟨some d,.binOp .quo t x y t',ty,pos,after,g⟩::rest) E :=
 bcA _ hg (btA λ ac w he hh=>by
  have e1:=hh x (by simp [Op.operands]);have e2:=hh y (by simp [Op.operands]);rw [hx] at e1;rw [hy] at e2;simp only [AD.ok] at e1 e2;have h0:b≠0:=oZ;simp [execOp,e1,e2,eqGuard_quo,binOp_quo,Op.intDiv,h0,Int.tdiv_eq_ediv_of_nonneg ha,dbA k _ hf]) h
theorem hjA {a b:Int} (hg:bkA l E g=some true) (hx:opE E x=.val (.int k a)) (hy:opE E y=.val (.int k b)) (ha:0≤a) (hb:0<b) (hf:fits k (a % b)) (h:LA P l wb K rest ((d,.val (.int k (a % b)))::E)) :
 LA P l wb K (⟨some d,.binOp .rem t x y t',ty,pos,after,g⟩::rest) E :=
 bcA _ hg (btA λ ac w he hh=>by
  have e1:=hh x (by simp [Op.operands]);have e2:=hh y (by simp [Op.operands]);rw [hx] at e1;rw [hy] at e2;simp only [AD.ok] at e1 e2;have h0:b≠0:=oZ;simp [execOp,e1,e2,eqGuard_rem,binOp_rem,Op.intDiv,h0,Int.tmod_eq_emod_of_nonneg ha,dbA k _ hf]) h
theorem b9B {k'':IntKind} {a b c:Int} {ats:Array TypeId} (hg:bkA l E g=some true) (hx:opE E x=.val (.int k a)) (hy:opE E y=.val (.int k' b)) (hz:opE E z=.val (.int k'' c)) (h:LA P l wb K rest ((d,.val (.int k (min (min a b) c)))::E)) :
 LA P l wb K (⟨some d,.call ⟨.builtin .min,#[x,y,z],ats⟩,ty,pos,after,g⟩::rest) E :=
 bcA _ hg (btA λ ac w he hh=>by
  have e1:=hh x (by simp [Op.operands,Call.operands]);have e2:=hh y (by simp [Op.operands,Call.operands]);have e3:=hh z (by simp [Op.operands,Call.operands]);rw [hx] at e1;rw [hy] at e2;rw [hz] at e3;simp only [AD.ok] at e1 e2 e3;have:(Builtin.min_ ats ty #[.int k a,.int k' b,.int k'' c]).run P w=.ok (.int k (min (min a b) c)) w:=by
   have h1:(if b<a then b else a)=min a b:=oZ;have h2:(if c<min a b then c else min a b)=min (min a b) c:=oZ;simp [Builtin.min_,List.foldlM,Builtin.min2,h1,h2]
  simp only [execOp,resolve,Sem.run_bind,Sem.run_pure,Result.andThen_ok,List.map_toArray,List.map_cons,List.map_nil,e1,e2,e3,invoke,builtin,this]) h
end
end Go.LA
end
section
namespace Go.LA
open Go.RowKit
section
variable {P:Program} {l:List Oper} {N:Nn} {wb:World} {K:List Oper→Env→Prop} {rest:List Oper} {E:Env} {Q:Exit→Act→World→Prop}
variable {d:Tmp} {dd:Option Tmp} {ty t t':TypeId} {pos:String} {after:Array Edge} {g:Option (Nat × Bool)} {x y z:Operand} {k k' km:IntKind} {op:Op} {o o1 o2 o3:Option Operand}
theorem oD (n:Nat) (h:LA P l wb K (⟨some n,op,ty,pos,after,g⟩::rest) E):LA P l wb K (⟨some n,op,ty,pos,after,g⟩::rest) E:=h
theorem oM (h:LA P l wb K (⟨dd,.move x,ty,pos,after,g⟩::rest) E):LA P l wb K (⟨dd,.move x,ty,pos,after,g⟩::rest) E:=h
theorem oA (h:LA P l wb K (⟨dd,.assign x,ty,pos,after,g⟩::rest) E):LA P l wb K (⟨dd,.assign x,ty,pos,after,g⟩::rest) E:=h
theorem oP (h:LA P l wb K (⟨dd,.pick x y z,ty,pos,after,g⟩::rest) E):LA P l wb K (⟨dd,.pick x y z,ty,pos,after,g⟩::rest) E:=h
theorem oN (h:LA P l wb K (⟨dd,.unOp .not t x,ty,pos,after,g⟩::rest) E):LA P l wb K (⟨dd,.unOp .not t x,ty,pos,after,g⟩::rest) E:=h
theorem oX {n:Nat} (h:LA P l wb K (⟨dd,.extract x n,ty,pos,after,g⟩::rest) E):LA P l wb K (⟨dd,.extract x n,ty,pos,after,g⟩::rest) E:=h
theorem oB (b:BinOp) (h:LA P l wb K (⟨dd,.binOp b t x y t',ty,pos,after,g⟩::rest) E):LA P l wb K (⟨dd,.binOp b t x y t',ty,pos,after,g⟩::rest) E:=h
theorem oI (h:LA P l wb K (⟨dd,.indexAddr t x y,ty,pos,after,g⟩::rest) E):LA P l wb K (⟨dd,.indexAddr t x y,ty,pos,after,g⟩::rest) E:=h
theorem oL (h:LA P l wb K (⟨dd,.load t x,ty,pos,after,g⟩::rest) E):LA P l wb K (⟨dd,.load t x,ty,pos,after,g⟩::rest) E:=h
theorem oLt (t:TypeId) (h:LA P l wb K (⟨dd,.load t x,ty,pos,after,g⟩::rest) E):LA P l wb K (⟨dd,.load t x,ty,pos,after,g⟩::rest) E:=h
theorem oF (n:Nat) (h:LA P l wb K (⟨dd,.fieldAddr t x n,ty,pos,after,g⟩::rest) E):LA P l wb K (⟨dd,.fieldAddr t x n,ty,pos,after,g⟩::rest) E:=h
theorem oV (h:LA P l wb K (⟨dd,.convert t t' x,ty,pos,after,g⟩::rest) E):LA P l wb K (⟨dd,.convert t t' x,ty,pos,after,g⟩::rest) E:=h
theorem oS (h:LA P l wb K (⟨dd,.slice t x o1 o2 o3,ty,pos,after,g⟩::rest) E):LA P l wb K (⟨dd,.slice t x o1 o2 o3,ty,pos,after,g⟩::rest) E:=h
theorem cnA {as0:Array Operand} {ats:Array TypeId} (h:LA P l wb K (⟨dd,.call ⟨.builtin .len,as0,ats⟩,ty,pos,after,g⟩::rest) E):LA P l wb K (⟨dd,.call ⟨.builtin .len,as0,ats⟩,ty,pos,after,g⟩::rest) E:=h
theorem oC (f:FuncId) {as0:Array Operand} {ats:Array TypeId} (h:LA P l wb K (⟨dd,.call ⟨.value (.func f),as0,ats⟩,ty,pos,after,g⟩::rest) E):LA P l wb K (⟨dd,.call ⟨.value (.func f),as0,ats⟩,ty,pos,after,g⟩::rest) E:=h
theorem yV {fv:Operand} {as0:Array Operand} {ats:Array TypeId} (h:LA P l wb K (⟨dd,.call ⟨.value fv,as0,ats⟩,ty,pos,after,g⟩::rest) E):LA P l wb K (⟨dd,.call ⟨.value fv,as0,ats⟩,ty,pos,after,g⟩::rest) E:=h
theorem yL (h:LA P l wb K rest E):LA P l wb K rest E:=h
theorem oCX {c:Code} (h:CX P N wb c E Q):CX P N wb c E Q:=h
theorem oPX {e:Exit} (h:PX N wb Q e E):PX N wb Q e E:=h
theorem oLX (h:LX P N wb l Q rest E):LX P N wb l Q rest E:=h
theorem stAdd {a b:Int} (hg:bkA l E g=some true) (hx:opE E x=.val (.int k a)) (hy:opE E y=.val (.int k b)) (h:LA P l wb K rest ((d,.val (.int k (a+b)))::E)) (hf:fits k (a+b):=by dsimp only [fits];omega):LA P l wb K (⟨some d,.binOp .add t x y t',ty,pos,after,g⟩::rest) E:=b3A hg hx hy hf h
theorem stSub {a b:Int} (hg:bkA l E g=some true) (hx:opE E x=.val (.int k a)) (hy:opE E y=.val (.int k b)) (h:LA P l wb K rest ((d,.val (.int k (a-b)))::E)) (hf:fits k (a-b):=by dsimp only [fits];omega):LA P l wb K (⟨some d,.binOp .sub t x y t',ty,pos,after,g⟩::rest) E:=adA hg hx hy hf h
theorem stMul {a b:Int} (hg:bkA l E g=some true) (hx:opE E x=.val (.int k a)) (hy:opE E y=.val (.int k b)) (h:LA P l wb K rest ((d,.val (.int k (a*b)))::E)) (hf:fits k (a*b):=by dsimp only [fits];omega):LA P l wb K (⟨some d,.binOp .mul t x y t',ty,pos,after,g⟩::rest) E:=f4A hg hx hy hf h
theorem stQuo {a b:Int} (hg:bkA l E g=some true) (hx:opE E x=.val (.int k a)) (hy:opE E y=.val (.int k b)) (h:LA P l wb K rest ((d,.val (.int k (a / b)))::E)) (ha:0≤a:=by omega) (hb:0<b:=by omega) (hf:fits k (a / b):=by dsimp only [fits];omega):LA P l wb K (⟨some d,.binOp .quo t x y t',ty,pos,after,g⟩::rest) E:=dlA hg hx hy ha hb hf h
theorem stRem {a b:Int} (hg:bkA l E g=some true) (hx:opE E x=.val (.int k a)) (hy:opE E y=.val (.int k b)) (h:LA P l wb K rest ((d,.val (.int k (a % b)))::E)) (ha:0≤a:=by omega) (hb:0<b:=by omega) (hf:fits k (a % b):=by dsimp only [fits];omega):LA P l wb K (⟨some d,.binOp .rem t x y t',ty,pos,after,g⟩::rest) E:=hjA hg hx hy ha hb hf h
theorem myA {n m:Int} (hg:bkA l E g=some true) (hx:opE E x=.val (.int k n)) (hy:opE E y=.val (.int km m)) (h:LA P l wb K rest ((d,.val (.int k (n / 2 ^ m.toNat)))::E)) (h0:0≤m:=by omega) (h1:m≤k.bits:=by dsimp only [IntKind.bits];omega):LA P l wb K (⟨some d,.binOp .shr t x y t',ty,pos,after,g⟩::rest) E:=g2A hg hx hy h0 h1 h
theorem stShl {n m:Int} (hg:bkA l E g=some true) (hx:opE E x=.val (.int k n)) (hy:opE E y=.val (.int km m)) (h:LA P l wb K rest ((d,.val (.int k (k.wrap (n*2 ^ m.toNat))))::E)) (h0:0≤m:=by omega) (h1:m≤k.bits:=by dsimp only [IntKind.bits];omega):LA P l wb K (⟨some d,.binOp .shl t x y t',ty,pos,after,g⟩::rest) E:=gwA hg hx hy h0 h1 h
theorem stCnv {src dst:TypeId} {n:Int} {kd:IntKind} (hg:bkA l E g=some true) (hs:(P.underlying src).isSome=true) (hd:P.underlying dst=some (.int kd)) (hx:opE E x=.val (.int k n)) (h:LA P l wb K rest ((d,.val (.int kd n))::E)) (hf:fits kd n:=by dsimp only [fits];omega):LA P l wb K (⟨some d,.convert src dst x,ty,pos,after,g⟩::rest) E:=pxA hg hs hd hx hf h
theorem stT {b:BinOp} {m n:Int} (hg:bkA l E g=some true) (hx:opE E x=.val (.int k m)) (hy:opE E y=.val (.int k n)) (hc:l8A b=true) (h:LA P l wb K rest ((d,.val (.bool true))::E)) (hp:lqA b m n:=by first|(dsimp only [lqA];done)|(dsimp only [lqA];omega)):LA P l wb K (⟨some d,.binOp b t x y t',ty,pos,after,g⟩::rest) E:=o5A hg hx hy hc hp h
theorem stF {b:BinOp} {m n:Int} (hg:bkA l E g=some true) (hx:opE E x=.val (.int k m)) (hy:opE E y=.val (.int k n)) (hc:l8A b=true) (h:LA P l wb K rest ((d,.val (.bool false))::E)) (hp:¬ lqA b m n:=by dsimp only [lqA];omega):LA P l wb K (⟨some d,.binOp b t x y t',ty,pos,after,g⟩::rest) E:=i3A hg hx hy hc hp h
theorem stBET {a b:Bool} (hg:bkA l E g=some true) (ht:P.underlying t=some .bool) (hx:opE E x=.val (.bool a)) (hy:opE E y=.val (.bool b)) (h:LA P l wb K rest ((d,.val (.bool true))::E)) (hab:a=b:=by first|rfl|assumption):LA P l wb K (⟨some d,.binOp .eql t x y t',ty,pos,after,g⟩::rest) E:=qpA hg ht hx hy hab h
theorem stBEF {a b:Bool} (hg:bkA l E g=some true) (ht:P.underlying t=some .bool) (hx:opE E x=.val (.bool a)) (hy:opE E y=.val (.bool b)) (h:LA P l wb K rest ((d,.val (.bool false))::E)) (hab:a≠b:=by first|assumption|decide):LA P l wb K (⟨some d,.binOp .eql t x y t',ty,pos,after,g⟩::rest) E:=qqA hg ht hx hy hab h
theorem stBNT {a b:Bool} (hg:bkA l E g=some true) (ht:P.underlying t=some .bool) (hx:opE E x=.val (.bool a)) (hy:opE E y=.val (.bool b)) (h:LA P l wb K rest ((d,.val (.bool true))::E)) (hab:a≠b:=by first|assumption|decide):LA P l wb K (⟨some d,.binOp .neq t x y t',ty,pos,after,g⟩::rest) E:=qnA hg ht hx hy hab h
theorem stBNF {a b:Bool} (hg:bkA l E g=some true) (ht:P.underlying t=some .bool) (hx:opE E x=.val (.bool a)) (hy:opE E y=.val (.bool b)) (h:LA P l wb K rest ((d,.val (.bool false))::E)) (hab:a=b:=by first|rfl|assumption):LA P l wb K (⟨some d,.binOp .neq t x y t',ty,pos,after,g⟩::rest) E:=qoA hg ht hx hy hab h
theorem stIN {xs:List Int} {j:Nat} (hg:bkA l E g=some true) (e:TypeId) (ht:P.underlying t=some (.slice e)) (hs:∀ w,(sizeOf e).run P w=.ok 1 w) {r:AD} (hr:opE E x=r) (hi:opE E y=.val (.int k ((j:Nat):Int))) (h:LA P l wb K rest ((d,.pred (kcA [.int k' (xs.getD j 0)]))::E))
 (hx:HasI wb r k' xs:=by first|exact HasI.val (by assumption)|exact HasI.pred|exact HasI.own|exact HasI.ownV (by assumption)) (hn:j<xs.length:=by omega):LA P l wb K (⟨some d,.indexAddr t x y,ty,pos,after,g⟩::rest) E:=acA hg e ht hs hr hx hi hn h
theorem stII {xs:List Int} {i:Int} (hg:bkA l E g=some true) (e:TypeId) (ht:P.underlying t=some (.slice e)) (hs:∀ w,(sizeOf e).run P w=.ok 1 w) {r:AD} (hr:opE E x=r) (hi:opE E y=.val (.int k i)) (h:LA P l wb K rest ((d,.pred (kcA [.int k' (xs.getD i.toNat 0)]))::E))
 (hx:HasI wb r k' xs:=by first|exact HasI.val (by assumption)|exact HasI.pred|exact HasI.own|exact HasI.ownV (by assumption)) (h0:0≤i:=by omega) (hn:i<xs.length:=by omega):LA P l wb K (⟨some d,.indexAddr t x y,ty,pos,after,g⟩::rest) E:=iqA hg e ht hs hr hx hi h0 hn h
theorem stLen {n s:Nat} {cs:List Value} (hg:bkA l E g=some true) (e:TypeId) (ht:P.underlying t=some (.slice e)) {r:AD} (hr:opE E x=r) (h:LA P l wb K rest ((d,.val (.int .i64 (n:Int)))::E))
 (hx:HasC wb r n s cs:=by first|exact (HasI.val (by assumption)).c|exact HasI.pred.c|exact HasC.val (by assumption)|exact HasC.pred|exact HasI.own.c|exact HasC.own|exact (HasI.ownV (by assumption)).c|exact HasC.ownV (by assumption)):LA P l wb K (⟨some d,.call ⟨.builtin .len,#[x],#[t]⟩,ty,pos,after,g⟩::rest) E:=akA hg e ht hr hx h
theorem stSL {n s:Nat} {cs:List Value} {v:Value} {i:Int} (hg:bkA l E g=some true) (e:TypeId) (ht:P.underlying t=some (.slice e)) (hx:opE E x=.val v) (hi:opE E y=.val (.int k i)) (hs:∀ w,(sizeOf e).run P w=.ok s w) (h:LA P l wb K rest ((d,.val (fcA v i.toNat n s))::E))
 (hv:HasC wb (.val v) n s cs:=by first|exact (HasI.val (by assumption)).c|exact HasC.val (by assumption)|exact (HasI.ownV (by assumption)).c|exact HasC.ownV (by assumption)) (h0:0≤i:=by omega) (hn:i≤n:=by omega):LA P l wb K (⟨some d,.slice t x (some y) none none,ty,pos,after,g⟩::rest) E:=deA hg e ht hx hv hi h0 hn hs h
theorem stSH {n s:Nat} {cs:List Value} {v:Value} {i:Int} (hg:bkA l E g=some true) (e:TypeId) (ht:P.underlying t=some (.slice e)) (hx:opE E x=.val v) (hi:opE E y=.val (.int k i)) (hs:∀ w,(sizeOf e).run P w=.ok s w) (h:LA P l wb K rest ((d,.val (fcA v 0 i.toNat s))::E))
 (hv:HasC wb (.val v) n s cs:=by first|exact (HasI.val (by assumption)).c|exact HasC.val (by assumption)|exact (HasI.ownV (by assumption)).c|exact HasC.ownV (by assumption)) (h0:0≤i:=by omega) (hn:i≤n:=by omega):LA P l wb K (⟨some d,.slice t x none (some y) none,ty,pos,after,g⟩::rest) E:=hiA hg e ht hx hv hi h0 hn hs h
theorem stSLH {n s:Nat} {cs:List Value} {v:Value} {i i':Int} (hg:bkA l E g=some true) (e:TypeId) (ht:P.underlying t=some (.slice e)) (hx:opE E x=.val v) (hi:opE E y=.val (.int k i)) (hi':opE E z=.val (.int k' i')) (hs:∀ w,(sizeOf e).run P w=.ok s w) (h:LA P l wb K rest ((d,.val (fcA v i.toNat i'.toNat s))::E))
 (hv:HasC wb (.val v) n s cs:=by first|exact (HasI.val (by assumption)).c|exact HasC.val (by assumption)|exact (HasI.ownV (by assumption)).c|exact HasC.ownV (by assumption)) (h0:0≤i:=by omega) (h1:i≤i':=by omega) (hn:i'≤n:=by omega):LA P l wb K (⟨some d,.slice t x (some y) (some z) none,ty,pos,after,g⟩::rest) E:=qmA hg e ht hx hv hi hi' h0 h1 hn hs h
end
end Go.LA
end
section
namespace Go.LA
open Go.RowKit
theorem yO {G' G:Prop} (g:G') (h:G'→G:=by
 intro h
 first
 | (refine oM ?_;first|exact cvA rfl rfl h|exact x5A rfl rfl h|exact x4A rfl rfl h|exact x3A rfl rfl h)
 | (refine oA ?_;first|exact kjA rfl rfl h|exact qrA rfl rfl h|exact LA_assignT rfl rfl h)
 | (refine oP ?_;first|exact tyA rfl rfl rfl h|exact tzA rfl rfl rfl h)
 | (refine oN ?_;first|exact b7B rfl rfl h|exact b8B rfl rfl h|exact u1A rfl rfl h)
 | (refine oX ?_;first|exact bbB rfl rfl h|exact baB rfl rfl h|exact xdA rfl rfl h|exact xcA rfl rfl h|exact xbA rfl rfl h)
 | (refine oB .add ?_;first|exact stAdd rfl rfl rfl h|exact o7A rfl rfl rfl h)
 | (refine oB .sub ?_;first|exact stSub rfl rfl rfl h|exact LA_subW rfl rfl rfl h)
 | (refine oB .mul ?_;first|exact stMul rfl rfl rfl h|exact u3A rfl rfl rfl h)
 | (refine oB .quo ?_;exact stQuo rfl rfl rfl h)
 | (refine oB .rem ?_;exact stRem rfl rfl rfl h)
 | (refine oB .shr ?_;exact myA rfl rfl rfl (by (try dsimp only [Int.reduceToNat,Int.reducePow]);exact h))
 | (refine oB .shl ?_;exact stShl rfl rfl rfl (by (try dsimp only [Int.reduceToNat,Int.reducePow]);exact h))
 | (refine oB _ ?_;first|exact stT rfl rfl rfl rfl h|exact stF rfl rfl rfl rfl h|exact stBET rfl rfl rfl rfl h|exact stBEF rfl rfl rfl rfl h|exact jzA rfl rfl rfl rfl h|exact stBNT rfl rfl rfl rfl h|exact stBNF rfl rfl rfl rfl h|exact jyA rfl rfl rfl rfl h)
 | (refine oI ?_;exact stIN rfl _ rfl (λ _=>rfl) rfl rfl h)
 | (refine oL ?_;exact fyA rfl (λ _=>rfl) rfl h)
 | (refine oV ?_;first|exact stCnv rfl rfl rfl rfl h|exact eiA rfl rfl rfl rfl h)
 | (refine cnA ?_;exact stLen rfl _ rfl rfl h)
 | (refine oI ?_;exact stII rfl _ rfl (λ _=>rfl) rfl rfl (by (try dsimp only [Int.reduceToNat,Int.toNat_natCast]);exact h))
 | (refine oS ?_;first
   | exact stSL rfl _ rfl rfl rfl (λ _=>rfl) (by (try dsimp only [Int.reduceToNat,Int.toNat_natCast]);exact h)
   | exact stSH rfl _ rfl rfl rfl (λ _=>rfl) (by (try dsimp only [Int.reduceToNat,Int.toNat_natCast]);exact h)
   | exact stSLH rfl _ rfl rfl rfl rfl (λ _=>rfl) (by (try dsimp only [Int.reduceToNat,Int.toNat_natCast]);exact h))):G:=h g
theorem yC {G1 G2 G:Prop} (g1:G1) (g2:G2) (h:G1→G2→G:=by
 intro a b;exact dhB rfl rfl rfl rfl (by intro hc;dsimp only [lqA] at hc;revert hc;exact a) (by intro hc;dsimp only [lqA] at hc;revert hc;exact b)):G:=h g1 g2
theorem yN {T G' G:Prop} (t:T) (g:G') (h:T→G'→G:=by
 intro a b
 first|exact u2A (a [] _ (ydA b))|exact u2A (a _ b)):G:=h t g
theorem yR {G' G:Prop} (g:G') (h:G'→G:=by
 intro h;refine oCX ?_
 first|exact ufA kZ h|exact qsA kZ kZ h):G:=h g
theorem wG {G' G:Prop} (g:G') (h:G'→G:=by
 intro h
 first
 | (refine oCX ?_;first|exact ueA h|exact bdB h|exact xlA h|exact beB h|exact djB h|exact xjA rfl h|exact xkA rfl h|exact xiA h|exact xhA h)
 | (refine oPX ?_;first|exact b3B h|exact wrA h|exact wsA h|exact tnA h|exact tlA h|exact tkA h|exact tmA dZ h|exact PX_scopeN h|exact tjA h|exact PX_scopeX h)
 | (refine oLX ?_;exact ydA h)):G:=h g
end Go.LA
end
section
namespace Go.ArrP
def Inc (xs:List Int):Prop:=xs.Pairwise (·<·)
instance (xs:List Int):Decidable (Inc xs):=inferInstanceAs (Decidable (xs.Pairwise (·<·)))
theorem bhA {xs:List Int} {i:Nat} (h:i<xs.length):xs.getD i 0=xs[i]:=by simp [List.getD,h]
theorem p2A {xs:List Int} {i:Nat} (h:i<xs.length):xs.getD i 0 ∈ xs:=by rw [bhA h];exact List.getElem_mem h
theorem cmB {xs:List Int} (h:∀ i,1≤i→i<xs.length→xs.getD (i-1) 0<xs.getD i 0):Inc xs:=by
 unfold Inc;rw [List.pairwise_iff_getElem];intro i j hi hj hij
 induction j with
 | zero=>omega
 | succ j ih =>
   have h1:=h (j+1) oZ hj;rw [bhA hj,show j+1-1=j from rfl,bhA oZ] at h1
   rcases Nat.lt_or_ge i j with h2|h2
   ·exact Int.lt_trans (ih oZ h2) h1
   ·obtain rfl:i=j:=oZ
    exact h1
theorem Inc.at {xs:List Int} (h:Inc xs) {i j:Nat} (hij:i<j) (hj:j<xs.length):xs.getD i 0<xs.getD j 0:=by
 rw [bhA hj,bhA oZ];exact (List.pairwise_iff_getElem.1 h) i j oZ hj hij
theorem nhA:Inc []:=List.Pairwise.nil
theorem inc_cons {x:Int} {xs:List Int}:Inc (x::xs)↔(∀ y ∈ xs,x<y)∧Inc xs:=List.pairwise_cons
theorem htA:∀ {xs ys:List Int},Inc xs→Inc ys→(∀ x,x ∈ xs↔x ∈ ys)→xs=ys
 | [],[],_,_,_=>rfl
 | [],y::ys,_,_,h=>by have:=(h y).2 (by simp);cases this
 | x::xs,[],_,_,h=>by have:=(h x).1 (by simp);cases this
 | x::xs,y::ys,hx,hy,h=>by
   obtain ⟨hx1,hx2⟩:=inc_cons.1 hx;obtain ⟨hy1,hy2⟩:=inc_cons.1 hy;have e:x=y:=by
    have h1:=(h x).1 (by simp);have h2:=(h y).2 (by simp);simp only [List.mem_cons] at h1 h2
    rcases h1 with h1|h1
    ·exact h1
    ·rcases h2 with h2|h2
     ·exact h2.symm
     ·have:=hy1 x h1;have:=hx1 y h2;omega
   subst e;congr 1;refine htA hx2 hy2 λ z=>⟨λ hz=>?_,λ hz=>?_⟩
   ·have:=(h z).1 (by simp [hz])
    simp only [List.mem_cons] at this
    rcases this with rfl|h'
    ·have:=hx1 z hz;omega
    ·exact h'
   ·have:=(h z).2 (by simp [hz])
    simp only [List.mem_cons] at this
    rcases this with rfl|h'
    ·have:=hy1 z hz;omega
    ·exact h'
def bmA (f:Bool→Bool→Bool):List Int→List Int→List Int
 | [],[]=>[]
 | x::a,[]=>(if f true false then [x] else [])++bmA f a []
 | [],y::b=>(if f false true then [y] else [])++bmA f [] b
 | x::a,y::b =>
   if x<y then (if f true false then [x] else [])++bmA f a (y::b)
   else if y<x then (if f false true then [y] else [])++bmA f (x::a) b
   else (if f true true then [y] else [])++bmA f a b
termination_by a b=>a.length+b.length
theorem guA {p:Bool} {x z:Int}:z ∈ (if p then [x] else [])↔p=true∧z=x:=by
 cases p <;> simp
theorem gaA (f:Bool→Bool→Bool) (a b:List Int):∀ z ∈ bmA f a b,z ∈ a∨z ∈ b:=by
 fun_induction bmA f a b with
 | case1=>intro z hz;cases hz
 | case2 x a ih=>intro z hz;rw [List.mem_append,guA] at hz;rcases hz with ⟨_,rfl⟩|hz;·simp
                 ·rcases ih z hz with h|h <;> simp_all
 | case3 y b ih=>intro z hz;rw [List.mem_append,guA] at hz;rcases hz with ⟨_,rfl⟩|hz;·simp
                 ·rcases ih z hz with h|h <;> simp_all
 | case4 x a y b h ih=>intro z hz;rw [List.mem_append,guA] at hz;rcases hz with ⟨_,rfl⟩|hz;·simp
                       ·rcases ih z hz with h|h <;> simp_all
 | case5 x a y b h h' ih=>intro z hz;rw [List.mem_append,guA] at hz;rcases hz with ⟨_,rfl⟩|hz;·simp
                          ·rcases ih z hz with h|h <;> simp_all
 | case6 x a y b h h' ih=>intro z hz;rw [List.mem_append,guA] at hz;rcases hz with ⟨_,rfl⟩|hz;·simp
                          ·rcases ih z hz with h|h <;> simp_all
theorem s1A (f:Bool→Bool→Bool) (hf:f false false=false) (a b:List Int):Inc a→Inc b→∀ z,z ∈ bmA f a b↔f (decide (z ∈ a)) (decide (z ∈ b))=true:=by
 fun_induction bmA f a b with
 | case1=>intro _ _ z;simp [hf]
 | case2 x a ih =>
   intro ha hb z;obtain ⟨h1,h2⟩:=inc_cons.1 ha;rw [List.mem_append,guA,ih h2 hb]
   by_cases e:z=x
   ·subst e
    have:z ∉ a:=λ h=>by have:=h1 z h;omega
    simp [this,hf]
   ·simp [e]
 | case3 y b ih =>
   intro ha hb z;obtain ⟨h1,h2⟩:=inc_cons.1 hb;rw [List.mem_append,guA,ih ha h2]
   by_cases e:z=y
   ·subst e
    have:z ∉ b:=λ h=>by have:=h1 z h;omega
    simp [this,hf]
   ·simp [e]
 | case4 x a y b h ih =>
   intro ha hb z;obtain ⟨h1,h2⟩:=inc_cons.1 ha;obtain ⟨h3,h4⟩:=inc_cons.1 hb;rw [List.mem_append,guA,ih h2 hb]
   by_cases e:z=x
   ·subst e
    have n1:z ∉ a:=λ h=>by have:=h1 z h;omega
    have n2:z ∉ y::b:=λ h'=>by
     simp only [List.mem_cons] at h'
     rcases h' with h' | h'
     ·omega
     ·have:=h3 z h';omega
    simp only [n1,n2,List.mem_cons,true_or,decide_true,decide_false,hf];simp
   ·simp [e]
 | case5 x a y b h h' ih =>
   intro ha hb z;obtain ⟨h1,h2⟩:=inc_cons.1 ha;obtain ⟨h3,h4⟩:=inc_cons.1 hb;rw [List.mem_append,guA,ih ha h4]
   by_cases e:z=y
   ·subst e
    have n1:z ∉ b:=λ h=>by have:=h3 z h;omega
    have n2:z ∉ x::a:=λ h'=>by
     simp only [List.mem_cons] at h'
     rcases h' with h' | h'
     ·omega
     ·have:=h1 z h';omega
    simp only [n1,n2,List.mem_cons,true_or,decide_true,decide_false,hf];simp
   ·simp [e]
 | case6 x a y b h h' ih =>
   intro ha hb z;obtain ⟨h1,h2⟩:=inc_cons.1 ha;obtain ⟨h3,h4⟩:=inc_cons.1 hb;obtain rfl:x=y:=oZ;rw [List.mem_append,guA,ih h2 h4]
   by_cases e:z=x
   ·subst e
    have n1:z ∉ a:=λ h=>by have:=h1 z h;omega
    have n2:z ∉ b:=λ h=>by have:=h3 z h;omega
    simp [n1,n2,hf]
   ·simp [e]
theorem e1A {p:Bool} {x:Int} {l:List Int} (h:Inc l) (hx:∀ z ∈ l,x<z):Inc ((if p then [x] else [])++l):=by
 cases p
 ·simpa using h
 ·exact inc_cons.2 ⟨hx,h⟩
theorem s2A (f:Bool→Bool→Bool) (a b:List Int):Inc a→Inc b→Inc (bmA f a b):=by
 fun_induction bmA f a b with
 | case1=>intro _ _;exact nhA
 | case2 x a ih =>
   intro ha hb;obtain ⟨h1,h2⟩:=inc_cons.1 ha
   exact e1A (ih h2 hb) λ z hz=>by rcases gaA f _ _ z hz with h|h;·exact h1 z h
                                   ·cases h
 | case3 y b ih =>
   intro ha hb;obtain ⟨h1,h2⟩:=inc_cons.1 hb
   exact e1A (ih ha h2) λ z hz=>by rcases gaA f _ _ z hz with h|h;·cases h
                                   ·exact h1 z h
 | case4 x a y b h ih =>
   intro ha hb;obtain ⟨h1,h2⟩:=inc_cons.1 ha;obtain ⟨h3,h4⟩:=inc_cons.1 hb;exact e1A (ih h2 hb) λ z hz=>by
    rcases gaA f _ _ z hz with h' | h'
    ·exact h1 z h'
    ·simp only [List.mem_cons] at h'
     rcases h' with rfl|h'
     ·exact h
     ·have:=h3 z h';omega
 | case5 x a y b h h' ih =>
   intro ha hb;obtain ⟨h1,h2⟩:=inc_cons.1 ha;obtain ⟨h3,h4⟩:=inc_cons.1 hb;exact e1A (ih ha h4) λ z hz=>by
    rcases gaA f _ _ z hz with h'' | h''
    ·simp only [List.mem_cons] at h''
     rcases h'' with rfl|h''
     ·exact h'
     ·have:=h1 z h'';omega
    ·exact h3 z h''
 | case6 x a y b h h' ih =>
   intro ha hb;obtain ⟨h1,h2⟩:=inc_cons.1 ha;obtain ⟨h3,h4⟩:=inc_cons.1 hb;obtain rfl:x=y:=oZ;exact e1A (ih h2 h4) λ z hz=>by
    rcases gaA f _ _ z hz with h'' | h''
    ·exact h1 z h''
    ·exact h3 z h''
theorem s4A (f:Bool→Bool→Bool) {a b:List Int} (ha:0<a.length) (hb:b.length=0):bmA f a b=(if f true false then [a.getD 0 0] else [])++bmA f (a.drop 1) b:=by
 cases a with
 | nil=>simp at ha
 | cons x a =>
   obtain rfl:b=[]:=List.eq_nil_of_length_eq_zero hb;simp [bmA]
theorem s3A (f:Bool→Bool→Bool) {a b:List Int} (ha:a.length=0) (hb:0<b.length):bmA f a b=(if f false true then [b.getD 0 0] else [])++bmA f a (b.drop 1):=by
 cases b with
 | nil=>simp at hb
 | cons x b =>
   obtain rfl:a=[]:=List.eq_nil_of_length_eq_zero ha;simp [bmA]
theorem ozA (f:Bool→Bool→Bool) {a b:List Int} (ha:0<a.length) (hb:0<b.length) (h:a.getD 0 0<b.getD 0 0):bmA f a b=(if f true false then [a.getD 0 0] else [])++bmA f (a.drop 1) b:=by
 cases a with
 | nil=>simp at ha
 | cons x a =>
   cases b with
   | nil=>simp at hb
   | cons y b =>
     simp only [List.getD_cons_zero] at h;simp [bmA,h]
theorem p0A (f:Bool→Bool→Bool) {a b:List Int} (ha:0<a.length) (hb:0<b.length) (h:b.getD 0 0<a.getD 0 0):bmA f a b=(if f false true then [b.getD 0 0] else [])++bmA f a (b.drop 1):=by
 cases a with
 | nil=>simp at ha
 | cons x a =>
   cases b with
   | nil=>simp at hb
   | cons y b =>
     simp only [List.getD_cons_zero] at h;have h':¬ x<y:=oZ;simp [bmA,h,h']
theorem p1A (f:Bool→Bool→Bool) {a b:List Int} (ha:0<a.length) (hb:0<b.length) (h:a.getD 0 0=b.getD 0 0):bmA f a b=(if f true true then [b.getD 0 0] else [])++bmA f (a.drop 1) (b.drop 1):=by
 cases a with
 | nil=>simp at ha
 | cons x a =>
   cases b with
   | nil=>simp at hb
   | cons y b =>
     simp only [List.getD_cons_zero] at h;subst h;have h':¬ x<x:=oZ;simp [bmA]
def fOr (_ _:Bool):Bool:=true
def fOr' (a b:Bool):Bool:=a || b
theorem ndA (f g:Bool→Bool→Bool) (h1:f true false=g true false) (h2:f false true=g false true) (h3:f true true=g true true) (a b:List Int):bmA f a b=bmA g a b:=by
 fun_induction bmA f a b with
 | case1=>simp [bmA]
 | case2 x a ih=>rw [bmA,ih,h1]
 | case3 y b ih=>rw [bmA,ih,h2]
 | case4 x a y b h ih=>rw [bmA,if_pos h,ih,h1]
 | case5 x a y b h h' ih=>rw [bmA,if_neg h,if_pos h',ih,h2]
 | case6 x a y b h h' ih=>rw [bmA,if_neg h,if_neg h',ih,h3]
theorem viA (a b:List Int):bmA fOr a b=bmA fOr' a b:=ndA fOr fOr' rfl rfl rfl a b
section
variable {a b:List Int} (ha:Inc a) (hb:Inc b)
include ha hb
theorem ceB (z:Int):z ∈ bmA fOr a b↔z ∈ a∨z ∈ b:=by rw [viA,s1A fOr' rfl a b ha hb];simp [fOr']
end
def bsGo (xs:List Int) (x:Int) (i j:Nat):Nat :=
 if i<j then (if xs.getD ((i+j) / 2) 0<x then bsGo xs x ((i+j) / 2+1) j else bsGo xs x i ((i+j) / 2)) else i
termination_by j-i
def bsS (xs:List Int) (x:Int):Nat:=bsGo xs x 0 xs.length
theorem atB (xs:List Int) (x:Int) (i j:Nat):i≤j→i≤bsGo xs x i j∧bsGo xs x i j≤j:=by
 fun_induction bsGo xs x i j with
 | case1 i j h h' ih=>intro _;have:=ih oZ;omega
 | case2 i j h h' ih=>intro _;have:=ih oZ;omega
 | case3 i j h=>intro _;omega
theorem pnA (xs:List Int) (x:Int):bsS xs x≤xs.length:=(atB xs x 0 xs.length (Nat.zero_le _)).2
theorem bsGo_spec (xs:List Int) (x:Int) (hs:Inc xs) (i j:Nat):i≤j→j≤xs.length→(∀ k,k<i→xs.getD k 0<x)→(∀ k,j≤k→k<xs.length→x≤xs.getD k 0) →
 (∀ k,k<bsGo xs x i j→xs.getD k 0<x)∧(∀ k,bsGo xs x i j≤k→k<xs.length→x≤xs.getD k 0):=by
 fun_induction bsGo xs x i j with
 | case1 i j h h' ih =>
   intro h1 h2 h3 h4;refine ih oZ h2 (λ k hk=>?_) h4
   rcases Nat.lt_or_ge k ((i+j) / 2) with h5|h5
   ·exact Int.lt_trans (hs.at h5 oZ) h'
   ·obtain rfl:k=(i+j) / 2:=oZ
    exact h'
 | case2 i j h h' ih =>
   intro h1 h2 h3 h4;refine ih oZ oZ h3 (λ k hk hk'=>?_)
   rcases Nat.lt_or_ge ((i+j) / 2) k with h5|h5
   ·have:=hs.at h5 hk';omega
   ·obtain rfl:k=(i+j) / 2:=oZ
    omega
 | case3 i j h=>intro h1 h2 h3 h4;exact ⟨h3,λ k hk hk'=>h4 k oZ hk'⟩
theorem imA {xs:List Int} (x:Int) (hs:Inc xs):(∀ k,k<bsS xs x→xs.getD k 0<x)∧(∀ k,bsS xs x≤k→k<xs.length→x≤xs.getD k 0) :=
 bsGo_spec xs x hs 0 xs.length (Nat.zero_le _) (Nat.le_refl _) (λ k hk=>by omega) (λ k hk hk'=>by omega)
def dkA (xs:List Int) (x:Int):Bool:=decide (bsS xs x<xs.length∧xs.getD (bsS xs x) 0=x)
theorem fjA {xs:List Int} (x:Int) (hs:Inc xs):dkA xs x=decide (x ∈ xs):=by
 obtain ⟨h1,h2⟩:=imA x hs;unfold dkA;rw [decide_eq_decide]
 constructor
 ·rintro ⟨h3,h4⟩
  rw [bhA h3] at h4;exact h4▸List.getElem_mem h3
 ·intro hm
  obtain ⟨k,hk,he⟩:=List.getElem_of_mem hm;have hge:¬ k<bsS xs x:=λ h=>by have:=h1 k h;rw [bhA hk] at this;omega
  have hlt:bsS xs x<xs.length:=oZ;refine ⟨hlt,?_⟩;have h3:=h2 (bsS xs x) (Nat.le_refl _) hlt
  rcases Nat.lt_or_ge (bsS xs x) k with h4|h4
  ·have:=hs.at h4 hk;rw [bhA hk] at this;omega
  ·obtain rfl:k=bsS xs x:=oZ
   rw [bhA hk];exact he
def j2A (xs:List Int) (i:Nat):Bool:=decide (i=0∨xs.getD i 0≠(xs.getD (i-1) 0+1) % 65536)
def i7A (xs:List Int) (k:Nat):Nat:=((List.range k).filter (j2A xs)).length
def yuA (xs:List Int):Nat:=i7A xs xs.length
theorem izA (xs:List Int) (k:Nat):i7A xs (k+1)=i7A xs k+if j2A xs k then 1 else 0:=by
 unfold i7A;rw [List.range_succ,List.filter_append,List.length_append];cases h:j2A xs k <;> simp [h]
theorem rhA (xs:List Int) (k:Nat):i7A xs k≤k:=by
 unfold i7A;have:=List.length_filter_le (j2A xs) (List.range k)
 simpa using this
end Go.ArrP
end
