import Derived.Test.YtbokphkfojijoaaGreatDoorM13
import Derived.Test.YtbokphkfojijoaaGreatDoorM14
import Derived.Test.YtbokphkfojijoaaGreatDoorM16
import Derived.Test.YtbokphkfojijoaaGreatDoorM18
import Derived.Test.YtbokphkfojijoaaGreatDoorM19
import Derived.Test.YtbokphkfojijoaaGreatDoorM20
set_option linter.unusedSimpArgs false
set_option linter.unusedVariables false
set_option maxRecDepth 3000
set_option maxHeartbeats 16000000
section
namespace Go.LA
open Go.RowKit
section
variable {P:Program} {l:List Oper} {N:Nn} {wb:World} {K:List Oper→Env→Prop} {rest:List Oper} {E:Env} {Q:Exit→Act→World→Prop}
variable {d:Tmp} {ty t t':TypeId} {pos:String} {after:Array Edge} {g:Option (Nat × Bool)} {x y z:Operand} {k k':IntKind}
theorem w7A {cs:List Value} {j:Nat} (h:j<cs.length):(cs.drop (j*1)).take 1=[cs.getD j undef]:=by
 rw [Nat.mul_one,List.drop_eq_getElem_cons h,List.take_succ_cons,List.take_zero,List.getD_eq_getElem?_getD,List.getElem?_eq_getElem h];rfl
theorem czA {n:Nat} {cs:List Value} {i:Int} (hg:bkA l E g=some true) (e:TypeId) (ht:P.underlying t=some (.slice e)) (hs:∀ w,(sizeOf e).run P w=.ok 1 w)
 {r:AD} (hr:opE E x=r) (hx:HasC wb r n 1 cs) (hi:opE E y=.val (.int k i)) (j:Nat) (hj:i=j) (hn:j<n) (hl:cs.length=n)
 (h:LA P l wb K rest ((d,.pred (kcA [cs.getD j undef]))::E)):LA P l wb K (⟨some d,.indexAddr t x y,ty,pos,after,g⟩::rest) E:=by
 refine c1A hg e ht hs hr hx hi j hj hn ?_
 rw [w7A oZ];exact h
theorem s9A {z:Value} (hz:z.cells=#[z]) (n:Nat):(madeCells z.cells (n*1)).toList=List.replicate n z:=by
 refine List.ext_getElem (by simp [madeCells]) λ i h1 h2=>?_
 simp [madeCells,hz,Nat.mod_one]
theorem x6A {e:TypeId} {b n:Nat} {zv:Value} {kl kc:IntKind} (hg:bkA l E g=some true) (hel:El P t e zv 1 b) (hz:zv.cells=#[zv]) (hx:opE E x=.val (.int kl (n:Int))) (hy:opE E y=.val (.int kc (n:Int))) (hb:b*n≤281474976710656) (hn:n≤9223372036854775807)
 (h:LA P l wb K rest ((d,.pred (i9A wb.heap.size e 1 n (List.replicate n zv)))::E)):LA P l wb K (⟨some d,.makeSlice t x y,ty,pos,after,g⟩::rest) E :=
 bcA (.pred (i9A wb.heap.size e 1 n (List.replicate n zv))) hg (λ a w he hh=>by
  have e1:=hh x (by simp [Op.operands]);have e2:=hh y (by simp [Op.operands]);rw [hx] at e1;rw [hy] at e2;simp only [AD.ok] at e1 e2;obtain ⟨i,hi1,hi2,hi3,hi4⟩:=hel.parts;obtain ⟨w',g1,g2,g3⟩:=run_make_full (P:=P) w wb.heap.size t e i _ 1 hel.ht hi1 hi2 hi3 kl kc n (by rw [hi4];exact hb) (by unfold maxLen;omega) he.size;rw [s9A hz] at g2;simp only [execOp,Sem.run_bind,e1,e2,g1,Result.andThen_ok,Sem.run_pure];exact ⟨leA g3,g2⟩) h
def oneP (base e:Nat) (φ:AV):AV:=⟨λ v w=>∃ u,φ.p u w∧u.cells=#[u]∧u.oneCell'=true∧Own base e 1 w v 1 [u],λ _ _ _ x ⟨u,h1,h2,h3,h4⟩=>⟨u,φ.mono _ _ _ x h1,h2,h3,h4.ext x⟩⟩
theorem u0A {zv:Value} {b base:Nat} {e:TypeId} {φ:AV} (hbase:base≤wb.heap.size) (hg:bkA l E g=some true) (hel:El P t e zv 1 b) (hx:opE E x=.pred φ) (hφ:∀ u w,φ.p u w→u.cells=#[u]∧u.oneCell'=true) (h:LA P l wb K rest ((d,.pred (oneP base e φ))::E)) :
 LA P l wb K (⟨some d,.buildSlice t 1 #[(0,x)],ty,pos,after,g⟩::rest) E:=by
 refine bcA (.pred (oneP base e φ)) hg (λ a w he hh=>?_) h;have h1:=hh x (by simp [Op.operands]);rw [hx] at h1
 generalize hc:a.eval x=c at h1
 obtain ⟨h2,h3⟩:=hφ _ _ h1;have hrun:(Instr.buildSlice t 1 #[(0,c)]).run P w=.ok (.slice (some ⟨w.heap.size,0,none⟩) 1 1) (w.alloc (.cells #[c] e)):=by
  simp only [Instr.buildSlice,Sem.run_bind,run_underlying hel.ht,Result.andThen_ok,hel.sizeOf,Nat.reduceMul,Nat.reducePow,gt_iff_lt,Nat.reduceLT,if_false,Sem.run_pure,Nat.reduceEqDiff,hel.zero,lcA h2 hel.zs];rfl
 simp only [execOp,List.map_toArray,List.map_cons,List.map_nil,hc,Sem.run_bind,hrun,Result.andThen_ok,Sem.run_pure];exact ⟨Ext.alloc _ _,c,φ.mono _ _ _ (Ext.alloc _ _) h1,h2,h3,by simp,.inr ⟨w.heap.size,1,#[c],rfl,Nat.le_trans hbase he.size,heap_alloc_new w _,Nat.le_refl _,by decide,rfl,rfl⟩⟩
end
theorem Own.rowV {base e n:Nat} {w:World} {v:Value} {cs:List Value} (h:Own base e 1 w v n cs) (hp:0<n) :
 ∃ b cap cur,v=.slice (some ⟨b,0,none⟩) n cap∧base≤b∧w.heap[b]?=some (.cells cur e (0,0))∧n≤cap∧cap≤maxLen∧cur.size=cap∧cur.toList.take n=cs:=by
 rcases h.2 with ⟨h1,h0⟩|⟨b,cap,cur,h1,h2,h3,h4,h5,h6,h7⟩
 ·omega
 ·exact ⟨b,cap,cur,h1,h2,h3,h4,h5,by omega,by rw [Nat.mul_one] at h7;exact h7⟩
theorem Own.setV {base e b cap n:Nat} {w:World} {cur:Array Value} {cs:List Value} (hb:base≤b) (hg:w.heap[b]?=some (.cells cur e (0,0))) (hnc:n≤cap) (hm:cap≤maxLen) (hsz:cur.size=cap) (ht:cur.toList.take n=cs) (i:Nat) (hi:i<n) (c:Value) :
 Own base e 1 (w.setRow b (cur.setIfInBounds i c)) (.slice (some ⟨b,0,none⟩) n cap) n (cs.set i c):=by
 have hl:cs.length=n:=by rw [← ht,List.length_take,Array.length_toList];omega
 refine ⟨by rw [List.length_set];omega,.inr ⟨b,cap,_,rfl,hb,setRow_heap w b _ _ _ _ hg,hnc,hm,by simp [hsz],?_⟩⟩;rw [Nat.mul_one,Array.toList_setIfInBounds,List.take_set,ht]
theorem Own.lenV {base e n:Nat} {w:World} {v:Value} {cs:List Value} (h:Own base e 1 w v n cs):cs.length=n:=by have:=h.1;omega
theorem laA {cs:List Value} {i j:Nat} {c:Value} (hi:i<cs.length):(cs.set i c).getD j undef=if j=i then c else cs.getD j undef:=by
 simp only [List.getD_eq_getElem?_getD]
 by_cases e:j=i
 ·subst e;rw [if_pos rfl,List.getElem?_set_self hi];rfl
 ·rw [if_neg e,List.getElem?_set_ne (λ h=>e h.symm)]
theorem gdA {cs:List Value} {j n:Nat} {c:Value} (hl:cs.length=n):(cs++[c]).getD j undef=if j<n then cs.getD j undef else if j=n then c else undef:=by
 simp only [List.getD_eq_getElem?_getD]
 by_cases h1:j<n
 ·rw [if_pos h1,List.getElem?_append_left oZ]
 ·rw [if_neg h1]
  by_cases h2:j=n
  ·rw [if_pos h2,List.getElem?_append_right oZ,show j-cs.length=0 by omega];rfl
  ·rw [if_neg h2,List.getElem?_append_right oZ,List.getElem?_eq_none (by simp;omega)];rfl
end Go.LA
end
section
namespace Go.LA
open Go.RowKit Go.ArrP
def g4A (ids:List Int) (id:Nat):Nat→List Int
 | 0=>[]
 | n+1=>g4A ids id n++if ids.getD n 0=(id:Int) then [(n:Int)] else []
def idP (ids:List Int) (id:Int) (x:Nat):Bool:=decide (x<ids.length) && decide (ids.getD x 0=id)
theorem j3A (ids:List Int) (id:Nat) (z:Int):∀ n,z ∈ g4A ids id n↔∃ x:Nat,x<n∧ids.getD x 0=(id:Int)∧z=x
 | 0=>by simp [g4A]
 | n+1=>by
   simp only [g4A,List.mem_append,j3A ids id z n]
   constructor
   ·rintro (⟨x,h1,h2,h3⟩|h)
    ·exact ⟨x,by omega,h2,h3⟩
    ·split at h
     ·rename_i e
      exact ⟨n,Nat.lt_succ_self n,e,List.mem_singleton.1 h⟩
     ·cases h
   ·rintro ⟨x,h1,h2,h3⟩
    by_cases e:x=n
    ·subst e;right;rw [if_pos h2];exact List.mem_singleton.2 h3
    ·exact .inl ⟨x,by omega,h2,h3⟩
theorem j4A (ids:List Int) (id:Nat):∀ n,(g4A ids id n).length≤n
 | 0=>Nat.le_refl _
 | n+1=>by
   have:=j4A ids id n;simp only [g4A,List.length_append]
   split <;> simp <;> omega
theorem s5A (ids:List Int) (id:Nat):cdA (g4A ids id ids.length)=idP ids id:=by
 funext x
 unfold cdA idP;rw [Bool.eq_iff_iff,decide_eq_true_iff,Bool.and_eq_true,decide_eq_true_iff,decide_eq_true_iff,j3A]
 constructor
 ·rintro ⟨y,h1,h2,h3⟩
  obtain rfl:x=y:=oZ;exact ⟨h1,h2⟩
 ·rintro ⟨h1,h2⟩
  exact ⟨x,h1,h2,rfl⟩
theorem q3A {ids:List Int} {id n:Nat} (h:ids.getD n 0=(id:Int)):g4A ids id (n+1)=g4A ids id n++[(n:Int)]:=by
 simp only [g4A,if_pos h]
theorem n7A {ids:List Int} {id n:Nat} (h:ids.getD n 0≠(id:Int)):g4A ids id (n+1)=g4A ids id n:=by
 simp only [g4A,if_neg h,List.append_nil]
def rowP (n:Nat) (ps:Nat→Nat→Bool) (id:Int):Nat→Bool:=if 0≤id∧id<(n:Int) then ps id.toNat else λ _=>false
def amP (n:Nat) (ps:Nat→Nat→Bool) (ys:List Int):Nat→Nat→Bool
 | 0=>λ _=>false
 | k+1=>if 0≤ys.getD k 0∧ys.getD k 0<(n:Int) then two (λ x y=>x || y) (amP n ps ys k) (ps (ys.getD k 0).toNat) else amP n ps ys k
def sumP (ids:List Int):Nat→Nat→Bool
 | 0=>λ _=>false
 | k+1=>two (λ x y=>x || y) (sumP ids k) (idP ids k)
theorem r6A {p q:Nat→Bool} {x:Nat}:two (λ x y=>x || y) p q x=true↔p x=true∨q x=true:=by show (p x || q x)=true↔_;rw [Bool.or_eq_true]
theorem lbA {p q:Nat→Bool} (h:∀ x,p x=true↔q x=true):p=q:=funext λ x=>Bool.eq_iff_iff.2 (h x)
theorem idP_iff {ids:List Int} {id:Int} {x:Nat}:idP ids id x=true↔x<ids.length∧ids.getD x 0=id:=by
 unfold idP;rw [Bool.and_eq_true,decide_eq_true_iff,decide_eq_true_iff]
theorem tiA {n:Nat} {ps:Nat→Nat→Bool} {ys:List Int} {x:Nat}:∀ k,amP n ps ys k x=true↔∃ j,j<k∧0≤ys.getD j 0∧ys.getD j 0<(n:Int)∧ps (ys.getD j 0).toNat x=true
 | 0=>by simp [amP]
 | k+1=>by
   have ih:=tiA (n:=n) (ps:=ps) (ys:=ys) (x:=x) k;simp only [amP]
   split
   ·rename_i hc
    rw [r6A,ih]
    constructor
    ·rintro (⟨j,h1,h2⟩|h)
     ·exact ⟨j,by omega,h2⟩
     ·exact ⟨k,Nat.lt_succ_self k,hc.1,hc.2,h⟩
    ·rintro ⟨j,h1,h2,h3,h4⟩
     by_cases e:j=k
     ·subst e;exact .inr h4
     ·exact .inl ⟨j,by omega,h2,h3,h4⟩
   ·rename_i hc
    rw [ih]
    constructor
    ·rintro ⟨j,h1,h2⟩;exact ⟨j,by omega,h2⟩
    ·rintro ⟨j,h1,h2,h3,h4⟩
     by_cases e:j=k
     ·subst e;exact absurd ⟨h2,h3⟩ hc
     ·exact ⟨j,by omega,h2,h3,h4⟩
theorem h9A {ids:List Int} {x:Nat}:∀ k,sumP ids k x=true↔x<ids.length∧0≤ids.getD x 0∧ids.getD x 0<(k:Int)
 | 0=>by
   simp only [sumP]
   constructor
   ·intro h;cases h
   ·rintro ⟨_,h1,h2⟩;omega
 | k+1=>by
   have ih:=h9A (ids:=ids) (x:=x) k;simp only [sumP];rw [r6A,ih,idP_iff]
   constructor
   ·rintro (h|h) <;> omega
   ·rintro ⟨h1,h2,h3⟩
    by_cases e:ids.getD x 0=(k:Int)
    ·exact .inr ⟨h1,e⟩
    ·exact .inl ⟨h1,h2,by omega⟩
def IdsIn (ids:List Int) (n:Nat):Prop:=∀ x,x<ids.length→0≤ids.getD x 0∧ids.getD x 0<(n:Int)
theorem IdsIn.of {ids:List Int} {n:Nat} (h:∀ x ∈ ids,0≤x∧x<(n:Int)):IdsIn ids n:=λ x hx=>by
 rw [List.getD_eq_getElem?_getD,List.getElem?_eq_getElem hx];exact h _ (List.getElem_mem hx)
theorem krA {ids:List Int} {n id:Nat} (h:id<n):rowP n (λ i=>idP ids i) id=idP ids id:=by
 unfold rowP;rw [if_pos ⟨Int.natCast_nonneg _,by omega⟩,Int.toNat_natCast]
theorem am_id {ids ys:List Int} {n:Nat} (h:IdsIn ids n) {x:Nat}:amP n (λ i=>idP ids i) ys ys.length x=true↔x<ids.length∧ids.getD x 0 ∈ ys:=by
 rw [tiA]
 constructor
 ·rintro ⟨j,h1,h2,h3,h4⟩
  obtain ⟨h5,h6⟩:=idP_iff.1 h4;refine ⟨h5,?_⟩;rw [h6,Int.toNat_of_nonneg h2,List.getD_eq_getElem?_getD,List.getElem?_eq_getElem h1];exact List.getElem_mem h1
 ·rintro ⟨h1,h2⟩
  obtain ⟨j,hj,he⟩:=List.getElem_of_mem h2;have hg:ys.getD j 0=ids.getD x 0:=by rw [List.getD_eq_getElem?_getD,List.getElem?_eq_getElem hj];exact he
  have:=h x h1;refine ⟨j,hj,by omega,by omega,idP_iff.2 ⟨h1,?_⟩⟩;rw [hg,Int.toNat_of_nonneg this.1]
theorem ajB {p:Nat→Bool} {m T:Nat} (h:∀ x,p x=true↔x<m) (hT:m≤T):cnt p T=m:=by
 have:p=itv 0 m:=lbA λ x=>by rw [h,sjA];omega
 rw [this,t3A];omega
theorem d6B {p:Nat→Bool} {T:Nat} (h:∀ x,¬ p x=true):cnt p T=0:=ejA T λ i _=>by
 cases hp:p i
 ·rfl
 ·exact absurd hp (h i)
end Go.LA
end
section
namespace Go.Proofs.YtbokphkfojijoaaGreatDoor
open Go.LA Go.ArrP Go.RowKit
abbrev tPs:Nat:=37
abbrev tRw:Nat:=72
abbrev tU3:Nat:=71
theorem w5A:El Tryz.prog 116 tPs (.pointer none) 1 8:=⟨rfl,rfl,rfl,by decide⟩
theorem el_rw:El Tryz.prog 115 tRw (.slice none 0 0) 1 24:=⟨rfl,rfl,rfl,by decide⟩
theorem cuB:El Tryz.prog 72 tU3 (.int .u32 0) 1 4:=⟨rfl,rfl,rfl,by decide⟩
def OffT (e:Nat):Prop:=e≠tS∧e≠tK∧e≠tC∧61≠e∧105≠e
theorem RSet.off {R:Nat→Prop} {w w':World} {v:Value} {p:Nat→Bool} (h:RSet TT TT w v p) (hf:Fr R w w') (hR:∀ k,R k→∃ cur e,w.heap[k]?=some (.cells cur e (0,0))∧OffT e):RSet TT TT w' v p:=by
 obtain ⟨b,kv,lv,rfl,hS,hB⟩:=h;refine ⟨b,kv,lv,rfl,hS.fr hf (λ k hk=>?_) (λ k ho hk=>?_),hB⟩
 ·obtain ⟨cur,e,h1,h2⟩:=hR k hk
  exact ⟨cur,e,_,h1,h2.2.2.2.1,h2.2.2.2.2,λ _ h=>h2.2.1 h.symm⟩
 ·obtain ⟨cur,e,h1,h2⟩:=hR k hk
  obtain ⟨Q,q1,q2,q3⟩:=hS.hl
  rcases ho with rfl|ho|ho
  ·have h3:=hS.hb;rw [h1] at h3;cases h3;exact h2.1 rfl
  ·obtain ⟨cur',h3⟩:=azA hS.hk ho
   rw [h1] at h3;cases h3;exact h2.2.1 rfl
  ·obtain ⟨cur',h3⟩:=azA q2 ho
   rw [h1] at h3;cases h3;exact h2.2.2.1 rfl
theorem xsA {B A:Nat→Prop} {p:Nat→Bool} (u:Value) (w:World) (h:(rsP B A p).p u w):u.cells=#[u]∧u.oneCell'=true:=by
 obtain ⟨b,kv,lv,rfl,-⟩:=h;exact ⟨rfl,rfl⟩
structure Sets (w:World) (base:Nat) (sv:Value) (ptrs:List Value) (n:Nat) (ps:Nat→Nat→Bool):Prop where
 own:LA.Own base tPs 1 w sv n ptrs
 at_:∀ i,i<n→RSet TT TT w (ptrs.getD i undef) (ps i)
theorem Sets.ext {w w':World} {base:Nat} {sv:Value} {ptrs:List Value} {n:Nat} {ps:Nat→Nat→Bool} (h:Sets w base sv ptrs n ps) (e:Ext w w'):Sets w' base sv ptrs n ps:=⟨h.own.ext e,λ i hi=>(h.at_ i hi).ext e⟩
def IX (t:Nat) (n:Nat) (ps:Nat→Nat→Bool) (w:World) (v:Value):Prop:=∃ b sv ptrs,v=.pointer (some ⟨b,0,none⟩)∧w.heap[b]?=some (.cells #[sv] t (0,0))∧Sets w 0 sv ptrs n ps
theorem IX.ext {t n:Nat} {ps:Nat→Nat→Bool} {w w':World} {v:Value} (h:IX t n ps w v) (e:Ext w w'):IX t n ps w' v:=by
 obtain ⟨b,sv,ptrs,h1,h2,h3⟩:=h;exact ⟨b,sv,ptrs,h1,e.block h2,h3.ext e⟩
def ixP (t n:Nat) (ps:Nat→Nat→Bool):AV:=⟨λ v w=>IX t n ps w v,λ _ _ _ e h=>h.ext e⟩
structure RowsV (w:World) (base:Nat) (v:Value) (vs:List Value) (n:Nat) (xs:Nat→List Int):Prop where
 own:LA.Own base tRw 1 w v n vs
 at_:∀ i,i<n→OwnI base tU3 .u32 w (vs.getD i undef) (xs i)
 apart:∀ i j,i<n→j<n→i≠j→∀ b,(vs.getD i undef).ownBlock=some b→(vs.getD j undef).ownBlock≠some b
theorem RowsV.ext {w w':World} {base:Nat} {v:Value} {vs:List Value} {n:Nat} {xs:Nat→List Int} (h:RowsV w base v vs n xs) (e:Ext w w'):RowsV w' base v vs n xs:=⟨h.own.ext e,λ i hi=>(h.at_ i hi).ext e,h.apart⟩
theorem RowsV.new {w:World} {base:Nat} {v:Value} {n:Nat} (h:LA.Own base tRw 1 w v n (List.replicate n nilS)):RowsV w base v (List.replicate n nilS) n (λ _=>[]):=by
 have h1:∀ i,i<n→(List.replicate n nilS).getD i undef=nilS:=λ i hi=>by simp [List.getD,List.getElem?_replicate,hi]
 exact ⟨h,λ i hi=>by rw [h1 i hi];exact OwnI.nil,λ i j hi hj hne b hb=>by rw [h1 i hi] at hb;cases hb⟩
theorem RowsV.fr {w w':World} {base:Nat} {v:Value} {vs:List Value} {n:Nat} {xs:Nat→List Int} (h:RowsV w base v vs n xs) {R:Nat→Prop} (hf:Fr R w w') (hR:∀ k,R k→∃ cur e,w.heap[k]?=some (.cells cur e (0,0))∧tRw≠e∧tU3≠e):RowsV w' base v vs n xs :=
 ⟨hf.own h.own (λ k hk hr=>by obtain ⟨cur,e,h1,h2⟩:=hR k hr;exact Own.apart h.own h1 h2.1 hk),λ i hi=>hf.own (h.at_ i hi) (λ k hk hr=>by obtain ⟨cur,e,h1,h2⟩:=hR k hr;exact Own.apart (h.at_ i hi) h1 h2.2 hk),h.apart⟩
theorem RowsV.put {w w1 w2 w3:World} {base b cap n i:Nat} {v':Value} {vs:List Value} {cur:Array Value} {xs ys:Nat→List Int} (h:RowsV w base (.slice (some ⟨b,0,none⟩) n cap) vs n xs) (hb:base≤b) (hc:w.heap[b]?=some (.cells cur tRw (0,0))) (hnc:n≤cap) (hm:cap≤maxLen) (hsz:cur.size=cap) (ht:cur.toList.take n=vs) (hi:i<n) (hbase:base≤w.heap.size)
 (e1:Ext w w1) (hf:Fr (λ k=>(vs.getD i undef).ownBlock=some k) w1 w2) (hl:LocR w1 (vs.getD i undef) v') (ho:LA.Own 0 tU3 1 w2 v' (ys i).length ((ys i).map (Value.int .u32))) (e2:Ext w2 w3) (hy:∀ j,j≠i→ys j=xs j) :
 RowsV (w3.setRow b (cur.setIfInBounds i v')) base (.slice (some ⟨b,0,none⟩) n cap) (vs.set i v') n ys:=by
 have hln:=h.own.lenV;have hb2:w2.heap[b]?=some (.cells cur tRw (0,0)):=hf.at (e1.block hc) (λ hk=>Own.apart (h.at_ i hi) hc dZ hk);have hb3:=e2.block hb2;have hg:∀ j,(vs.set i v').getD j undef=if j=i then v' else vs.getD j undef:=λ j=>laA oZ
 have hge:∀ k,v'.ownBlock=some k→base≤k:=hl.ge (λ k hk=>(Own.lt (h.at_ i hi) k hk).1) (Nat.le_trans hbase e1.size);have hne:∀ {bb ee ss nn:Nat} {vv:Value} {cc:List Value},LA.Own bb ee ss w3 vv nn cc→ee≠tRw→vv.ownBlock≠some b:=λ ho hne=>Own.apart ho hb3 hne
 refine ⟨Own.setV hb hb3 hnc hm hsz ht i hi v',λ j hj=>?_,λ j j' hj hj' hne' k hk hk'=>?_⟩
 ·rw [hg]
  by_cases e:j=i
  ·subst e;rw [if_pos rfl]
   have h4:OwnI base tU3 .u32 w3 v' (ys j):=Own.rebase (ho.ext e2) hge;exact Own.setRow h4 _ (hne h4 dZ)
  ·rw [if_neg e,hy j e]
   have h4:OwnI base tU3 .u32 w3 (vs.getD j undef) (xs j):=Own.ext (hf.own (Own.ext (h.at_ j hj) e1) (λ k hk hr=>h.apart j i hj hi e k hk hr)) e2;exact Own.setRow h4 _ (hne h4 dZ)
 ·rw [hg] at hk hk'
  have key:∀ j,j<n→j≠i→∀ k,(vs.getD j undef).ownBlock=some k→v'.ownBlock≠some k:=λ j hj e k hk hk'=>by
   rcases hl with hl|hl
   ·rw [hl] at hk';exact h.apart j i hj hi e k hk hk'
   ·have h5:=hl k hk'
    have h6:=(Own.lt (h.at_ j hj) k hk).2;have:=e1.size;omega
  by_cases e:j=i
  ·subst e;rw [if_pos rfl] at hk;rw [if_neg (λ h=>hne' h.symm)] at hk'
   exact key j' hj' (λ h=>hne' h.symm) k hk' hk
  ·rw [if_neg e] at hk
   by_cases e':j'=i
   ·subst e';rw [if_pos rfl] at hk';exact key j hj e k hk hk'
   ·rw [if_neg e'] at hk';exact h.apart j j' hj hj' hne' k hk hk'
def neA (ids:List Int) (many:Int):Bool:=decide (0≤many) && decide (many≤16777216) && decide (ids.length≤16777216) && ids.all λ x=>decide (0≤x) && decide (x<many)
theorem l7A (ids:List Int) (many:Int):neA ids many=true↔0≤many∧many≤16777216∧ids.length≤16777216∧∀ x ∈ ids,0≤x∧x<many:=by
 unfold neA;simp only [Bool.and_eq_true,decide_eq_true_eq,List.all_eq_true]
 constructor
 ·rintro ⟨⟨⟨h1,h2⟩,h3⟩,h4⟩;exact ⟨h1,h2,h3,h4⟩
 ·rintro ⟨h1,h2,h3,h4⟩;exact ⟨⟨⟨h1,h2⟩,h3⟩,h4⟩
def ofX (t:Nat) (b:Bool) (n:Nat) (ps:Nat→Nat→Bool):AD:=match b with
 | true=>.tup2 (.pred (ixP t n ps)) (.val (.int .i64 0))
 | false=>.tup2 (.val (.pointer none)) (.val (.int .i64 2))
abbrev tIv:Nat:=118
theorem clB {w:World} {v:Value} {ids:List Int} {many:Int} (h:SlI .i64 w v ids) (hT:Tab w):Fc Tryz.prog 21 #[v,.int .i64 many] w (Ret w (ofX tIv (neA ids many) many.toNat λ i=>idP ids i)):=by
 have hl:=h.len;have hmx:=l7A ids many
 by_cases hsz:¬ (0≤many∧many≤16777216∧ids.length≤16777216)
 ·have hmf:neA ids many=false:=by
   cases hm:neA ids many
   ·rfl
   ·have:=hmx.1 hm;exact absurd ⟨this.1,this.2.1,this.2.2.1⟩ hsz
  rw [hmf];refine Fc.of (args:=[_,_]) Tryz.func21 rfl rfl Tryz.ntmps21 nZ ?_
  by_cases c1:many<0
  ·skip
   repeat' (first|(refine yL ?_;first|refine a0A rfl ?_|refine yO ?_|(refine yC ?_ ?_<;>intro hc)|(refine yN hK ?_;clear hK K))|refine wG ?_|(refine yR ?_;intro K hK)|fail)
   all_goals exact diA rfl rfl rfl (Ext.refl _) rfl rfl
  ·by_cases c2:16777216<many
   ·skip
    repeat' (first|(refine yL ?_;first|refine a0A rfl ?_|refine yO ?_|(refine yC ?_ ?_<;>intro hc)|(refine yN hK ?_;clear hK K))|refine wG ?_|(refine yR ?_;intro K hK)|fail)
    all_goals exact diA rfl rfl rfl (Ext.refl _) rfl rfl
   ·have c3:16777216<(ids.length:Int):=oZ
    repeat' (first|(refine yL ?_;first|refine a0A rfl ?_|refine yO ?_|(refine yC ?_ ?_<;>intro hc)|(refine yN hK ?_;clear hK K))|refine wG ?_|(refine yR ?_;intro K hK)|fail)
    all_goals exact diA rfl rfl rfl (Ext.refl _) rfl rfl
 obtain ⟨s0,s1,s2⟩:=Decidable.not_not.1 hsz;obtain ⟨n,rfl⟩:=Int.eq_ofNat_of_zero_le s0;refine Fc.of (args:=[_,_]) Tryz.func21 rfl rfl Tryz.ntmps21 nZ ?_
 repeat' (first|(refine yL ?_;first|refine a0A rfl ?_|(refine oD 23 ?_;refine x6A rfl el_rw rfl rfl rfl oZ oZ ?_)|refine yO ?_|(refine yC ?_ ?_<;>intro hc)|(refine yN hK ?_;clear hK K))|(refine oCX ?_;first|refine cbA (id:=4) (ι:=Value × List Value) (λ j=>[(0,.val v),(1,.val (.int .i64 n)),(6,.val j.1)]) (λ j w'=>Ext w w'∧RowsV w' w.heap.size j.1 j.2 n (λ i=>g4A ids i ids.length)∧neA ids n=true) ?_ ?_)|refine wG ?_|(refine yR ?_;intro K hK)|fail)
 ·skip
  refine c2A 6 rfl (λ v6 w6 e6 h6=>?_)
  refine abA (ι:=Nat × List Value) (λ j=>[(0,.val v),(1,.val (.int .i64 n)),(6,.val v6),(24,.val v),(25,.val (.int .i64 ids.length)),(26,.val (.int .i64 j.1))])
   (λ j w'=>Ext w w'∧j.1≤ids.length∧RowsV w' w.heap.size v6 j.2 n (λ i=>g4A ids i j.1)∧∀ i,i<j.1→0≤ids.getD i 0∧ids.getD i 0<(n:Int))
   (λ j=>ids.length-j.1) (λ w2 e2=>⟨(0,List.replicate n nilS),⟨e6.trans e2,Nat.zero_le _,(RowsV.new h6).ext e2,λ i hi=>absurd hi (Nat.not_lt_zero _)⟩,sZ⟩) ?_
  rintro ⟨k,vs⟩ w1 ⟨he,hk0,hr,hall⟩;dsimp only at hk0 hr hall ⊢
  by_cases hk:k<ids.length
  ·by_cases hid:0≤ids.getD k 0∧ids.getD k 0<(n:Int)
   ·obtain ⟨id,hx⟩:=Int.eq_ofNat_of_zero_le hid.1
    have hx':ids.getD k 0=((id:Nat):Int):=hx;have hidn:id<n:=by have:=hid.2;omega
    have hrl:=j4A ids id k;obtain ⟨rb,cap,cur,rfl,hrb,hrc,hnc,hcm,hcs,hct⟩:=hr.own.rowV oZ;have hrn:=q3A hx'
    repeat' (first|(refine yL ?_;first|refine a0A rfl ?_|(refine oD 29 ?_;refine acA rfl _ rfl (λ _=>rfl) rfl (HasI.val (h.ext he)) rfl hk ?_;rw [hx'])|(refine oD 42 ?_;refine czA rfl _ rfl (λ _=>rfl) rfl (HasC.ownV hr.own) rfl id rfl hidn hr.own.lenV ?_)|(refine oD 46 ?_;refine g3A rfl cuB rfl rfl ?_)|(refine oD 47 ?_;refine a2A (hK _ _ (arA rfl dZ cuB rfl (hr.at_ id hidn) rfl HasC.pred (λ u hu=>by rw [List.mem_singleton] at hu;subst hu;rfl) (by unfold maxLen;omega) oZ (λ v' w2 w3 e2 ho3 hf3 hl3=>?_)));clear hK K;have hc3:=hf3.at (e2.block hrc) (λ hk'=>Own.apart (hr.at_ id hidn) hrc dZ hk');obtain ⟨ck1,ck2⟩:=ddA ho3;refine aeA kZ (λ K hK=>?_))|(refine oD 48 ?_;refine bjA (s:=1) rfl rfl (λ _=>rfl) rfl rfl oZ oZ ?_;rw [Int.toNat_natCast,Nat.zero_add,Nat.mul_one])|(refine a2A (hK _ _ (bfA rfl rfl rfl hc3 (λ _=>rfl) oZ ck1 ck2 (λ w4 e4=>?_)));clear hK K;dsimp only [vals];refine aeA kZ (λ K hK=>?_))|refine yO ?_|(refine yC ?_ ?_<;>intro hc)|(refine yN hK ?_;clear hK K))|refine wG ?_|(refine yR ?_;intro K hK)|fail)
    have x3:Ext w w3:=Fr.ext (he.trans e2) hf3 (λ q hq=>(Own.lt (hr.at_ id hidn) q hq).1);have hr4:=hr.put (w3:=w4) (ys:=λ i=>g4A ids i (k+1)) hrb hrc hnc hcm hcs hct hidn he.size e2 hf3 hl3 (by rw [hrn,List.map_append,List.length_append];exact ho3) e4 (λ j hj=>n7A (by rw [hx'];omega));have x4:=(x3.trans e4).setRow hrb (cur.setIfInBounds id v');refine a5A (k+1,vs.set id v') (λ w5 e5=>⟨x4.trans e5,hk,hr4.ext e5,λ i hi=>?_⟩) eZ sZ
    by_cases e:i=k
    ·rw [e];exact hid
    ·exact hall i oZ
   ·have hmf:neA ids n=false:=by
     cases hm:neA ids n
     ·rfl
     ·refine absurd ((hmx.1 hm).2.2.2 _ ?_) hid
      rw [List.getD_eq_getElem?_getD,List.getElem?_eq_getElem hk];exact List.getElem_mem hk
    rw [hmf]
    rcases Int.lt_or_le (ids.getD k 0) 0 with c4|c4
    all_goals
     repeat' (first|(refine yL ?_;first|refine a0A rfl ?_|(refine oD 29 ?_;refine acA rfl _ rfl (λ _=>rfl) rfl (HasI.val (h.ext he)) rfl hk ?_)|refine yO ?_|(refine yC ?_ ?_<;>intro hc)|(refine yN hK ?_;clear hK K))|refine wG ?_|(refine yR ?_;intro K hK)|fail)
     all_goals exact diA rfl rfl rfl he rfl rfl
  ·obtain rfl:k=ids.length:=oZ
   repeat' (first|(refine yL ?_;first|refine a0A rfl ?_|refine yO ?_|(refine yC ?_ ?_<;>intro hc)|(refine yN hK ?_;clear hK K))|refine wG ?_|(refine yR ?_;intro K hK)|fail)
   exact a5A (v6,vs) (λ w5 e5=>⟨he.trans e5,hr.ext e5,hmx.2 ⟨s0,s1,s2,λ x hx=>by
    obtain ⟨i,hi,rfl⟩:=List.getElem_of_mem hx;have:=hall i hi;rw [List.getD_eq_getElem?_getD,List.getElem?_eq_getElem hi] at this;exact this⟩⟩) oZ sZ
 rintro ⟨v6,vs⟩ w0 ⟨he0,hr0,hm⟩;dsimp only at hr0;rw [hm,Int.toNat_natCast]
 repeat' (first|(refine yL ?_;first|refine a0A rfl ?_|refine fnA (c:=.agg #[nilS]) rfl (λ _=>by kernel_rfl) ?_|refine ghA rfl rfl ?_|refine yO ?_|(refine yC ?_ ?_<;>intro hc)|(refine yN hK ?_;clear hK K))|refine wG ?_|(refine yR ?_;intro K hK)|fail)
 refine c2A 9 rfl (λ v9 w9 e9 h9=>?_);obtain ⟨b,hbb,rfl,hb9⟩:=h9;have hbw:w.heap.size≤b:=Nat.le_trans he0.size hbb;have x9:=he0.trans e9
 refine abA (ι:=Nat × Value × List Value) (λ j=>[(1,.val (.int .i64 n)),(6,.val v6),(9,.val (.pointer (some ⟨b,0,none⟩))),(52,.val (.int .i64 n)),(53,.val (.int .i64 j.1))])
  (λ j w'=>Ext w w'∧j.1≤n∧RowsV w' w.heap.size v6 vs n (λ i=>g4A ids i ids.length)∧w'.heap[b]?=some (.cells #[j.2.1] tIv (0,0))∧Sets w' w.heap.size j.2.1 j.2.2 j.1 (λ i=>idP ids i))
  (λ j=>n-j.1) (λ w2 e2=>⟨(0,nilS,[]),⟨x9.trans e2,Nat.zero_le _,(hr0.ext e9).ext e2,e2.block hb9,⟨Own.nil,λ i hi=>absurd hi (Nat.not_lt_zero _)⟩⟩,sZ⟩) ?_
 rintro ⟨k,sv,ptrs⟩ w1 ⟨he,hk0,hr,hb1,hs⟩;dsimp only at hk0 hr hb1 hs ⊢
 by_cases hk:k<n
 ·have hof:∀ w' u,Ext w1 w'→u=vs.getD k undef→Fc Tryz.prog 41 #[u] w' (Ret w' (.pred (rsP TT TT (idP ids k)))):=λ w' u e hu=>by
   rw [hu,← s5A];refine of_s ((hr.at_ k hk).ext e).slI (λ x hx=>?_) (by have:=j4A ids k ids.length;omega) (hT.ext (he.trans e)) tt tt;obtain ⟨y,h1,h2,h3⟩:=(j3A ids k x ids.length).1 hx;omega
  repeat' (first|(refine yL ?_;first|refine yB ?_|refine a9A rfl rfl ?_|refine a1A (a':=⟨b,0,none⟩) rfl rfl (λ _=>rfl) ?_|(refine oD 60 ?_;refine a6A (c:=sv) rfl (λ _=>rfl) rfl hb1 rfl ?_)|(refine oD 63 ?_;refine czA rfl _ rfl (λ _=>rfl) rfl (HasC.ownV hr.own) rfl k rfl hk hr.own.lenV ?_)|(refine oD 66 ?_;refine u0A (Nat.le_refl _) rfl w5A rfl xsA ?_)|refine yO ?_|(refine yC ?_ ?_<;>intro hc)|(refine yV ?_;first|(refine oC 41 ?_;refine a3A (f:=41) rfl rfl rfl  (.pred (rsP TT TT (idP ids k))) (by intro u1 w e hu1;(try obtain rfl:u1=_:=hu1);exact hof _ _ e rfl) ?_))|(refine yN hK ?_;clear hK K))|(refine oCX ?_;first|refine anA (id:=15) [11,14] kZ kZ kZ (a7A ?_))|refine wG ?_|(refine yR ?_;intro K hK)|refine wPh ?_|fail)
  refine jrA 66 rfl dZ rfl (λ v66 w3 e3 h66=>?_);obtain ⟨u,hu,hu1,hu2,huo⟩:=h66;refine dwA rfl w5A rfl (hs.own.ext e3) rfl (HasC.ownV huo) (λ c hc=>by rw [List.mem_singleton] at hc;subst hc;exact hu2) (by unfold maxLen;omega) oZ (λ sv' w4 w5 e4 hos hf hl=>⟨_,λ t u _ hu=>bsA t u hu,a7A ?_⟩);have x4:=e3.trans e4;have hR:∀ q,sv.ownBlock=some q→∃ cur,w4.heap[q]?=some (.cells cur tPs (0,0)):=λ q hq=>azA (hs.own.ext x4) hq
  have hb5:=hf.at (x4.block hb1) (λ hq=>Own.apart hs.own hb1 dZ hq);obtain ⟨ck1,ck2⟩:=ddA hos;have hr5:RowsV w5 w.heap.size v6 vs n (λ i=>g4A ids i ids.length):=(hr.ext x4).fr hf (λ q hq=>by obtain ⟨cur,hc⟩:=hR q hq;exact ⟨cur,_,hc,by decide,by decide⟩);have hRs:∀ {p:Nat→Bool} {vv:Value},RSet TT TT w4 vv p→RSet TT TT w5 vv p:=λ hh=>hh.off hf (λ q hq=>by obtain ⟨cur,hc⟩:=hR q hq;exact ⟨cur,_,hc,by decide,by decide,by decide,by decide,by decide⟩)
  have hs5:∀ i,i<k+1→RSet TT TT w5 ((ptrs++[u]).getD i undef) (idP ids i):=λ i hi=>by
   rw [gdA hs.own.lenV]
   by_cases e:i<k
   ·rw [if_pos e];exact hRs ((hs.at_ i e).ext x4)
   ·obtain rfl:i=k:=oZ
    rw [if_neg e,if_pos rfl];exact hRs (RSet.ext hu e4)
  have hsv5:LA.Own w.heap.size tPs 1 w5 sv' (k+1) (ptrs++[u]):=Own.rebase hos (hl.ge (λ q hq=>(Own.lt hs.own q hq).1) (Nat.le_trans he.size x4.size));have x5:Ext w w5:=Fr.ext (he.trans x4) hf (λ q hq=>(Own.lt hs.own q hq).1)
  repeat' (first|(refine yL ?_;first|refine yB ?_|refine a9A rfl rfl ?_|refine a1A (a':=⟨b,0,none⟩) rfl rfl (λ _=>rfl) ?_|refine yO ?_|(refine yC ?_ ?_<;>intro hc)|(refine yN hK ?_;clear hK K))|refine wG ?_|(refine yR ?_;intro K hK)|refine wPh ?_|fail)
  refine e4A (news:=[sv']) rfl rfl rfl hb5 ck1 (λ _=>rfl) nZ (λ c hc=>by rw [List.mem_singleton] at hc;subst hc;exact ck2) (λ w6 e6=>⟨_,λ t u hu=>bsA t u hu,amA ?_⟩);rw [show (#[sv].toList.take 0++[sv']++#[sv].toList.drop (0+[sv'].length)).toArray=#[sv'] from rfl];have hb6:=e6.block hb5;have hfr:Fr (λ q=>q=b) w6 (w6.setRow b #[sv']):=Fr.setRow (R:=λ q=>q=b) (Fr.of (Ext.refl _)) rfl _;have hRb:∀ q,q=b→∃ cur e,w6.heap[q]?=some (.cells cur e (0,0))∧e=tIv:=λ q hq=>by subst hq;exact ⟨_,_,hb6,rfl⟩
  have hb7:(w6.setRow b #[sv']).heap[b]?=some (.cells #[sv'] tIv (0,0)):=setRow_heap w6 b _ _ _ _ hb6;have hr7:=(hr5.ext e6).fr hfr (λ q hq=>by obtain ⟨cur,e,h1,rfl⟩:=hRb q hq;exact ⟨cur,_,h1,by decide,by decide⟩);have hs7:Sets (w6.setRow b #[sv']) w.heap.size sv' (ptrs++[u]) (k+1) (λ i=>idP ids i) :=
   ⟨Own.setRow (hsv5.ext e6) _ (Own.apart (hsv5.ext e6) hb6 dZ),λ i hi=>((hs5 i hi).ext e6).off hfr (λ q hq=>by obtain ⟨cur,e,h1,rfl⟩:=hRb q hq;exact ⟨cur,_,h1,by decide,by decide,by decide,by decide,by decide⟩)⟩
  have x7:=(x5.trans e6).setRow hbw #[sv'];obtain ⟨w7,hw7⟩:∃ w7,w7=w6.setRow b #[sv']:=⟨_,rfl⟩;rw [← hw7] at hb7 hr7 hs7 x7 ⊢
  repeat' (first|(refine yL ?_;first|refine yB ?_|refine yO ?_|(refine yC ?_ ?_<;>intro hc)|(refine yN hK ?_;clear hK K))|refine wG ?_|(refine yR ?_;intro K hK)|refine wPh ?_|fail)
  exact a5A (k+1,sv',ptrs++[u]) (λ w8 e8=>⟨x7.trans e8,hk,hr7.ext e8,e8.block hb7,hs7.ext e8⟩) eZ sZ
 ·obtain rfl:k=n:=oZ
  repeat' (first|(refine yL ?_;first|refine a0A rfl ?_|refine yO ?_|(refine yC ?_ ?_<;>intro hc)|(refine yN hK ?_;clear hK K))|refine wG ?_|(refine yR ?_;intro K hK)|fail)
  refine dsA rfl (λ x y w5 e5 hx hy=>⟨_,rfl,he.trans e5,x,y,rfl,?_,hy⟩);obtain rfl:x=_:=hx;have h8:=hs.ext e5;exact ⟨b,sv,ptrs,rfl,e5.block hb1,⟨Own.base h8.own (Nat.zero_le _),h8.at_⟩⟩
def NIX (t n:Nat) (ps:Nat→Nat→Bool) (w:World) (v:Value):Prop:=(v=.pointer none∧n=0)∨IX t n ps w v
theorem NIX.ext {t n:Nat} {ps:Nat→Nat→Bool} {w w':World} {v:Value} (h:NIX t n ps w v) (e:Ext w w'):NIX t n ps w' v:=h.imp id (λ h=>h.ext e)
theorem mdA {w:World} {v:Value} {n:Nat} {ps:Nat→Nat→Bool} (h:NIX tIv n ps w v):Fc Tryz.prog 29 #[v] w (Ret w (.val (.int .i64 n))):=by
 rcases h with ⟨rfl,rfl⟩|⟨b,sv,ptrs,rfl,hb,hs⟩
 ·refine Fc.of (args:=[_]) Tryz.func29 rfl rfl Tryz.ntmps29 nZ ?_
  repeat' (first|(refine yL ?_;first|refine a0A rfl ?_|(refine oD 4 ?_;refine bqA (c:=.bool true) rfl rfl rfl (λ _=>rfl) ?_)|refine yO ?_|(refine yC ?_ ?_<;>intro hc)|(refine yN hK ?_;clear hK K))|refine wG ?_|(refine yR ?_;intro K hK)|fail)
  exact afA rfl rfl (Ext.refl _) rfl
 ·refine Fc.of (args:=[_]) Tryz.func29 rfl rfl Tryz.ntmps29 nZ ?_
  repeat' (first|(refine yL ?_;first|refine a0A rfl ?_|(refine oD 4 ?_;refine bqA (c:=.bool false) rfl rfl rfl (λ _=>rfl) ?_)|refine a9A rfl rfl ?_|refine a1A (a':=⟨b,0,none⟩) rfl rfl (λ _=>rfl) ?_|(refine oD 8 ?_;refine a6A (c:=sv) rfl (λ _=>rfl) rfl hb rfl ?_)|(refine cnA ?_;refine akA rfl _ rfl rfl (HasC.ownV hs.own) ?_)|refine yO ?_|(refine yC ?_ ?_<;>intro hc)|(refine yN hK ?_;clear hK K))|refine wG ?_|(refine yR ?_;intro K hK)|fail)
  exact afA rfl rfl (Ext.refl _) rfl
theorem iby_0 {w:World} {v:Value} {ps:Nat→Nat→Bool} (h:NIX tIv 0 ps w v):Fc Tryz.prog 22 #[v] w (Ret w (.val nilS)):=by
 refine Fc.of (args:=[_]) Tryz.func22 rfl rfl Tryz.ntmps22 nZ ?_
 repeat' (first|(refine yL ?_;first|refine a0A rfl ?_|refine yO ?_|(refine yC ?_ ?_<;>intro hc)|(refine yV ?_;first|(refine oC 29 ?_;refine a3A (f:=29) rfl rfl rfl  (.val (.int .i64 (0:Nat))) (by intro u1 w e hu1;(try obtain rfl:u1=_:=hu1);exact mdA (h.ext e)) ?_))|(refine yN hK ?_;clear hK K))|refine wG ?_|(refine yR ?_;intro K hK)|fail)
 refine brA (ι:=Unit) (λ _=>[(3,.val nilS),(6,.val (.int .i64 (0:Nat))),(7,.val (.int .i64 0))]) (λ _=>True) (λ _=>0) () trivial sZ ?_
 intro _ _
 repeat' (first|(refine yL ?_;first|refine a0A rfl ?_|refine yO ?_|(refine yC ?_ ?_<;>intro hc)|(refine yN hK ?_;clear hK K))|refine wG ?_|(refine yR ?_;intro K hK)|fail)
 exact afA rfl rfl (Ext.refl _) rfl
theorem hsA {w:World} {v:Value} {n:Nat} {ps:Nat→Nat→Bool} (h:NIX tIv n ps w v) (hn:n≤16777216) {B:Nat→Prop} (hB:Fsh B w) (id:Int):Fc Tryz.prog 32 #[v,.int .i64 id] w (Ret w (.pred (rsP B TT (rowP n ps id)))):=by
 have hB':∀ w',Ext w w'→Fsh B w':=λ w' e=>hB.ext e
 by_cases hid:0≤id∧id<(n:Int)
 ·have hr:rowP n ps id=ps id.toNat:=by unfold rowP;rw [if_pos hid]
  rw [hr];obtain ⟨j,rfl⟩:=Int.eq_ofNat_of_zero_le hid.1;rw [Int.toNat_natCast];have hj:j<n:=by have:=hid.2;omega
  have hh:=h
  rcases hh with ⟨rfl,rfl⟩|⟨b,sv,ptrs,rfl,hb,hs⟩
  ·omega
  have hp:=hs.at_ j hj;have hcp:∀ w',Ext w w'→_:=λ w' e=>d5B (.inr (hp.ext e)) (B':=B) (A':=TT) (hB' w' e) (λ _ _ _=>trivial)
  refine Fc.of (args:=[_,_]) Tryz.func32 rfl rfl Tryz.ntmps32 nZ ?_
  repeat' (first|(refine yL ?_;first|refine a0A rfl ?_|refine a9A rfl rfl ?_|refine a1A (a':=⟨b,0,none⟩) rfl rfl (λ _=>rfl) ?_|(refine oD 17 ?_;refine a6A (c:=sv) rfl (λ _=>rfl) rfl hb rfl ?_)|(refine oD 19 ?_;refine czA rfl _ rfl (λ _=>rfl) rfl (HasC.ownV hs.own) rfl j rfl hj hs.own.lenV ?_)|refine yO ?_|(refine yC ?_ ?_<;>intro hc)|(refine yV ?_;first|(refine oC 29 ?_;refine a3A (f:=29) rfl rfl rfl  (.val (.int .i64 n)) (by intro u1 w e hu1;(try obtain rfl:u1=_:=hu1);exact mdA (h.ext e)) ?_)|(refine oC 74 ?_;refine a3A (f:=74) rfl rfl rfl  (.pred (rsP B TT (ps j))) (by intro u1 w e hu1;(try obtain rfl:u1=_:=hu1);exact hcp _ e) ?_))|(refine yN hK ?_;clear hK K))|refine wG ?_|(refine yR ?_;intro K hK)|fail)
  all_goals exact aiA rfl rfl (Ext.refl _) (λ _ _ _ hv=>hv)
 ·have hr:rowP n ps id=λ _=>false:=by unfold rowP;rw [if_neg hid]
  rw [hr];refine Fc.of (args:=[_,_]) Tryz.func32 rfl rfl Tryz.ntmps32 nZ ?_
  by_cases c1:id<0
  ·skip
   repeat' (first|(refine yL ?_;first|refine a0A rfl ?_|refine yO ?_|(refine yC ?_ ?_<;>intro hc)|(refine yV ?_;first|(refine oC 40 ?_;refine dqA (f:=40) rfl rfl  (.pred (rsP B TT (λ _=>false))) (by intro w e;exact new_c _ (hB' _ e)) ?_))|(refine yN hK ?_;clear hK K))|refine wG ?_|(refine yR ?_;intro K hK)|fail)
   all_goals exact aiA rfl rfl (Ext.refl _) (λ _ _ _ hv=>hv)
  ·skip
   repeat' (first|(refine yL ?_;first|refine a0A rfl ?_|refine yO ?_|(refine yC ?_ ?_<;>intro hc)|(refine yV ?_;first|(refine oC 29 ?_;refine a3A (f:=29) rfl rfl rfl  (.val (.int .i64 n)) (by intro u1 w e hu1;(try obtain rfl:u1=_:=hu1);exact mdA (h.ext e)) ?_)|(refine oC 40 ?_;refine dqA (f:=40) rfl rfl  (.pred (rsP B TT (λ _=>false))) (by intro w e;exact new_c _ (hB' _ e)) ?_))|(refine yN hK ?_;clear hK K))|refine wG ?_|(refine yR ?_;intro K hK)|fail)
   all_goals exact aiA rfl rfl (Ext.refl _) (λ _ _ _ hv=>hv)
theorem b2B {w:World} {v u:Value} {n:Nat} {ps:Nat→Nat→Bool} {ys:List Int} (h:NIX tIv n ps w v) (hn:n≤16777216) (hy:SlI .i64 w u ys) (hT:Tab w):Fc Tryz.prog 35 #[v,u] w (Ret w (.pred (rsP TT TT (amP n ps ys ys.length)))):=by
 have hyl:=hy.len;refine Fc.of (args:=[_,_]) Tryz.func35 rfl rfl Tryz.ntmps35 nZ ?_
 repeat' (first|(refine yL ?_;first|refine a0A rfl ?_|refine yO ?_|(refine yC ?_ ?_<;>intro hc)|(refine yV ?_;first|(refine oC 40 ?_;refine dqA (f:=40) rfl rfl  (.pred (rsP TT TT (λ _=>false))) (by intro w e;exact new_c _ tt) ?_))|(refine yN hK ?_;clear hK K))|refine wG ?_|(refine yR ?_;intro K hK)|fail)
 refine c2A 5 rfl (λ v5 w5 e5 h5=>?_)
 refine abA (ι:=Nat × Value) (λ j=>[(0,.val v),(1,.val u),(5,.val j.2),(9,.val u),(10,.val (.int .i64 ys.length)),(11,.val (.int .i64 j.1))])
  (λ j w'=>Ext w w'∧j.1≤ys.length∧RSet TT TT w' j.2 (amP n ps ys j.1)) (λ j=>ys.length-j.1)
  (λ w2 e2=>⟨(0,v5),⟨e5.trans e2,Nat.zero_le _,RSet.ext h5 e2⟩,sZ⟩) ?_
 rintro ⟨k,s⟩ w1 ⟨he,hk0,hs⟩;dsimp only at hk0 hs ⊢
 by_cases hk:k<ys.length
 ·by_cases hid:0≤ys.getD k 0∧ys.getD k 0<(n:Int)
  ·have ham:amP n ps ys (k+1)=two (λ x y=>x || y) (amP n ps ys k) (ps (ys.getD k 0).toNat):=by simp only [amP];rw [if_pos hid]
   obtain ⟨j,hj⟩:=Int.eq_ofNat_of_zero_le hid.1;have hj':ys.getD k 0=((j:Nat):Int):=hj;have hjn:j<n:=by have:=hid.2;omega
   rw [hj',Int.toNat_natCast] at ham
   rcases h with ⟨rfl,rfl⟩|hx
   ·omega
   have hN:∀ w',Ext w w'→NIX tIv n ps w' v:=λ w' e=>.inr (hx.ext e)
   obtain ⟨b,sv,ptrs,rfl,hb,hss⟩:=hx;have hb1:=he.block hb;have hs1:=hss.ext he;have hor:∀ w',Ext w1 w'→Fc Tryz.prog 71 #[s,ptrs.getD j undef] w' (Ret w' (.pred (rsP TT TT (amP n ps ys (k+1))))):=λ w' e=>by
    rw [ham];exact or_s (A:=TT) (B:=TT) (B1:=TT) (B2:=TT) (.inr (hs.ext e)) (.inr ((hs1.at_ j hjn).ext e)) (hT.ext (he.trans e)) tt tt
   repeat' (first|(refine yL ?_;first|refine a0A rfl ?_|(refine oD 13 ?_;refine acA rfl _ rfl (λ _=>rfl) rfl (HasI.val (hy.ext he)) rfl hk ?_;rw [hj'])|refine a9A rfl rfl ?_|refine a1A (a':=⟨b,0,none⟩) rfl rfl (λ _=>rfl) ?_|(refine oD 27 ?_;refine a6A (c:=sv) rfl (λ _=>rfl) rfl hb1 rfl ?_)|(refine oD 29 ?_;refine czA rfl _ rfl (λ _=>rfl) rfl (HasC.ownV hs1.own) rfl j rfl hjn hs1.own.lenV ?_)|refine yO ?_|(refine yC ?_ ?_<;>intro hc)|(refine yV ?_;first|(refine oC 29 ?_;refine a3A (f:=29) rfl rfl rfl  (.val (.int .i64 n)) (by intro u1 w e hu1;(try obtain rfl:u1=_:=hu1);exact mdA (hN _ (he.trans e))) ?_)|(refine oC 71 ?_;refine a4A (f:=71) rfl rfl rfl rfl  (.pred (rsP TT TT (amP n ps ys (k+1)))) (by intro u1 u2 w e hu1 hu2;(try obtain rfl:u1=_:=hu1);(try obtain rfl:u2=_:=hu2);exact hor _ e) ?_))|(refine yN hK ?_;clear hK K))|refine wG ?_|(refine yR ?_;intro K hK)|fail)
   refine fbA 5 rfl (λ v9 w9 e9 h9=>?_);exact a5A (k+1,v9) (λ w8 e8=>⟨(he.trans e9).trans e8,hk,RSet.ext h9 e8⟩) eZ sZ
  ·have ham:amP n ps ys (k+1)=amP n ps ys k:=by simp only [amP];rw [if_neg hid]
   by_cases c1:0≤ys.getD k 0
   ·skip
    repeat' (first|(refine yL ?_;first|refine a0A rfl ?_|(refine oD 13 ?_;refine acA rfl _ rfl (λ _=>rfl) rfl (HasI.val (hy.ext he)) rfl hk ?_)|refine yO ?_|(refine yC ?_ ?_<;>intro hc)|(refine yV ?_;first|(refine oC 29 ?_;refine a3A (f:=29) rfl rfl rfl  (.val (.int .i64 n)) (by intro u1 w e hu1;(try obtain rfl:u1=_:=hu1);exact mdA (h.ext (he.trans e))) ?_))|(refine yN hK ?_;clear hK K))|refine wG ?_|(refine yR ?_;intro K hK)|fail)
    exact a5A (k+1,s) (λ w8 e8=>⟨he.trans e8,hk,by rw [ham];exact hs.ext e8⟩) eZ sZ
   ·skip
    repeat' (first|(refine yL ?_;first|refine a0A rfl ?_|(refine oD 13 ?_;refine acA rfl _ rfl (λ _=>rfl) rfl (HasI.val (hy.ext he)) rfl hk ?_)|refine yO ?_|(refine yC ?_ ?_<;>intro hc)|(refine yN hK ?_;clear hK K))|refine wG ?_|(refine yR ?_;intro K hK)|fail)
    exact a5A (k+1,s) (λ w8 e8=>⟨he.trans e8,hk,by rw [ham];exact hs.ext e8⟩) eZ sZ
 ·obtain rfl:k=ys.length:=oZ
  repeat' (first|(refine yL ?_;first|refine a0A rfl ?_|refine yO ?_|(refine yC ?_ ?_<;>intro hc)|(refine yN hK ?_;clear hK K))|refine wG ?_|(refine yR ?_;intro K hK)|fail)
  exact aiA rfl rfl he (λ x w5 e5 hx=>by obtain rfl:x=_:=hx;exact hs.ext e5)
abbrev tI6:Nat:=3
theorem w6A:El Tryz.prog 46 tI6 (.int .i64 0) 1 8:=⟨rfl,rfl,rfl,by decide⟩
theorem y7A {w:World} {v:Value} {ids:List Int} {many:Int} (h:SlI .i64 w v ids) (hT:Tab w) (hm:neA ids many=true):Fc Tryz.prog 21 #[v,.int .i64 many] w (Ret w (.tup2 (.pred (ixP tIv many.toNat λ i=>idP ids i)) (.val (.int .i64 0)))):=by
 have:=clB (many:=many) h hT;rw [hm] at this;exact this
theorem y8A {w:World} {v:Value} {ids:List Int} {many:Int} (h:SlI .i64 w v ids) (hT:Tab w) (hm:neA ids many=false):Fc Tryz.prog 21 #[v,.int .i64 many] w (Ret w (.tup2 (.val (.pointer none)) (.val (.int .i64 2)))):=by
 have:=clB (many:=many) h hT;rw [hm] at this;exact this
theorem nuA {p:Nat→Bool} {m c:Nat} (h:∀ x,m≤x→p x=false) (hm:m≤300) (hc:cnt p m=c):cnt p TOP=c:=by
 rw [gmA (p:=p) (a:=m) TOP (by rw [epA];omega) (λ x hx _=>h x hx)];exact hc
theorem gyA {p:Nat→Bool} {x:Nat} (h:¬ p x=true):p x=false:=by simpa using h
theorem jdA {ids:List Int} {id:Int} {x:Nat} (h:ids.length≤x):idP ids id x=false:=gyA λ h'=>by have:=(idP_iff.1 h').1;omega
theorem m8A (w:World) (hT:Tab w):Fc Tryz.prog 20 #[] w (Ret w (.val (.bool true))):=by
 have c0:cnt (rowP 3 (λ i=>idP [1,0,1] i) 0) TOP=1:=by rw [show (0:Int)=((0:Nat):Int) from rfl,krA dZ];exact nuA (m:=3) (λ x hx=>jdA hx) dZ dZ
 have c1:cnt (rowP 3 (λ i=>idP [1,0,1] i) 1) TOP=2:=by rw [show (1:Int)=((1:Nat):Int) from rfl,krA dZ];exact nuA (m:=3) (λ x hx=>jdA hx) dZ dZ
 have c2:cnt (rowP 3 (λ i=>idP [1,0,1] i) 2) TOP=0:=by rw [show (2:Int)=((2:Nat):Int) from rfl,krA dZ];exact nuA (m:=3) (λ x hx=>jdA hx) dZ dZ
 have c3:rowP 3 (λ i=>idP [1,0,1] i) 1 2=true:=by rw [show (1:Int)=((1:Nat):Int) from rfl,krA dZ];decide
 have hl0:∀ w' u,RSet TT TT w' u (rowP 3 (λ i=>idP [1,0,1] i) 0)→_:=λ w' u hu=>qbA (B:=TT) (A:=TT) (.inr hu)
 have hl1:∀ w' u,RSet TT TT w' u (rowP 3 (λ i=>idP [1,0,1] i) 1)→_:=λ w' u hu=>qbA (B:=TT) (A:=TT) (.inr hu)
 have hl2:∀ w' u,RSet TT TT w' u (rowP 3 (λ i=>idP [1,0,1] i) 2)→_:=λ w' u hu=>qbA (B:=TT) (A:=TT) (.inr hu)
 have hh:∀ w' u,RSet TT TT w' u (rowP 3 (λ i=>idP [1,0,1] i) 1)→_:=λ w' u hu=>has_s (B:=TT) (A:=TT) (x:=2) (.inr hu) dZ
 rw [c0] at hl0;rw [c1] at hl1;rw [c2] at hl2;rw [c3] at hh;refine Fc.of (args:=[]) Tryz.func20 rfl rfl Tryz.ntmps20 nZ ?_
 repeat' (first|(refine yL ?_;first|refine a0A rfl ?_|(refine oD 6 ?_;refine wzA rfl w6A rfl rfl rfl rfl rfl rfl ?_)|(refine oD 11 ?_;refine e6A rfl w6A rfl rfl ?_)|refine yO ?_|(refine yC ?_ ?_<;>intro hc)|(refine yV ?_;first|(refine oD 7 ?_;refine oC 21 ?_;refine a4A (f:=21) rfl rfl rfl rfl  (.tup2 (.pred (ixP tIv 3 λ i=>idP [1,0,1] i)) (.val (.int .i64 0))) (by intro u1 u2 w e hu1 hu2;(try obtain rfl:u1=_:=hu1);(try obtain rfl:u2=_:=hu2);exact y7A (ids:=[1,0,1]) (many:=3) (Own.slC hu1) (hT.ext e) dZ) ?_)|(refine oD 12 ?_;refine oC 21 ?_;refine a4A (f:=21) rfl rfl rfl rfl  (.tup2 (.val (.pointer none)) (.val (.int .i64 2))) (by intro u1 u2 w e hu1 hu2;(try obtain rfl:u1=_:=hu1);(try obtain rfl:u2=_:=hu2);exact y8A (ids:=[3]) (many:=3) (Own.slC hu1) (hT.ext e) dZ) ?_)|(refine oC 29 ?_;refine a3A (f:=29) rfl rfl rfl  (.val (.int .i64 (3:Nat))) (by intro u1 w e hu1;(try obtain rfl:u1=_:=hu1);exact mdA (.inr hu1)) ?_)|(refine oD 28 ?_;refine oC 32 ?_;refine a4A (f:=32) rfl rfl rfl rfl  (.pred (rsP TT TT (rowP 3 (λ i=>idP [1,0,1] i) 0))) (by intro u1 u2 w e hu1 hu2;(try obtain rfl:u1=_:=hu1);(try obtain rfl:u2=_:=hu2);exact hsA (.inr hu1) dZ tt 0) ?_)|(refine oD 34 ?_;refine oC 32 ?_;refine a4A (f:=32) rfl rfl rfl rfl  (.pred (rsP TT TT (rowP 3 (λ i=>idP [1,0,1] i) 1))) (by intro u1 u2 w e hu1 hu2;(try obtain rfl:u1=_:=hu1);(try obtain rfl:u2=_:=hu2);exact hsA (.inr hu1) dZ tt 1) ?_)|(refine oD 40 ?_;refine oC 32 ?_;refine a4A (f:=32) rfl rfl rfl rfl  (.pred (rsP TT TT (rowP 3 (λ i=>idP [1,0,1] i) 2))) (by intro u1 u2 w e hu1 hu2;(try obtain rfl:u1=_:=hu1);(try obtain rfl:u2=_:=hu2);exact hsA (.inr hu1) dZ tt 2) ?_)|(refine oD 46 ?_;refine oC 32 ?_;refine a4A (f:=32) rfl rfl rfl rfl  (.pred (rsP TT TT (rowP 3 (λ i=>idP [1,0,1] i) 1))) (by intro u1 u2 w e hu1 hu2;(try obtain rfl:u1=_:=hu1);(try obtain rfl:u2=_:=hu2);exact hsA (.inr hu1) dZ tt 1) ?_)|(refine oD 29 ?_;refine oC 43 ?_;refine a3A (f:=43) rfl rfl rfl  (.val (.int .i64 (1:Nat))) (by intro u1 w e hu1;(try obtain rfl:u1=_:=hu1);exact hl0 _ _ hu1) ?_)|(refine oD 35 ?_;refine oC 43 ?_;refine a3A (f:=43) rfl rfl rfl  (.val (.int .i64 (2:Nat))) (by intro u1 w e hu1;(try obtain rfl:u1=_:=hu1);exact hl1 _ _ hu1) ?_)|(refine oD 41 ?_;refine oC 43 ?_;refine a3A (f:=43) rfl rfl rfl  (.val (.int .i64 (0:Nat))) (by intro u1 w e hu1;(try obtain rfl:u1=_:=hu1);exact hl2 _ _ hu1) ?_)|(refine oC 70 ?_;refine a4A (f:=70) rfl rfl rfl rfl  (.val (.bool true)) (by intro u1 u2 w e hu1 hu2;(try obtain rfl:u1=_:=hu1);(try obtain rfl:u2=_:=hu2);exact hh _ _ hu1) ?_))|(refine yN hK ?_;clear hK K))|refine wG ?_|(refine yR ?_;intro K hK)|fail)
 all_goals exact afA rfl rfl (Ext.refl _) rfl
end Go.Proofs.YtbokphkfojijoaaGreatDoor
end
