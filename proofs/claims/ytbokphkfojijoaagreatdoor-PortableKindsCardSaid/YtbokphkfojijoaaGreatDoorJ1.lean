import Derived.WalkKit
import Derived.KernelRfl
set_option linter.unusedSimpArgs false
set_option linter.unusedVariables false
set_option maxRecDepth 3000
set_option maxHeartbeats 16000000
section
namespace Go.LA
open Go.RowKit
def Ext (w w':World):Prop:=Below w.heap.size w w'
theorem Ext.refl (w:World):Ext w w:=Below.refl _ _
theorem Ext.trans {a b c:World} (h:Ext a b) (k:Ext b c):Ext a c:=Below.trans h (k.mono h.size)
theorem Ext.drawn {w:World}:Ext w { w with drawn:=w.drawn+1 }:=⟨rfl,rfl,rfl,Nat.le_refl _,λ _ _=>rfl⟩
theorem Ext.alloc (w:World) (o:Obj):Ext w (w.alloc o):=(Below.refl _ _).alloc (Nat.le_refl _) o
theorem Ext.cell {w w':World} (h:Ext w w') {p:Addr} {v:Value} (hc:w.cell? p=some v):w'.cell? p=some v :=
 (Below.cell h (World.block_lt_of_cell? w p hc)).trans hc
theorem Ext.block {w w':World} (h:Ext w w') {b:Nat} {o:Obj} (hb:w.heap[b]?=some o):w'.heap[b]?=some o :=
 (Below.block h b (Array.getElem?_eq_some_iff.1 hb).1).trans hb
structure AV where
 p:Value→World→Prop
 mono:∀ v w w',Ext w w'→p v w→p v w'
inductive AD where
 | any
 | val (v:Value)
 | pred (φ:AV)
 | tup2 (a b:AD)
 | tup3 (a b c:AD)
def AD.ok:AD→Value→World→Prop
 | .any,_,_=>True
 | .val c,v,_=>v=c
 | .pred φ,v,w=>φ.p v w
 | .tup2 a b,v,w=>∃ x y,v=.tuple #[x,y]∧a.ok x w∧b.ok y w
 | .tup3 a b c,v,w=>∃ x y z,v=.tuple #[x,y,z]∧a.ok x w∧b.ok y w∧c.ok z w
theorem AD.mono:∀ (r:AD) {v:Value} {w w':World},Ext w w'→r.ok v w→r.ok v w'
 | .any,_,_,_,_,_=>trivial
 | .val _,_,_,_,_,h=>h
 | .pred φ,_,_,_,e,h=>φ.mono _ _ _ e h
 | .tup2 a b,_,_,_,e,⟨x,y,h,h1,h2⟩=>⟨x,y,h,a.mono e h1,b.mono e h2⟩
 | .tup3 a b c,_,_,_,e,⟨x,y,z,h,h1,h2,h3⟩=>⟨x,y,z,h,a.mono e h1,b.mono e h2,c.mono e h3⟩
abbrev Env:=List (Nat × AD)
def lkE:Env→Nat→AD
 | [],_=>.any
 | (d,r)::E,t=>bif t == d then r else lkE E t
def opE (E:Env):Operand→AD
 | .tmp t=>lkE E t
 | .const v=>.val v
 | .global g=>.val (.pointer (some ⟨g,0,none⟩))
 | .func f=>.val (.func (.func f) #[] #[])
def puE:Option Tmp→AD→Env→Env
 | none,_,E=>E
 | some d,r,E=>(d,r)::E
structure Nn where
 n:Nat
 ds:List Deferred
structure St (N:Nn) (wb:World) (E:Env) (a:Act) (w:World):Prop where
 sz:a.tmps.size=N.n
 df:a.defers=N.ds
 ext:Ext wb w
 sat:∀ t,(lkE E t).ok (a.tmps.getD t undef) w
theorem jxA (a:Act) (d t:Nat) (v:Value) (hd:d<a.tmps.size):(a.put (some d) v).tmps.getD t undef=if t=d then v else a.tmps.getD t undef:=by
 simp only [Act.put,Array.getD_eq_getD_getElem?]
 by_cases e:t=d
 ·subst e;simp [hd]
 ·rw [Array.getElem?_setIfInBounds_ne (by omega)];simp [e]
theorem ceA {d t:Nat} {r:AD} {E:Env}:lkE ((d,r)::E) t=if t=d then r else lkE E t:=by
 by_cases h:t=d
 ·simp [lkE,h]
 ·have:(t == d)=false:=by simpa using h
  simp [lkE,h,this]
theorem St.push {N:Nn} {wb:World} {E:Env} {a:Act} {w w':World} (h:St N wb E a w) (he:Ext w w') {dst:Option Tmp} {r:AD} {v:Value} (hd:∀ d,dst=some d→d<N.n) (hv:dst=none∨r.ok v w') :
 St N wb (puE dst r E) (a.put dst v) w':=by
 cases dst with
 | none=>exact ⟨h.sz,h.df,h.ext.trans he,λ t=>(lkE E t).mono he (h.sat t)⟩
 | some d =>
   have hv:r.ok v w':=by rcases hv with h|h;cases h;exact h
   refine ⟨by simp [Act.put,h.sz],by simp [Act.put,h.df],h.ext.trans he,λ t=>?_⟩;rw [jxA a d t v (by rw [h.sz];exact hd d rfl)];simp only [puE,ceA]
   by_cases e:t=d
   ·simp [e,hv]
   ·simp only [e,if_false];exact (lkE E t).mono he (h.sat t)
theorem St.opd {N:Nn} {wb:World} {E:Env} {a:Act} {w:World} (h:St N wb E a w) (x:Operand):(opE E x).ok (a.eval x) w:=by
 cases x with
 | tmp t=>exact h.sat t
 | const v=>rfl
 | global g=>rfl
 | func f=>rfl
def Yld (P:Program) (r:AD) (w:World):Result Next→Prop
 | .ok (.value v) w'=>Ext w w'∧r.ok v w'
 | .ok (.enter f args) w'=>w'=w∧Calls P f args w (λ e w''=>∃ v,e=.returned v∧Ext w w''∧r.ok v w'')
 | _=>False
def OB (P:Program) (wb:World) (E:Env) (o:Oper) (r:AD):Prop :=
 ∀ (a:Act) (w:World),Ext wb w→(∀ x ∈ o.op.operands,(opE E x).ok (a.eval x) w)→Yld P r w ((execOp a.eval o).run P w)
def mkA:List Oper→Nat→Option Nat
 | [],_=>none
 | o::_,0=>o.dst
 | _::r,n+1=>mkA r n
theorem kiA:∀ (l:List Oper) (j:Nat),mkA l j=(l[j]?).bind (·.dst)
 | [],_=>rfl
 | _::_,0=>rfl
 | _::r,n+1=>by simp [mkA,kiA r n]
def b8A (l:List Oper) (E:Env):Option (Nat × Bool)→Option Bool
 | none=>some true
 | some (j,b)=>match mkA l j with
   | none=>none
   | some g=>match lkE E g with
     | .val (.bool true)=>some b
     | .val (.bool false)=>some (!b)
     | .val (.tuple _)=>some false
     | _=>none
def Stp (P:Program) (l:List Oper) (wb:World) (E:Env) (o:Oper) (r:AD):Prop :=
 (b8A l E o.guard=some true∧OB P wb E o r)∨(b8A l E o.guard=some false∧r=.val undef)
def LA (P:Program) (l:List Oper) (wb:World) (K:List Oper→Env→Prop):List Oper→Env→Prop
 | [],E=>K [] E
 | o::rest,E=>(∃ r,Stp P l wb E o r∧LA P l wb K rest (puE o.dst r E))∨K (o::rest) E
def env (l:List Oper) (E0:Env) (Φ:Nat→AD):Nat→Env
 | 0=>E0
 | i+1=>puE ((l[i]?).bind (·.dst)) (Φ i) (env l E0 Φ i)
theorem fpA (l:List Oper) (E0:Env) (Φ Ψ:Nat→AD):∀ i,(∀ j,j<i→Φ j=Ψ j)→env l E0 Φ i=env l E0 Ψ i
 | 0,_=>rfl
 | i+1,h=>by simp only [env];rw [h i (by omega),fpA l E0 Φ Ψ i (λ j hj=>h j (by omega))]
theorem y2A {P:Program} {wb:World} {K:List Oper→Env→Prop} (l:List Oper) (E0:Env) :
 ∀ (m k:Nat) (Φ0:Nat→AD),k+m=l.length→LA P l wb K (l.drop k) (env l E0 Φ0 k) →
  ∃ (Φ:Nat→AD) (n:Nat),k≤n∧n≤l.length∧(∀ i,i<k→Φ i=Φ0 i)∧(∀ i o,k≤i→i<n→l[i]?=some o→Stp P l wb (env l E0 Φ i) o (Φ i))∧K (l.drop n) (env l E0 Φ n):=by
 intro m
 induction m with
 | zero =>
   intro k Φ0 hk h;obtain rfl:k=l.length:=by omega
   rw [List.drop_length] at h;exact ⟨Φ0,l.length,Nat.le_refl _,Nat.le_refl _,λ _ _=>rfl,λ i o h1 h2=>by omega,by rw [List.drop_length];exact h⟩
 | succ m ih =>
   intro k Φ0 hk h;have hlt:k<l.length:=by omega
   have hd:l.drop k=l[k]::l.drop (k+1):=List.drop_eq_getElem_cons hlt;rw [hd] at h
   rcases h with ⟨φ,hs,h⟩|h
   ·let Φ1:Nat→AD:=λ i=>if i=k then φ else Φ0 i
    have e1:env l E0 Φ1 k=env l E0 Φ0 k:=fpA l E0 _ _ k (λ j hj=>by simp [Φ1];omega);have e2:env l E0 Φ1 (k+1)=puE l[k].dst φ (env l E0 Φ0 k):=by
     simp only [env,e1];simp [Φ1,hlt]
    obtain ⟨Φ,n,g0,gn,g1,g2,g3⟩:=ih (k+1) Φ1 (by omega) (by rw [e2];exact h);refine ⟨Φ,n,by omega,gn,λ i hi=>by rw [g1 i (by omega)];simp [Φ1];omega,λ i o h1 h2 ho=>?_,g3⟩
    by_cases e:i=k
    ·subst e
     have e3:env l E0 Φ i=env l E0 Φ0 i:=fpA l E0 _ _ i (λ j hj=>by rw [g1 j (by omega)];simp [Φ1];omega);have e4:Φ i=φ:=by rw [g1 i (by omega)];simp [Φ1]
     have e5:o=l[i]:=by rw [List.getElem?_eq_getElem hlt] at ho;exact (Option.some.inj ho).symm
     rw [e3,e4,e5];exact hs
    ·exact g2 i o (by omega) h2 ho
   ·exact ⟨Φ0,k,Nat.le_refl _,by omega,λ _ _=>rfl,λ i o h1 h2=>by omega,by rw [hd];exact h⟩
theorem egA (l:List Oper) (E0:Env) (Φ:Nat→AD) (t:Nat):∀ i,(∀ j o,j<i→l[j]?=some o→o.dst≠some t)→lkE (env l E0 Φ i) t=lkE E0 t
 | 0,_=>rfl
 | i+1,h=>by
   have ih:=egA l E0 Φ t i (λ j o hj=>h j o (by omega));simp only [env];cases ho:l[i]? with
   | none=>simpa [puE] using ih
   | some o =>
     have hne:=h i o (by omega) ho;cases hd:o.dst with
     | none=>simpa [puE,hd] using ih
     | some d =>
       have:t≠d:=λ e=>hne (by rw [hd,e])
       simpa [puE,hd,ceA,this] using ih
theorem efA (l:List Oper) (E0:Env) (Φ:Nat→AD) (t:Nat) (j:Nat) (oj:Oper) (hj:l[j]?=some oj) (hd:oj.dst=some t):∀ i,j<i →
 (∀ k o,j<k→k<i→l[k]?=some o→o.dst≠some t)→lkE (env l E0 Φ i) t=Φ j
 | 0,h,_=>by omega
 | i+1,h,hu=>by
   simp only [env]
   by_cases e:j=i
   ·subst e;simp [hj,hd,puE,lkE]
   ·have ih:=efA l E0 Φ t j oj hj hd i (by omega) (λ k o h1 h2=>hu k o h1 (by omega))
    cases ho:l[i]? with
    | none=>simpa [puE] using ih
    | some o =>
      have hne:=hu i o (by omega) (by omega) ho;cases hd':o.dst with
      | none=>simpa [puE,hd'] using ih
      | some d =>
        have:t≠d:=λ e=>hne (by rw [hd',e])
        simpa [puE,hd',ceA,this] using ih
def eiA (acc:List Nat) (es:List Edge):Nat :=
 match es with
 | []=>0
 | e::r=>(if Region.binds .any e then 2 ^ e.on ||| acc.getD e.on 0 else 0) ||| eiA acc r
def elA:List Oper→List Nat→List Nat
 | [],acc=>acc
 | o::r,acc=>elA r (acc++[eiA acc o.after.toList])
theorem hgA (acc:List Nat) (j:Nat):∀ es:List Edge,(eiA acc es).testBit j=true→∃ e ∈ es,Region.binds .any e=true∧(e.on=j∨(acc.getD e.on 0).testBit j=true)
 | [],h=>by simp [eiA] at h
 | e::r,h=>by
   simp only [eiA,Nat.testBit_or,Bool.or_eq_true] at h
   rcases h with h|h
   ·by_cases hb:Region.binds .any e=true
    ·simp only [hb,if_true,Nat.testBit_or,Bool.or_eq_true,Nat.testBit_two_pow,decide_eq_true_eq] at h
     exact ⟨e,by simp,hb,h⟩
    ·simp [hb] at h
   ·obtain ⟨e',he,h'⟩:=hgA acc j r h
    exact ⟨e',by simp [he],h'⟩
theorem o6A:∀ (l:List Oper) (acc:List Nat),∃ t,elA l acc=acc++t
 | [],acc=>⟨[],by simp [elA]⟩
 | o::r,acc=>by
   obtain ⟨t,h⟩:=o6A r (acc++[eiA acc o.after.toList]);exact ⟨eiA acc o.after.toList::t,by simp [elA,h]⟩
theorem lnA:∀ (l:List Oper) (acc:List Nat) (i:Nat) (o:Oper),l[i]?=some o →
 ∃ acc',(∀ k,(acc'.getD k 0=(elA l acc).getD k 0∧k<acc.length+i)∨acc'.getD k 0=0)∧(elA l acc).getD (acc.length+i) 0=eiA acc' o.after.toList
 | [],acc,i,o,h=>by simp at h
 | x::r,acc,0,o,h=>by
   simp at h;subst h
   obtain ⟨t,ht⟩:=o6A r (acc++[eiA acc x.after.toList]);refine ⟨acc,λ k=>?_,by simp [elA,ht]⟩
   by_cases hk:k<acc.length
   ·left;simp [elA,ht,List.getElem?_append_left hk,hk]
   ·right;simp [List.getElem?_eq_none (by omega:acc.length≤k)]
 | x::r,acc,i+1,o,h=>by
   obtain ⟨acc',h1,h2⟩:=lnA r (acc++[eiA acc x.after.toList]) i o (by simpa using h);refine ⟨acc',λ k=>?_,?_⟩
   ·rcases h1 k with ⟨ha,hb⟩|h1
    ·left;exact ⟨ha,by simp at hb;omega⟩
    ·right;exact h1
   ·have e:(acc++[eiA acc x.after.toList]).length+i=acc.length+(i+1):=by simp;omega
    rw [e] at h2;exact h2
theorem ckA (l:List Oper) (S:Nat→Prop) (hS:∀ j o,S j→l[j]?=some o→∀ e ∈ o.after,Region.binds .any e=true→S e.on) :
 ∀ (i:Nat) (o:Oper) (j:Nat),l[i]?=some o→(∀ e ∈ o.after,Region.binds .any e=true→S e.on)→((elA l []).getD i 0).testBit j=true→S j:=by
 intro i
 induction i using Nat.strongRecOn with
 | ind i ih =>
   intro o j ho he hb;obtain ⟨acc',h1,h2⟩:=lnA l [] i o ho;simp only [List.length_nil,Nat.zero_add] at h1 h2;rw [h2] at hb;obtain ⟨e,hm,hbi,h⟩:=hgA acc' j _ hb;have hm':e ∈ o.after:=by simpa using hm
   have hSe:=he e hm' hbi
   rcases h with h|h
   ·exact h▸hSe
   ·rcases h1 e.on with ⟨h1,hlt⟩|h1
    ·rw [h1] at h
     have hlen:i<l.length:=(List.getElem?_eq_some_iff.1 ho).1;have:l[e.on]?=some (l[e.on]'(by omega)):=List.getElem?_eq_getElem (by omega);exact ih e.on hlt _ j this (hS e.on _ hSe this) h
    ·rw [h1] at h;simp at h
def yhA (ops:Array Oper) (l:List Oper) (B:List Nat) (n sz i:Nat) (o:Oper):Bool :=
 let m:=B.getD i 0
 let ls:=o.looksAt ops
 o.after.toList.all (λ e=>!Region.binds .any e || decide (e.on<i)) &&
 (match o.dst with|some d=>decide (d<sz)|none=>true) &&
 (decide (i<n) || (List.range i).all (λ j=>m.testBit j)) &&
 l.zipIdx.all (λ (oj,j)=>match oj.dst with
  | none=>true
  | some d =>
    (j == i || o.dst != some d) &&
    (!ls.contains d || (j != i && (if j<i then m.testBit j else (B.getD j 0).testBit i))))
def okR (l:List Oper) (n sz:Nat):Bool :=
 let B:=elA l []
 l.zipIdx.all λ (o,i)=>yhA l.toArray l B n sz i o
structure OkR (l:List Oper) (n sz:Nat):Prop where
 back:∀ (i:Nat) (o:Oper),l[i]?=some o→∀ e ∈ o.after,Region.binds .any e=true→e.on<i
 dst:∀ (i:Nat) (o:Oper) (d:Nat),l[i]?=some o→o.dst=some d→d<sz
 tail:∀ (i:Nat) (o:Oper),l[i]?=some o→n≤i→∀ j,j<i→((elA l []).getD i 0).testBit j=true
 uniq:∀ (i:Nat) (o:Oper) (j:Nat) (oj:Oper) (d:Nat),l[i]?=some o→l[j]?=some oj→oj.dst=some d→o.dst=some d→j=i
 look:∀ (i:Nat) (o:Oper) (j:Nat) (oj:Oper) (d:Nat),l[i]?=some o→l[j]?=some oj→oj.dst=some d→d ∈ o.looksAt l.toArray→j≠i∧(j<i→((elA l []).getD i 0).testBit j=true)∧(i<j→((elA l []).getD j 0).testBit i=true)
theorem njA {l:List Oper} {n sz:Nat} (h:okR l n sz=true):OkR l n sz:=by
 unfold okR at h;simp only [List.all_eq_true] at h;have H:∀ i o,l[i]?=some o→yhA l.toArray l (elA l []) n sz i o=true:=λ i o ho=>by
  have:=h (o,i) (by
   rw [List.mem_zipIdx_iff_getElem?];exact ho)
  exact this
 have Z:∀ i o,l[i]?=some o→∀ j oj,l[j]?=some oj→∀ d,oj.dst=some d→(j == i || o.dst != some d)=true ∧
  (!(o.looksAt l.toArray).contains d || (j != i && (if j<i then ((elA l []).getD i 0).testBit j else ((elA l []).getD j 0).testBit i)))=true:=by
  intro i o ho j oj hj d hd;have h1:=H i o ho;simp only [yhA,Bool.and_eq_true,List.all_eq_true] at h1;have h2:=h1.2 (oj,j) (by rw [List.mem_zipIdx_iff_getElem?];exact hj);simp only [hd,Bool.and_eq_true] at h2;exact h2
 refine ⟨λ i o ho e he hb=>?_,λ i o d ho hd=>?_,λ i o ho hn j hj=>?_,λ i o j oj d ho hj hd hd'=>?_,λ i o j oj d ho hj hd hl=>?_⟩
 ·have h1:=H i o ho
  simp only [yhA,Bool.and_eq_true,List.all_eq_true] at h1;have:=h1.1.1.1 e (by simpa using he)
  simpa [hb] using this
 ·have h1:=H i o ho
  simp only [yhA,Bool.and_eq_true] at h1;have:=h1.1.1.2
  simpa [hd] using this
 ·have h1:=H i o ho
  simp only [yhA,Bool.and_eq_true,Bool.or_eq_true,decide_eq_true_eq,List.all_eq_true,List.mem_range] at h1
  rcases h1.1.2 with h|h
  ·omega
  ·exact h j hj
 ·have:=(Z i o ho j oj hj d hd).1
  simpa [hd'] using this
 ·have:=(Z i o ho j oj hj d hd).2
  have hc:(o.looksAt l.toArray).contains d=true:=by simpa using hl
  simp only [hc,Bool.not_true,Bool.false_or,Bool.and_eq_true,bne_iff_ne,ne_eq] at this;refine ⟨this.1,λ hlt=>?_,λ hlt=>?_⟩
  ·have h2:=this.2;rw [if_pos hlt] at h2;exact h2
  ·have h2:=this.2;rw [if_neg (by omega)] at h2;exact h2
structure Inv (l:List Oper) (E0:Env) (Φ:Nat→AD) (N:Nn) (wb:World) (S:Nat→Prop) (a:Act) (w:World):Prop where
 sz:a.tmps.size=N.n
 df:a.defers=N.ds
 ext:Ext wb w
 cl:∀ j o,S j→l[j]?=some o→∀ e ∈ o.after,Region.binds .any e=true→S e.on
 fx:∀ (j:Nat) (o:Oper) (d:Nat),S j→l[j]?=some o→o.dst=some d→(Φ j).ok (a.tmps.getD d undef) w
 un:∀ t:Nat,(∀ (j:Nat) (o:Oper),S j→l[j]?=some o→o.dst≠some t)→(lkE E0 t).ok (a.tmps.getD t undef) w
theorem ojA (ops:Array Oper) (tmps:Array Value) (j g:Nat) (h:(ops[j]?).bind (·.dst)=some g):yielded ops tmps j=match tmps.getD g undef with|.bool b=>some b|_=>none:=by
 unfold yielded;rw [h];simp only [Option.bind_some,Array.getD_eq_getD_getElem?];cases tmps[g]? with
 | none=>simp [undef]
 | some u=>cases u <;> rfl
theorem g1A {l:List Oper} {E:Env} {o:Oper} {b:Bool} {tmps:Array Value} {w:World} (hg:b8A l E o.guard=some b)
 (h:∀ j c g,o.guard=some (j,c)→mkA l j=some g→(lkE E g).ok (tmps.getD g undef) w):Region.wanted o (yielded l.toArray tmps)=b:=by
 unfold b8A at hg;unfold Region.wanted;cases hgd:o.guard with
 | none=>rw [hgd] at hg;simpa using hg
 | some jc =>
   obtain ⟨j,c⟩:=jc;rw [hgd] at hg;simp only at hg ⊢;cases hd:mkA l j with
   | none=>rw [hd] at hg;simp at hg
   | some g =>
     rw [hd] at hg;simp only at hg;have hl:=h j c g hgd hd;have hy:=ojA l.toArray tmps j g (by rw [kiA] at hd;simpa using hd)
     split at hg
     ·rename_i hlk;rw [hlk] at hl;simp only [AD.ok] at hl;rw [hy,hl]
      simp only [Option.some.injEq] at hg;subst hg;cases c <;> rfl
     ·rename_i hlk;rw [hlk] at hl;simp only [AD.ok] at hl;rw [hy,hl]
      simp only [Option.some.injEq] at hg;subst hg;cases c <;> rfl
     ·rename_i hlk;rw [hlk] at hl;simp only [AD.ok] at hl;rw [hy,hl]
      simp only [Option.some.injEq] at hg;subst hg;cases c <;> rfl
     ·cases hg
section
variable {P:Program} {l:List Oper} {n:Nat} {N:Nn} {E0:Env} {Φ:Nat→AD} {wb:World} {Q:Exit→Act→World→Prop} {S:Nat→Prop} {a:Act} {w:World}
theorem Inv.opnd (hok:OkR l n N.n) (hI:Inv l E0 Φ N wb S a w) {i:Nat} {o:Oper} (ho:l[i]?=some o) (hun:¬ S i) (hr:∀ e ∈ o.after,Region.binds .any e=true→S e.on)
 {t:Nat} (ht:t ∈ o.looksAt l.toArray):(lkE (env l E0 Φ i) t).ok (a.tmps.getD t undef) w:=by
 by_cases hw:∃ j oj,j<i∧l[j]?=some oj∧oj.dst=some t
 ·obtain ⟨j,oj,hj,hoj,hd⟩:=hw
  rw [efA l E0 Φ t j oj hoj hd i hj (λ k o' h1 h2 h3 h4=>by have:=hok.uniq k o' j oj t h3 hoj hd h4;omega)];have hb:=(hok.look i o j oj t ho hoj hd ht).2.1 hj;exact hI.fx j oj t (ckA l S hI.cl i o j ho hr hb) hoj hd
 ·rw [egA l E0 Φ t i (λ j o' h1 h2 h3=>hw ⟨j,o',h1,h2,h3⟩)]
  refine hI.un t (λ j oj hj hoj hd=>?_);have h1:=hok.look i o j oj t ho hoj hd ht;have hji:¬ j<i:=λ h=>hw ⟨j,oj,h,hoj,hd⟩
  have hb:=h1.2.2 (by have:=h1.1;omega);exact hun (ckA l S hI.cl j oj i hoj (hI.cl j oj hj hoj) hb)
theorem Inv.step (hok:OkR l n N.n) (hI:Inv l E0 Φ N wb S a w) {i:Nat} {o:Oper} (ho:l[i]?=some o) (hun:¬ S i)
 (hr:∀ e ∈ o.after,Region.binds .any e=true→S e.on) {w':World} (hw:Ext w w') {v:Value} (hv:(Φ i).ok v w'):Inv l E0 Φ N wb (λ j=>S j∨j=i) (a.put o.dst v) w':=by
 have put_t:∀ t,(a.put o.dst v).tmps.getD t undef=if o.dst=some t then v else a.tmps.getD t undef:=λ t=>by
  cases hd:o.dst with
  | none=>simp [Act.put]
  | some d =>
    rw [jxA a d t v (by rw [hI.sz];exact hok.dst i o d ho hd)]
    by_cases e:t=d
    ·simp [e]
    ·rw [if_neg e,if_neg (by simpa using λ h=>e h.symm)]
 refine ⟨?_,?_,hI.ext.trans hw,?_,?_,?_⟩
 ·cases hd:o.dst <;> simp [Act.put,hI.sz]
 ·cases hd:o.dst <;> simp [Act.put,hI.df]
 ·rintro j oj (hj|rfl) hoj e he hb
  ·exact .inl (hI.cl j oj hj hoj e he hb)
  ·rw [ho] at hoj;obtain rfl:=Option.some.inj hoj;exact .inl (hr e he hb)
 ·rintro j oj d (hj|rfl) hoj hd
  ·rw [put_t,if_neg (λ h=>by have:=hok.uniq i o j oj d ho hoj hd h;subst this;exact hun hj)]
   exact (Φ j).mono hw (hI.fx j oj d hj hoj hd)
  ·rw [ho] at hoj;obtain rfl:=Option.some.inj hoj
   rw [put_t,if_pos hd];exact hv
 ·intro t ht
  rw [put_t,if_neg (ht i o (.inr rfl) ho)];exact (lkE E0 t).mono hw (hI.un t (λ j oj hj=>ht j oj (.inl hj)))
theorem plA {E:Env} {o:Oper} {r:AD} (hs:Stp P l wb E o r) (hext:Ext wb w) (hop:∀ t,t ∈ o.looksAt l.toArray→(lkE E t).ok (a.tmps.getD t undef) w) {K:Act→World→Prop}
 (hK:∀ v w',Ext w w'→r.ok v w'→K (a.put o.dst v) w') :
 (if Region.wanted o (yielded l.toArray a.tmps) then o.wp P a w K Q∨(o.asks P a w∧LetsOut Q) else K (a.put o.dst undef) w):=by
 have gl:∀ j c g,o.guard=some (j,c)→mkA l j=some g→(lkE E g).ok (a.tmps.getD g undef) w:=λ j c g h1 h2=>hop g (by
  rw [kiA] at h2;simp only [Oper.looksAt,h1];exact List.mem_append_right _ (by simpa using h2))
 rcases hs with ⟨hg,hob⟩|⟨hg,rfl⟩
 ·rw [g1A (w:=w) hg gl,if_pos rfl]
  refine .inl ?_
  have hy:=hob a w hext (λ x hx=>by
   cases x with
   | tmp t=>exact hop t (by simp only [Oper.looksAt];exact List.mem_append_left _ (List.mem_filterMap.2 ⟨.tmp t,by simpa using hx,rfl⟩))
   | const v=>rfl
   | global g=>rfl
   | func f=>rfl)
  unfold Oper.wp
  generalize (execOp a.eval o).run P w=res at hy
  cases res with
  | ok nx w' =>
    cases nx <;> simp only [Yld] at hy
    case value v=>exact hK _ _ hy.1 hy.2
    case enter f args =>
     obtain ⟨rfl,hcall⟩:=hy;refine hcall.mono ?_
     rintro e w'' ⟨v,rfl,he,hv⟩;exact hK _ _ he hv
  | halt x w'=>simp only [Yld] at hy
 ·rw [g1A (w:=w) hg gl]
  simp only [Bool.false_eq_true,if_false];exact hK _ _ (Ext.refl _) rfl
theorem myA:∀ (fuel k:Nat) (listed:Array Bool) (a:Act) (w:World),(∀ i o,l[i]?=some o→k≤i→∀ j,j<i→((elA l []).getD i 0).testBit j=true)→(∀ i o,l[i]?=some o→∀ e ∈ o.after,Region.binds .any e=true→e.on<i) →
 fuel+k=l.length→listed.size=l.length→(∀ j,j<l.length→listed.getD j true=decide (j<k)) →
 wpList P l.toArray Q (l.drop k) a w→wpAny P .any l.toArray Q fuel listed a w
 | 0,k,listed,a,w,htail,hback,hk,hsz,hl,h=>by
   have hk:k=l.length:=by omega
   rw [hk,List.drop_length] at h;refine ⟨?_,h⟩;rw [List.eq_nil_iff_forall_not_mem];intro j hj;obtain ⟨h1,o,ho,_⟩:=mem_ready.1 hj;have hjl:j<l.length:=by have:=(Array.getElem?_eq_some_iff.1 ho).1;simpa using this
   rw [hl j hjl] at h1;simp at h1;omega
 | fuel+1,k,listed,a,w,htail,hback,hk,hsz,hl,h=>by
   have hlt:k<l.length:=by omega
   have hfalse:∀ j,j<l.length→listed.getD j false=decide (j<k):=λ j hj=>by
    rw [← hl j hj];simp [Array.getD,hsz,hj]
   have hcl:∀ j o,(listed.getD j false=true)→l[j]?=some o→∀ e ∈ o.after,Region.binds .any e=true→listed.getD e.on false=true:=λ j o hj ho e he hb=>by
    have hjl:j<l.length:=(List.getElem?_eq_some_iff.1 ho).1;rw [hfalse j hjl] at hj;have:=hback j o ho e he hb;rw [hfalse e.on (by omega)];simp at hj ⊢;omega
   have honly:∀ i,i ∈ Region.ready .any l.toArray listed→i=k:=λ i hi=>by
    obtain ⟨h1,o,ho,he⟩:=mem_ready.1 hi;have hil:i<l.length:=by have:=(Array.getElem?_eq_some_iff.1 ho).1;simpa using this
    have ho':l[i]?=some o:=by simpa using ho
    rw [hl i hil] at h1;have hki:k≤i:=by simpa using h1
    rcases Nat.lt_or_ge k i with hlt' | hge
    ·have:=ckA l (λ j=>listed.getD j false=true) hcl i o k ho' he (htail i o ho' hki k hlt')
     rw [hfalse k hlt] at this;simp at this
    ·omega
   have hready:k ∈ Region.ready .any l.toArray listed:=by
    refine mem_ready.2 ⟨by rw [hl k hlt];simp,l[k],by simp [hlt],λ e he hb=>?_⟩;have:=hback k l[k] (List.getElem?_eq_getElem hlt) e he hb;rw [hfalse e.on (by omega)];simpa using this
   refine ⟨λ h0=>(by rw [h0] at hready;cases hready),λ i hi=>?_⟩;obtain rfl:=honly i hi;rw [List.drop_eq_getElem_cons hlt] at h;unfold wpOp;rw [show l.toArray[i]?=some l[i] by simp [hlt]];simp only [wpList] at h;have hrec:∀ a' w',wpList P l.toArray Q (l.drop (i+1)) a' w'→wpAny P .any l.toArray Q fuel (listed.setIfInBounds i true) a' w':=λ a' w' h' =>
    myA fuel (i+1) _ a' w' (λ i' o h1 h2=>htail i' o h1 (by omega)) hback (by omega) (by simpa using hsz) (λ j hj=>by
     by_cases e:j=i
     ·subst e;simp [Array.getD,hsz,hj]
     ·have h1:=hl j hj
      have h2:(listed.setIfInBounds i true).getD j true=listed.getD j true:=by
       simp only [Array.getD_eq_getD_getElem?];rw [Array.getElem?_setIfInBounds_ne (by omega)]
      rw [h2,h1];simp;omega) h'
   split at h
   ·rename_i hw;simp only [hw,if_true];exact h.imp (Oper.wp_mono hrec) id
   ·rename_i hw;simp only [hw];exact hrec _ _ h
theorem zuA (hok:OkR l n N.n) (hn:n≤l.length) (hs:∀ i o,i<n→l[i]?=some o→Stp P l wb (env l E0 Φ i) o (Φ i))
 (hK:∀ a w,Inv l E0 Φ N wb (λ j=>j<n) a w→wpList P l.toArray Q (l.drop n) a w) :
 ∀ (fuel:Nat) (listed:Array Bool) (a:Act) (w:World),listed.size=l.length→(listed.toList.filter (!·)).length=fuel→(∀ j,listed.getD j false=true→j<n) →
  Inv l E0 Φ N wb (λ j=>listed.getD j false=true) a w→wpAny P .any l.toArray Q fuel listed a w:=by
 intro fuel
 have allListed:∀ (listed:Array Bool) (a:Act) (w:World),listed.size=l.length→(∀ j,listed.getD j false=true→j<n)→Inv l E0 Φ N wb (λ j=>listed.getD j false=true) a w →
  (∀ j,j<n→listed.getD j false=true)→Inv l E0 Φ N wb (λ j=>j<n) a w:=λ listed a w hsz hSn hI hall=>by
  have e:(λ j=>listed.getD j false=true)=(λ j=>j<n):=funext λ j=>propext ⟨hSn j,hall j⟩
  rwa [e] at hI
 induction fuel with
 | zero =>
   intro listed a w hsz hf hSn hI;have hall:∀ j,j<l.length→listed.getD j true=true∧listed.getD j false=true:=λ j hj=>by
    have h0:listed.toList.filter (!·)=[]:=List.eq_nil_of_length_eq_zero hf;rw [List.filter_eq_nil_iff] at h0;have hj':j<listed.size:=by omega
    have:=h0 listed[j] (by simp);simp only [Bool.not_eq_true',Bool.not_eq_false] at this;simp [Array.getD,hj',this]
   have hnl:n=l.length:=by
    rcases Nat.lt_or_ge n l.length with h|h
    ·have:=hSn n (hall n h).2;omega
    ·omega
   have hQ:=hK a w (allListed listed a w hsz hSn hI (λ j hj=>(hall j (by omega)).2));rw [hnl,List.drop_length] at hQ;refine ⟨?_,hQ⟩;rw [List.eq_nil_iff_forall_not_mem];intro j hj;obtain ⟨h1,o,ho,_⟩:=mem_ready.1 hj;have hjl:j<l.length:=by have:=(Array.getElem?_eq_some_iff.1 ho).1;simpa using this
   rw [(hall j hjl).1] at h1;cases h1
 | succ fuel ih =>
   intro listed a w hsz hf hSn hI;have hun:∃ i,i<l.length∧listed.getD i false=false∧∀ j,j<i→listed.getD j false=true:=by
    have:∃ i,i<l.length∧listed.getD i false=false:=by
     apply Classical.byContradiction
     intro hno;have:listed.toList.filter (!·)=[]:=by
      rw [List.filter_eq_nil_iff];intro b hb;obtain ⟨i,hi,rfl⟩:=List.getElem_of_mem hb;have hi':i<listed.size:=by simpa using hi
      have h2:listed.getD i false≠false:=λ h=>hno ⟨i,by omega,h⟩
      simp [Array.getD,hi'] at h2
      simp [h2]
     rw [this] at hf;simp at hf
    obtain ⟨i,hi,hli⟩:=this;have:∀ m,(∃ i,i<m∧i<l.length∧listed.getD i false=false)→∃ i,i<l.length∧listed.getD i false=false∧∀ j,j<i→listed.getD j false=true:=by
     intro m
     induction m with
     | zero=>rintro ⟨i,h,_⟩;omega
     | succ m ihm =>
       rintro ⟨i,h1,h2,h3⟩
       by_cases hex:∃ i,i<m∧i<l.length∧listed.getD i false=false
       ·exact ihm hex
       ·refine ⟨i,h2,h3,λ j hj=>?_⟩
        have hj2:listed.getD j false≠false:=λ h=>hex ⟨j,by omega,by omega,h⟩
        simpa using hj2
    exact this (i+1) ⟨i,by omega,hi,hli⟩
   refine ⟨λ h0=>?_,λ i hi=>?_⟩
   ·obtain ⟨i,hil,hli,hlow⟩:=hun
    have:i ∈ Region.ready .any l.toArray listed:=by
     refine mem_ready.2 ⟨by have h':i<listed.size:=by omega
                            simp [Array.getD,h'] at hli ⊢;exact hli,l[i],by simp [hil],λ e he hb=>hlow _ (hok.back i l[i] (List.getElem?_eq_getElem hil) e he hb)⟩
    rw [h0] at this;cases this
   ·obtain ⟨h1,o,ho,he⟩:=mem_ready.1 hi
    have hil:i<l.length:=by have:=(Array.getElem?_eq_some_iff.1 ho).1;simpa using this
    have ho':l[i]?=some o:=by simpa using ho
    have hli:¬ (listed.getD i false=true):=by
     have h':i<listed.size:=by omega
     simp [Array.getD,h'] at h1 ⊢;exact h1
    have hset:∀ j,(listed.setIfInBounds i true).getD j false=true↔(listed.getD j false=true∨j=i):=λ j=>by
     simp only [Array.getD_eq_getD_getElem?]
     by_cases e:j=i
     ·subst e;simp [hsz,hil]
     ·rw [Array.getElem?_setIfInBounds_ne (by omega)];simp [e]
    have hcount:((listed.setIfInBounds i true).toList.filter (!·)).length=fuel:=by
     have hi':i<listed.toList.length:=by simp;omega
     have e1:listed.toList=listed.toList.take i++false::listed.toList.drop (i+1):=by
      conv=>lhs;rw [← List.take_append_drop i listed.toList,List.drop_eq_getElem_cons hi']
      have:listed.toList[i]=false:=by
       have h':i<listed.size:=by omega
       simp [Array.getD,h'] at hli;simpa using hli
      rw [this]
     have e2:(listed.setIfInBounds i true).toList=listed.toList.take i++true::listed.toList.drop (i+1):=by
      rw [Array.toList_setIfInBounds,List.set_eq_take_append_cons_drop,if_pos hi']
     rw [e1] at hf;rw [e2];simp [List.filter_append] at hf ⊢;omega
    by_cases hin:i<n
    ·unfold wpOp
     simp only [ho];refine plA (hs i o hin ho') hI.ext (λ t ht=>hI.opnd hok ho' hli he ht) (λ v w' he' hv=>?_);have hI':=hI.step hok ho' hli he he' hv;refine ih _ _ w' (by simpa using hsz) hcount (λ j hj=>?_) ?_
     ·rcases (hset j).1 hj with h|h
      ·exact hSn j h
      ·omega
     ·have e:(λ j=>(listed.setIfInBounds i true).getD j false=true)=(λ j=>listed.getD j false=true∨j=i):=funext λ j=>propext (hset j)
      rw [e];exact hI'
    ·have hall:∀ j,j<i→listed.getD j false=true:=λ j hj =>
      ckA l (λ j=>listed.getD j false=true) hI.cl i o j ho' he (hok.tail i o ho' (by omega) j hj)
     have hin':i=n:=by
      rcases Nat.lt_or_ge n i with h|h
      ·have:=hSn n (hall n h);omega
      ·omega
     have hQ:=hK a w (allListed listed a w hsz hSn hI (λ j hj=>hall j (by omega)));have hdec:∀ j,j<l.length→listed.getD j true=decide (j<n):=λ j hj=>by
      have hj':j<listed.size:=by omega
      by_cases h:j<n
      ·have:=hall j (by omega);simp [Array.getD,hj',h] at this ⊢;exact this
      ·have:¬ (listed.getD j false=true):=λ h'=>h (hSn j h')
       simp [Array.getD,hj',h] at this ⊢;exact this
     have hfl:fuel+1=l.length-n:=by
      have e:listed.toList=(List.range l.length).map (λ j=>decide (j<n)):=by
       apply List.ext_getElem
       ·simp [hsz]
       ·intro j h1 h2
        have hj:j<l.length:=by simpa using h2
        have:=hdec j hj;have hj':j<listed.size:=by omega
        simp [Array.getD,hj'] at this
        simp [this]
      rw [e] at hf;rw [← hf];have:∀ m:Nat,(((List.range m).map (λ j=>decide (j<n))).filter (!·)).length=m-n:=by
       intro m
       induction m with
       | zero=>simp
       | succ m ihm =>
         rw [List.range_succ,List.map_append,List.filter_append,List.length_append,ihm]
         by_cases h:m<n <;> simp [h] <;> omega
      exact this l.length
     have:=myA (fuel+1) n listed a w (λ i o h1 h2=>hok.tail i o h1 h2) hok.back (by omega) hsz hdec hQ;exact this.2 i hi
theorem Inv.st (hok:OkR l n N.n) (hI:Inv l E0 Φ N wb (λ j=>j<n) a w):St N wb (env l E0 Φ n) a w:=by
 refine ⟨hI.sz,hI.df,hI.ext,λ t=>?_⟩
 by_cases hw:∃ j oj,j<n∧l[j]?=some oj∧oj.dst=some t
 ·obtain ⟨j,oj,hj,hoj,hd⟩:=hw
  rw [efA l E0 Φ t j oj hoj hd n hj (λ k o' h1 h2 h3 h4=>by have:=hok.uniq k o' j oj t h3 hoj hd h4;omega)];exact hI.fx j oj t hj hoj hd
 ·rw [egA l E0 Φ t n (λ j o' h1 h2 h3=>hw ⟨j,o',h1,h2,h3⟩)]
  exact hI.un t (λ j oj hj hoj hd=>hw ⟨j,oj,hj,hoj,hd⟩)
def CX (P:Program) (N:Nn) (wb:World) (c:Code) (E:Env) (Q:Exit→Act→World→Prop):Prop:=∀ a w,St N wb E a w→c.wp P Q a w
def PX (N:Nn) (wb:World) (Q:Exit→Act→World→Prop) (e:Exit) (E:Env):Prop:=∀ a w,St N wb E a w→Q e a w
def LX (P:Program) (N:Nn) (wb:World) (l:List Oper) (Q:Exit→Act→World→Prop) (rest:List Oper) (E:Env):Prop:=∀ a w,St N wb E a w→wpList P l.toArray Q rest a w
theorem juA (n:Nat) {id:Nat} {E:Env} (hP:P.follows .mixedOrders=true) (hok:okR l n N.n=true) (hn:n≤l.length)
 (h:LA P l wb (λ rest E=>rest.length=l.length-n∧LX P N wb l Q rest E) l E):CX P N wb (.region id l.toArray true) E Q:=by
 intro a w hst;have hok':=njA hok;obtain ⟨Φ,n',-,hn',-,h2,hlen,h3⟩:=y2A l E l.length 0 (λ _=>.any) (by omega) h;obtain rfl:n'=n:=by simp at hlen;omega
 refine wp_region_any hP ?_
 rw [List.size_toArray];refine zuA (E0:=E) (wb:=wb) (N:=N) hok' hn (λ i o hi ho=>h2 i o (Nat.zero_le _) hi ho) (λ a w' hI=>h3 a w' (hI.st hok')) _ _ _ _ (by simp) (by simp) (λ j hj=>?_) ?_
 ·simp [Array.getD_eq_getD_getElem?,Array.getElem?_replicate] at hj
  split at hj <;> cases hj
 ·refine ⟨hst.sz,hst.df,hst.ext.trans Ext.drawn,?_,?_,λ t _=>(lkE E t).mono Ext.drawn (hst.sat t)⟩
  ·intro j o hj;simp [Array.getD_eq_getD_getElem?,Array.getElem?_replicate] at hj;split at hj <;> cases hj
  ·intro j o d hj;simp [Array.getD_eq_getD_getElem?,Array.getElem?_replicate] at hj;split at hj <;> cases hj
def okD (l:List Oper) (N:Nat):Bool:=l.all λ o=>match o.dst with|some d=>decide (d<N)|none=>true
theorem o9A {m:List Oper} (hd:okD m N.n=true):∀ {E:Env},LA P l wb (λ rest E=>LX P N wb l Q rest E) m E→LX P N wb l Q m E:=by
 induction m with
 | nil=>intro E h;exact h
 | cons o rest ih =>
   intro E h;simp only [okD,List.all_cons,Bool.and_eq_true] at hd
   rcases h with ⟨r,hs,h⟩|h
   ·intro a w hst
    simp only [wpList];refine plA hs hst.ext (λ t _=>hst.sat t) (λ v w' he hv=>?_);refine ih hd.2 h _ _ (hst.push he (λ d hd'=>?_) (.inr hv));have:=hd.1;rw [hd'] at this;simpa using this
   ·exact h
theorem s7A {K K':List Oper→Env→Prop} (hK:∀ rest E,K rest E→K' rest E):∀ {m:List Oper} {E:Env},LA P l wb K m E→LA P l wb K' m E
 | [],_,h=>hK _ _ h
 | _::_,_,.inl ⟨r,hs,h⟩=>.inl ⟨r,hs,s7A hK h⟩
 | _::_,_,.inr h=>.inr (hK _ _ h)
theorem sgA {id:Nat} {E:Env} (hd:okD l N.n=true) (h:∀ K:List Oper→Env→Prop,(∀ rest E,LX P N wb l Q rest E→K rest E)→LA P l wb K l E):CX P N wb (.region id l.toArray false) E Q :=
 λ a w hst=>wp_region_list (by simpa using o9A hd (h _ (λ _ _ h=>h)) a w hst)
theorem abA {m:List Oper} {E:Env} (hd:okD m N.n=true) (h:∀ K:List Oper→Env→Prop,(∀ rest E,LX P N wb l Q rest E→K rest E)→LA P l wb K m E):LX P N wb l Q m E :=
 o9A hd (h _ (λ _ _ h=>h))
theorem paA {id:Nat} {E:Env} (hP:P.follows .mixedOrders=true) (hok:okR l l.length N.n=true)
 (h:∀ K:List Oper→Env→Prop,(∀ E,PX N wb Q .normal E→K [] E)→LA P l wb K l E):CX P N wb (.region id l.toArray true) E Q :=
 juA l.length hP hok (Nat.le_refl _) (s7A (λ rest E h=>by
  obtain ⟨h1,h2⟩:=h;subst h1;exact ⟨by simp,h2⟩) (h (λ rest E=>rest=[]∧PX N wb Q .normal E) (λ E h=>⟨rfl,h⟩)))
theorem dcA (n:Nat) {id:Nat} {E:Env} (hP:P.follows .mixedOrders=true) (hok:okR l n N.n=true) (hn:n≤l.length)
 (h:∀ K:List Oper→Env→Prop,(∀ rest E,rest.length=l.length-n→LX P N wb l Q rest E→K rest E)→LA P l wb K l E):CX P N wb (.region id l.toArray true) E Q :=
 juA n hP hok hn (h _ (λ _ _ h1 h2=>⟨h1,h2⟩))
theorem vwA {E:Env} (h:PX N wb Q .normal E):LX P N wb l Q [] E:=h
variable {E:Env} {x y c:Code} {id:Nat}
theorem sfA (h:CX P N wb x E (Exit.then (y.wp P Q) Q)):CX P N wb (.seq x y) E Q:=λ a w s=>wp_seq (h a w s)
theorem yeA (h:PX N wb Q .normal E):CX P N wb .skip E Q:=λ a w s=>wp_skip (h a w s)
theorem v5A {k:Nat} (h:PX N wb Q .normal E):CX P N wb (.label k) E Q:=λ a w s=>wp_label (h a w s)
theorem yfA (h:PX N wb Q (.exit id) E):CX P N wb (.exit id) E Q:=λ a w s=>wp_exit (h a w s)
theorem a3B (h:PX N wb Q .ret E):CX P N wb .ret E Q:=λ a w s=>wp_ret (h a w s)
theorem v8A (h:CX P N wb c E (Exit.inBlock id Q)):CX P N wb (.block id c) E Q:=λ a w s=>wp_block (h a w s)
theorem v6A {o:Operand} (hc:opE E o=.val (.bool true)) (h:CX P N wb x E Q):CX P N wb (.cond o x y) E Q:=λ a w s =>
 wp_cond_true (by have:=s.opd o;rw [hc] at this;exact this) (h a w s)
theorem v7A {o:Operand} (hc:opE E o=.val (.bool false)) (h:CX P N wb y E Q):CX P N wb (.cond o x y) E Q:=λ a w s =>
 wp_cond_false (by have:=s.opd o;rw [hc] at this;exact this) (h a w s)
theorem oiA {o:Operand} {b:Bool} (hc:opE E o=.val (.bool b)) (hx:b=true→CX P N wb x E Q) (hy:b=false→CX P N wb y E Q):CX P N wb (.cond o x y) E Q:=λ a w s=>by
 have hv:a.eval o=.bool b:=by have:=s.opd o;rw [hc] at this;exact this
 cases b
 ·exact wp_cond_false hv (hy rfl a w s)
 ·exact wp_cond_true hv (hx rfl a w s)
theorem xyA (h:CX P N wb y E Q):PX N wb (Exit.then (y.wp P Q) Q) .normal E:=h
theorem uhA {F:Act→World→Prop} {k:Nat} (h:PX N wb Q (.exit k) E):PX N wb (Exit.then F Q) (.exit k) E:=h
theorem uiA {F:Act→World→Prop} (h:PX N wb Q .ret E):PX N wb (Exit.then F Q) .ret E:=h
theorem ruA (h:PX N wb Q .normal E):PX N wb (Exit.inBlock id Q) .normal E:=h
theorem rsA (h:PX N wb Q .ret E):PX N wb (Exit.inBlock id Q) .ret E:=h
theorem rrA (h:PX N wb Q .normal E):PX N wb (Exit.inBlock id Q) (.exit id) E:=λ a w s=>by simpa [Exit.inBlock] using h a w s
theorem rtA {k:Nat} (hk:(k == id)=false) (h:PX N wb Q (.exit k) E):PX N wb (Exit.inBlock id Q) (.exit k) E:=λ a w s=>by
 have:k≠id:=by simpa using hk
 simpa [Exit.inBlock,this] using h a w s
theorem gxA {a:Act} {w:World}:∀ (E:Env),(∀ d r,(d,r) ∈ E→r.ok (a.tmps.getD d undef) w)→∀ t,(lkE E t).ok (a.tmps.getD t undef) w
 | [],_,_=>trivial
 | (d,r)::E,h,t=>by
   rw [ceA]
   by_cases e:t=d
   ·subst e;simpa using h t r (by simp)
   ·simp only [e,if_false];exact gxA E (λ d r hm=>h d r (by simp [hm])) t
def Sub (wb:World) (E E':Env):Prop:=∀ d r,(d,r) ∈ E'→∀ v w,Ext wb w→(lkE E d).ok v w→r.ok v w
theorem Sub.nil:Sub wb E []:=λ _ _ hm=>by cases hm
theorem Sub.cons {E':Env} {d:Nat} {r:AD} (h:∀ v w,Ext wb w→(lkE E d).ok v w→r.ok v w) (hs:Sub wb E E'):Sub wb E ((d,r)::E'):=λ d' r' hm=>by
 simp only [List.mem_cons,Prod.mk.injEq] at hm
 rcases hm with ⟨rfl,rfl⟩|hm
 ·exact h
 ·exact hs d' r' hm
theorem Sub.same {E':Env} {d:Nat} {r:AD} (h:lkE E d=r) (hs:Sub wb E E'):Sub wb E ((d,r)::E'):=Sub.cons (λ _ _ _ hv=>h▸hv) hs
theorem Sub.val {E':Env} {d:Nat} {v v':Value} (h:lkE E d=.val v) (hv:v=v') (hs:Sub wb E E'):Sub wb E ((d,.val v')::E'):=Sub.same (hv▸h) hs
theorem Sub.st {E':Env} (h:Sub wb E E') (s:St N wb E a w):St N wb E' a w :=
 ⟨s.sz,s.df,s.ext,gxA E' λ d r hm=>h d r hm _ _ s.ext (s.sat d)⟩
theorem hvA {ι:Type} (I:ι→Act→World→Prop) (μ:ι→Nat) (round:∀ i a w,I i a w→c.wp P (Exit.then (λ a' w'=>∃ i',I i' a' w'∧μ i'<μ i) Q) a w) {i0:ι} (h0:I i0 a w) :
 (Code.loop c).wp P Q a w:=by
 intro b k cs;have key:∀ n i a w,μ i=n→I i a w→∃ e a' w',Q e a' w'∧Arrives P (lone (b.at a (.code c::.inLoop c::k)) cs w) b k cs e a' w':=by
  intro n
  induction n using Nat.strongRecOn with
  | _ n ih =>
    intro i a w hn hI;obtain ⟨e,a₁,w₁,hq,harr⟩:=round i a w hI b (.inLoop c::k) cs;cases e with
    | normal =>
      obtain ⟨i',hI₁,hlt⟩:=hq;obtain ⟨e₂,a₂,w₂,hq₂,harr₂⟩:=ih (μ i') (hn▸hlt) i' a₁ w₁ rfl hI₁;exact ⟨e₂,a₂,w₂,hq₂,.of_steps (Steps.trans harr (.one step_inLoop)) harr₂⟩
    | exit id=>exact ⟨_,a₁,w₁,hq,.pass (x:=.inLoop c) rfl (λ _ _=>.inl (by simp)) harr⟩
    | goto l=>exact ⟨_,a₁,w₁,hq,.pass (x:=.inLoop c) rfl (λ _ _=>.inl (by simp)) harr⟩
    | ret=>exact ⟨_,a₁,w₁,hq,.pass (x:=.inLoop c) rfl (λ _ _=>.inl (by simp)) harr⟩
    | panic ch=>exact ⟨_,a₁,w₁,hq,.pass (x:=.inLoop c) rfl (λ _ _=>.inl (by simp)) harr⟩
    | outgrown=>exact ⟨_,a₁,w₁,hq,.pass (x:=.inLoop c) rfl (λ _ _=>.inl (by simp)) harr⟩
 obtain ⟨e,a',w',hq,harr⟩:=key _ i0 a w rfl h0;exact ⟨e,a',w',hq,.of_steps (.one step_loop) harr⟩
def Rnd {ι:Type} (N:Nn) (wb:World) (J:ι→Env) (C:ι→Prop) (μ:ι→Nat) (m:Nat):Act→World→Prop:=λ a w=>∃ i,(C i∧St N wb (J i) a w)∧μ i<m
theorem ciA {ι:Type} (J:ι→Env) (C:ι→Prop) (μ:ι→Nat) (i0:ι) (h0:C i0) (hs:Sub wb E (J i0))
 (hr:∀ i,C i→CX P N wb c (J i) (Exit.then (Rnd N wb J C μ (μ i)) Q)):CX P N wb (.loop c) E Q:=λ _ _ s =>
 hvA (λ i a w=>C i∧St N wb (J i) a w) μ (λ i a w h=>hr i h.1 a w h.2) ⟨h0,hs.st s⟩
theorem czA {ι:Type} {J:ι→Env} {C:ι→Prop} {μ:ι→Nat} {m:Nat} (i:ι) (h0:C i) (hm:μ i<m) (hs:Sub wb E (J i)):PX N wb (Exit.then (Rnd N wb J C μ m) Q) .normal E :=
 λ _ _ s=>⟨i,⟨h0,hs.st s⟩,hm⟩
def RndW {ι:Type} (N:Nn) (J:ι→Env) (I:ι→World→Prop) (μ:ι→Nat) (m:Nat):Act→World→Prop:=λ a w=>∃ i,(I i w∧St N w (J i) a w)∧μ i<m
theorem St.rebase (s:St N wb E a w):St N w E a w:=⟨s.sz,s.df,Ext.refl _,s.sat⟩
theorem St.pick {t:Nat} (s:St N wb E a w):St N w ((t,.val (a.tmps.getD t undef))::E) a w :=
 ⟨s.sz,s.df,Ext.refl _,λ u=>by
  rw [ceA]
  split
  ·rename_i h;subst h;rfl
  ·exact s.sat u⟩
theorem bwA (t:Nat) {φ:AV} (hl:lkE E t=.pred φ) (h:∀ v w,Ext wb w→φ.p v w→CX P N w c ((t,.val v)::E) Q):CX P N wb c E Q:=λ a w s =>
 h _ w s.ext (by have:=s.sat t;rw [hl] at this;exact this) a w s.pick
theorem fsA (t:Nat) {φ:AV} {e:Exit} (hl:lkE E t=.pred φ) (h:∀ v w,Ext wb w→φ.p v w→PX N w Q e ((t,.val v)::E)):PX N wb Q e E:=λ a w s =>
 h _ w s.ext (by have:=s.sat t;rw [hl] at this;exact this) a w s.pick
theorem awA (t:Nat) {φ:AV} {rest:List Oper} (hl:lkE E t=.pred φ) (h:∀ v w,Ext wb w→φ.p v w→LX P N w l Q rest ((t,.val v)::E)):LX P N wb l Q rest E:=λ a w s =>
 h _ w s.ext (by have:=s.sat t;rw [hl] at this;exact this) a w s.pick
theorem aaA {ι:Type} (J:ι→Env) (I:ι→World→Prop) (μ:ι→Nat) (h0:∀ w,Ext wb w→∃ i,I i w∧Sub wb E (J i))
 (hr:∀ i w,I i w→CX P N w c (J i) (Exit.then (RndW N J I μ (μ i)) Q)):CX P N wb (.loop c) E Q:=λ a w s=>by
 obtain ⟨i,h1,h2⟩:=h0 w s.ext;exact hvA (λ i a w=>I i w∧St N w (J i) a w) μ (λ i a w h=>hr i w h.1 a w h.2) ⟨h1,(h2.st s).rebase⟩
theorem a4A {ι:Type} {J:ι→Env} {I:ι→World→Prop} {μ:ι→Nat} {m:Nat} (i:ι) (h0:∀ w,Ext wb w→I i w) (hm:μ i<m) (hs:Sub wb E (J i)) :
 PX N wb (Exit.then (RndW N J I μ m) Q) .normal E:=λ _ w s=>⟨i,⟨h0 w s.ext,(hs.st s).rebase⟩,hm⟩
variable {kN:Nat}
def lpA:List Value→Nat→Env
 | [],_=>[]
 | v::r,i=>(i,.val v)::lpA r (i+1)
theorem loA (tmps:Array Value):∀ (args:List Value) (i:Nat),(∀ k v,args[k]?=some v→tmps.getD (i+k) undef=v)→∀ d r,(d,r) ∈ lpA args i→∀ w,r.ok (tmps.getD d undef) w
 | [],_,_,_,_,hm,_=>by cases hm
 | v::args,i,h,d,r,hm,w=>by
   simp only [lpA,List.mem_cons,Prod.mk.injEq] at hm
   rcases hm with ⟨rfl,rfl⟩|hm
   ·exact h 0 v rfl
   ·exact loA tmps args (i+1) (λ k v hk=>by have:=h (k+1) v (by simpa using hk);rw [← this];congr 1;omega) d r hm w
def Ret (w:World) (r:AD):Ending→World→Prop:=λ e w'=>∃ v,e=.returned v∧Ext w w'∧r.ok v w'
theorem uaA {f:FuncId} {fn:Func} {args:List Value} {R:Ending→World→Prop} (hf:P.funcs[f]?=some fn) (hb:fn.body=some c) (hn:fn.ntmps=kN) (hle:args.length≤kN)
 (h:CX P ⟨kN,[]⟩ w c (lpA args 0) (bodyPost P fn R)):Calls P f args.toArray w R:=by
 refine calls_of_wp hf hb (h _ _ ⟨?_,rfl,Ext.refl _,?_⟩)
 ·simp [hn];omega
 ·refine gxA _ (λ d r hm=>loA _ args 0 (λ k v hk=>?_) d r hm w)
  have hlt:=(List.getElem?_eq_some_iff.1 hk).1;have hv:=(List.getElem?_eq_some_iff.1 hk).2;simp only [Nat.zero_add,Array.getD_eq_getD_getElem?];rw [Array.getElem?_append_left (by simpa using hlt)];simp [hlt,hv]
theorem cbA {fn:Func} {R:Ending→World→Prop} {t:Nat} (hr:fn.results=#[.tmp t]) (h:∀ v w,Ext wb w→(lkE E t).ok v w→R (.returned v) w):PX ⟨kN,[]⟩ wb (bodyPost P fn R) .ret E :=
 λ _ _ s=>⟨s.df,_,results_tmp hr _ _ _,h _ _ s.ext (s.sat t)⟩
theorem frA {fn:Func} {R:Ending→World→Prop} {t u:Nat} (hr:fn.results=#[.tmp t,.tmp u]) (h:∀ x y w,Ext wb w→(lkE E t).ok x w→(lkE E u).ok y w→R (.returned (.tuple #[x,y])) w):PX ⟨kN,[]⟩ wb (bodyPost P fn R) .ret E :=
 λ _ _ s=>⟨s.df,_,results_tmp2 hr _ _ _,h _ _ _ s.ext (s.sat t) (s.sat u)⟩
theorem k6A {fn:Func} {t u q:Tmp} (h:fn.results=#[.tmp t,.tmp u,.tmp q]) (tmps:Array Value) (P:Program) (w:World) :
 (results fn tmps).run P w=.ok (.tuple #[tmps.getD t undef,tmps.getD u undef,tmps.getD q undef]) w:=by
 simp [results,h]
theorem mpA {fn:Func} {R:Ending→World→Prop} {t u q:Nat} (hr:fn.results=#[.tmp t,.tmp u,.tmp q]) (h:∀ x y z w,Ext wb w→(lkE E t).ok x w→(lkE E u).ok y w→(lkE E q).ok z w→R (.returned (.tuple #[x,y,z])) w):PX ⟨kN,[]⟩ wb (bodyPost P fn R) .ret E :=
 λ _ _ s=>⟨s.df,_,k6A hr _ _ _,h _ _ _ _ s.ext (s.sat t) (s.sat u) (s.sat q)⟩
theorem y0A {fn:Func} {t:Nat} {c:Value} {w0:World} {r:AD} (hr:fn.results=#[.tmp t]) (hl:lkE E t=.val c) (he:Ext w0 wb) (hc:∀ w,Ext wb w→r.ok c w):PX ⟨kN,[]⟩ wb (bodyPost P fn (Ret w0 r)) .ret E :=
 cbA hr λ v w e hv=>by
  rw [hl] at hv;have hv:v=c:=hv;exact ⟨v,rfl,he.trans e,hv▸hc w e⟩
theorem ajA {fn:Func} {t:Nat} {c c':Value} {w0:World} (hr:fn.results=#[.tmp t]) (hl:lkE E t=.val c) (he:Ext w0 wb) (hc:c=c'):PX ⟨kN,[]⟩ wb (bodyPost P fn (Ret w0 (.val c'))) .ret E :=
 y0A hr hl he λ _ _=>hc
theorem aiA {fn:Func} {t:Nat} {w0:World} {r r':AD} (hr:fn.results=#[.tmp t]) (hl:lkE E t=r') (he:Ext w0 wb) (hc:∀ v w,Ext wb w→r'.ok v w→r.ok v w):PX ⟨kN,[]⟩ wb (bodyPost P fn (Ret w0 r)) .ret E :=
 cbA hr λ v w e hv=>⟨v,rfl,he.trans e,hc v w e (hl▸hv)⟩
theorem htA {fn:Func} {t u:Nat} {c c' b b':Value} {w0:World} (hr:fn.results=#[.tmp t,.tmp u]) (hl:lkE E t=.val c) (hl':lkE E u=.val b) (he:Ext w0 wb) (hc:c=c') (hb:b=b'):PX ⟨kN,[]⟩ wb (bodyPost P fn (Ret w0 (.tup2 (.val c') (.val b')))) .ret E :=
 frA hr λ x y w e hx hy=>by
  rw [hl] at hx;rw [hl'] at hy;exact ⟨_,rfl,he.trans e,x,y,rfl,Eq.trans hx hc,Eq.trans hy hb⟩
theorem clA {fn:Func} {R:Ending→World→Prop} (hr:fn.results=#[]) (h:∀ w,Ext wb w→R (.returned (.tuple #[])) w) {e:Exit} (he:e=.normal∨e=.ret):PX ⟨kN,[]⟩ wb (bodyPost P fn R) e E :=
 λ _ _ s=>by rcases he with rfl|rfl <;> exact ⟨s.df,_,results_none hr _ _ _,h _ s.ext⟩
variable {K:List Oper→Env→Prop} {rest:List Oper}
theorem b1A {o:Oper} (r:AD) (hg:b8A l E o.guard=some true) (hob:OB P wb E o r) (h:LA P l wb K rest (puE o.dst r E)):LA P l wb K (o::rest) E:=.inl ⟨r,.inl ⟨hg,hob⟩,h⟩
theorem y3A {o:Oper} (hg:b8A l E o.guard=some false) (h:LA P l wb K rest (puE o.dst (.val undef) E)):LA P l wb K (o::rest) E:=.inl ⟨_,.inr ⟨hg,rfl⟩,h⟩
theorem a3A {o:Oper} (h:K (o::rest) E):LA P l wb K (o::rest) E:=.inr h
theorem s5A (h:K [] E):LA P l wb K [] E:=h
theorem h6A {P:Program} {l:List Oper} {wb:World} {K:List Oper→Env→Prop} {E:Env}:LA P l wb K [] E↔K [] E:=Iff.rfl
theorem ekA {P:Program} {l:List Oper} {wb:World} {K:List Oper→Env→Prop} {o:Oper} {rest:List Oper} {E:Env}:LA P l wb K (o::rest) E↔((∃ r,Stp P l wb E o r∧LA P l wb K rest (puE o.dst r E))∨K (o::rest) E):=Iff.rfl
end
attribute [irreducible] LA CX PX LX
end Go.LA
end
