import Derived.WalkKit
import Derived.KernelRfl
set_option linter.unusedSimpArgs false
set_option linter.unusedVariables false
set_option maxRecDepth 3000
set_option maxHeartbeats 16000000
section
namespace Go.LA
open Go.RowKit
def Ext (w w':World):Prop:=Below w.heap.size w w'
theorem Ext.refl (w:World):Ext w w:=Below.refl _ _
theorem Ext.trans {a b c:World} (h:Ext a b) (k:Ext b c):Ext a c:=Below.trans h (k.mono h.size)
theorem Ext.drawn {w:World}:Ext w { w with drawn:=w.drawn+1 }:=⟨rfl,rfl,rfl,Nat.le_refl _,λ _ _=>rfl⟩
theorem Ext.alloc (w:World) (o:Obj):Ext w (w.alloc o):=(Below.refl _ _).alloc (Nat.le_refl _) o
theorem Ext.cell {w w':World} (h:Ext w w') {p:Addr} {v:Value} (hc:w.cell? p=some v):w'.cell? p=some v :=
 (Below.cell h (World.block_lt_of_cell? w p hc)).trans hc
theorem Ext.block {w w':World} (h:Ext w w') {b:Nat} {o:Obj} (hb:w.heap[b]?=some o):w'.heap[b]?=some o :=
 (Below.block h b (Array.getElem?_eq_some_iff.1 hb).1).trans hb
structure AV where
 p:Value→World→Prop
 mono:∀ v w w',Ext w w'→p v w→p v w'
inductive AD where
 | any
 | val (v:Value)
 | pred (φ:AV)
 | tup2 (a b:AD)
 | tup3 (a b c:AD)
def AD.ok:AD→Value→World→Prop
 | .any,_,_=>True
 | .val c,v,_=>v=c
 | .pred φ,v,w=>φ.p v w
 | .tup2 a b,v,w=>∃ x y,v=.tuple #[x,y]∧a.ok x w∧b.ok y w
 | .tup3 a b c,v,w=>∃ x y z,v=.tuple #[x,y,z]∧a.ok x w∧b.ok y w∧c.ok z w
theorem AD.mono:∀ (r:AD) {v:Value} {w w':World},Ext w w'→r.ok v w→r.ok v w'
 | .any,_,_,_,_,_=>trivial
 | .val _,_,_,_,_,h=>h
 | .pred φ,_,_,_,e,h=>φ.mono _ _ _ e h
 | .tup2 a b,_,_,_,e,⟨x,y,h,h1,h2⟩=>⟨x,y,h,a.mono e h1,b.mono e h2⟩
 | .tup3 a b c,_,_,_,e,⟨x,y,z,h,h1,h2,h3⟩=>⟨x,y,z,h,a.mono e h1,b.mono e h2,c.mono e h3⟩
abbrev Env:=List (Nat × AD)
def lkE:Env→Nat→AD
 | [],_=>.any
 | (d,r)::E,t=>bif t == d then r else lkE E t
def opE (E:Env):Operand→AD
 | .tmp t=>lkE E t
 | .const v=>.val v
 | .global g=>.val (.pointer (some ⟨g,0,none⟩))
 | .func f=>.val (.func (.func f) #[] #[])
def puE:Option Tmp→AD→Env→Env
 | none,_,E=>E
 | some d,r,E=>(d,r)::E
structure Nn where
 n:Nat
 ds:List Deferred
structure St (N:Nn) (wb:World) (E:Env) (a:Act) (w:World):Prop where
 sz:a.tmps.size=N.n
 df:a.defers=N.ds
 ext:Ext wb w
 sat:∀ t,(lkE E t).ok (a.tmps.getD t undef) w
theorem jtA (a:Act) (d t:Nat) (v:Value) (hd:d<a.tmps.size):(a.put (some d) v).tmps.getD t undef=if t=d then v else a.tmps.getD t undef:=by
 simp only [Act.put,Array.getD_eq_getD_getElem?]
 by_cases e:t=d
 ·subst e;simp [hd]
 ·rw [Array.getElem?_setIfInBounds_ne (by omega)];simp [e]
theorem cgA {d t:Nat} {r:AD} {E:Env}:lkE ((d,r)::E) t=if t=d then r else lkE E t:=by
 by_cases h:t=d
 ·simp [lkE,h]
 ·have:(t == d)=false:=by simpa using h
  simp [lkE,h,this]
theorem St.push {N:Nn} {wb:World} {E:Env} {a:Act} {w w':World} (h:St N wb E a w) (he:Ext w w') {dst:Option Tmp} {r:AD} {v:Value} (hd:∀ d,dst=some d→d<N.n) (hv:dst=none∨r.ok v w') :
 St N wb (puE dst r E) (a.put dst v) w':=by
 cases dst with
 | none=>exact ⟨h.sz,h.df,h.ext.trans he,λ t=>(lkE E t).mono he (h.sat t)⟩
 | some d =>
   have hv:r.ok v w':=by rcases hv with h|h;cases h;exact h
   refine ⟨by simp [Act.put,h.sz],by simp [Act.put,h.df],h.ext.trans he,λ t=>?_⟩;rw [jtA a d t v (by rw [h.sz];exact hd d rfl)];simp only [puE,cgA]
   by_cases e:t=d
   ·simp [e,hv]
   ·simp only [e,if_false];exact (lkE E t).mono he (h.sat t)
theorem St.opd {N:Nn} {wb:World} {E:Env} {a:Act} {w:World} (h:St N wb E a w) (x:Operand):(opE E x).ok (a.eval x) w:=by
 cases x with
 | tmp t=>exact h.sat t
 | const v=>rfl
 | global g=>rfl
 | func f=>rfl
def Yld (P:Program) (r:AD) (w:World):Result Next→Prop
 | .ok (.value v) w'=>Ext w w'∧r.ok v w'
 | .ok (.enter f args) w'=>w'=w∧Calls P f args w (λ e w''=>∃ v,e=.returned v∧Ext w w''∧r.ok v w'')
 | _=>False
def OB (P:Program) (wb:World) (E:Env) (o:Oper) (r:AD):Prop :=
 ∀ (a:Act) (w:World),Ext wb w→(∀ x ∈ o.op.operands,(opE E x).ok (a.eval x) w)→Yld P r w ((execOp a.eval o).run P w)
def mkA:List Oper→Nat→Option Nat
 | [],_=>none
 | o::_,0=>o.dst
 | _::r,n+1=>mkA r n
theorem koA:∀ (l:List Oper) (j:Nat),mkA l j=(l[j]?).bind (·.dst)
 | [],_=>rfl
 | _::_,0=>rfl
 | _::r,n+1=>by simp [mkA,koA r n]
def bmA (l:List Oper) (E:Env):Option (Nat × Bool)→Option Bool
 | none=>some true
 | some (j,b)=>match mkA l j with
   | none=>none
   | some g=>match lkE E g with
     | .val (.bool true)=>some b
     | .val (.bool false)=>some (!b)
     | .val (.tuple _)=>some false
     | _=>none
def Stp (P:Program) (l:List Oper) (wb:World) (E:Env) (o:Oper) (r:AD):Prop :=
 (bmA l E o.guard=some true∧OB P wb E o r)∨(bmA l E o.guard=some false∧r=.val undef)
def LA (P:Program) (l:List Oper) (wb:World) (K:List Oper→Env→Prop):List Oper→Env→Prop
 | [],E=>K [] E
 | o::rest,E=>(∃ r,Stp P l wb E o r∧LA P l wb K rest (puE o.dst r E))∨K (o::rest) E
def env (l:List Oper) (E0:Env) (Φ:Nat→AD):Nat→Env
 | 0=>E0
 | i+1=>puE ((l[i]?).bind (·.dst)) (Φ i) (env l E0 Φ i)
theorem fsA (l:List Oper) (E0:Env) (Φ Ψ:Nat→AD):∀ i,(∀ j,j<i→Φ j=Ψ j)→env l E0 Φ i=env l E0 Ψ i
 | 0,_=>rfl
 | i+1,h=>by simp only [env];rw [h i (by omega),fsA l E0 Φ Ψ i (λ j hj=>h j (by omega))]
theorem zoA {P:Program} {wb:World} {K:List Oper→Env→Prop} (l:List Oper) (E0:Env) :
 ∀ (m k:Nat) (Φ0:Nat→AD),k+m=l.length→LA P l wb K (l.drop k) (env l E0 Φ0 k) →
  ∃ (Φ:Nat→AD) (n:Nat),k≤n∧n≤l.length∧(∀ i,i<k→Φ i=Φ0 i)∧(∀ i o,k≤i→i<n→l[i]?=some o→Stp P l wb (env l E0 Φ i) o (Φ i))∧K (l.drop n) (env l E0 Φ n):=by
 intro m
 induction m with
 | zero =>
   intro k Φ0 hk h;obtain rfl:k=l.length:=by omega
   rw [List.drop_length] at h;exact ⟨Φ0,l.length,Nat.le_refl _,Nat.le_refl _,λ _ _=>rfl,λ i o h1 h2=>by omega,by rw [List.drop_length];exact h⟩
 | succ m ih =>
   intro k Φ0 hk h;have hlt:k<l.length:=by omega
   have hd:l.drop k=l[k]::l.drop (k+1):=List.drop_eq_getElem_cons hlt;rw [hd] at h
   rcases h with ⟨φ,hs,h⟩|h
   ·let Φ1:Nat→AD:=λ i=>if i=k then φ else Φ0 i
    have e1:env l E0 Φ1 k=env l E0 Φ0 k:=fsA l E0 _ _ k (λ j hj=>by simp [Φ1];omega);have e2:env l E0 Φ1 (k+1)=puE l[k].dst φ (env l E0 Φ0 k):=by
     simp only [env,e1];simp [Φ1,hlt]
    obtain ⟨Φ,n,g0,gn,g1,g2,g3⟩:=ih (k+1) Φ1 (by omega) (by rw [e2];exact h);refine ⟨Φ,n,by omega,gn,λ i hi=>by rw [g1 i (by omega)];simp [Φ1];omega,λ i o h1 h2 ho=>?_,g3⟩
    by_cases e:i=k
    ·subst e
     have e3:env l E0 Φ i=env l E0 Φ0 i:=fsA l E0 _ _ i (λ j hj=>by rw [g1 j (by omega)];simp [Φ1];omega);have e4:Φ i=φ:=by rw [g1 i (by omega)];simp [Φ1]
     have e5:o=l[i]:=by rw [List.getElem?_eq_getElem hlt] at ho;exact (Option.some.inj ho).symm
     rw [e3,e4,e5];exact hs
    ·exact g2 i o (by omega) h2 ho
   ·exact ⟨Φ0,k,Nat.le_refl _,by omega,λ _ _=>rfl,λ i o h1 h2=>by omega,by rw [hd];exact h⟩
theorem ebA (l:List Oper) (E0:Env) (Φ:Nat→AD) (t:Nat):∀ i,(∀ j o,j<i→l[j]?=some o→o.dst≠some t)→lkE (env l E0 Φ i) t=lkE E0 t
 | 0,_=>rfl
 | i+1,h=>by
   have ih:=ebA l E0 Φ t i (λ j o hj=>h j o (by omega));simp only [env];cases ho:l[i]? with
   | none=>simpa [puE] using ih
   | some o =>
     have hne:=h i o (by omega) ho;cases hd:o.dst with
     | none=>simpa [puE,hd] using ih
     | some d =>
       have:t≠d:=λ e=>hne (by rw [hd,e])
       simpa [puE,hd,cgA,this] using ih
theorem eaA (l:List Oper) (E0:Env) (Φ:Nat→AD) (t:Nat) (j:Nat) (oj:Oper) (hj:l[j]?=some oj) (hd:oj.dst=some t):∀ i,j<i →
 (∀ k o,j<k→k<i→l[k]?=some o→o.dst≠some t)→lkE (env l E0 Φ i) t=Φ j
 | 0,h,_=>by omega
 | i+1,h,hu=>by
   simp only [env]
   by_cases e:j=i
   ·subst e;simp [hj,hd,puE,lkE]
   ·have ih:=eaA l E0 Φ t j oj hj hd i (by omega) (λ k o h1 h2=>hu k o h1 (by omega))
    cases ho:l[i]? with
    | none=>simpa [puE] using ih
    | some o =>
      have hne:=hu i o (by omega) (by omega) ho;cases hd':o.dst with
      | none=>simpa [puE,hd'] using ih
      | some d =>
        have:t≠d:=λ e=>hne (by rw [hd',e])
        simpa [puE,hd',cgA,this] using ih
def efA (acc:List Nat) (es:List Edge):Nat :=
 match es with
 | []=>0
 | e::r=>(if Region.binds .any e then 2 ^ e.on ||| acc.getD e.on 0 else 0) ||| efA acc r
def ekA:List Oper→List Nat→List Nat
 | [],acc=>acc
 | o::r,acc=>ekA r (acc++[efA acc o.after.toList])
theorem hgA (acc:List Nat) (j:Nat):∀ es:List Edge,(efA acc es).testBit j=true→∃ e ∈ es,Region.binds .any e=true∧(e.on=j∨(acc.getD e.on 0).testBit j=true)
 | [],h=>by simp [efA] at h
 | e::r,h=>by
   simp only [efA,Nat.testBit_or,Bool.or_eq_true] at h
   rcases h with h|h
   ·by_cases hb:Region.binds .any e=true
    ·simp only [hb,if_true,Nat.testBit_or,Bool.or_eq_true,Nat.testBit_two_pow,decide_eq_true_eq] at h
     exact ⟨e,by simp,hb,h⟩
    ·simp [hb] at h
   ·obtain ⟨e',he,h'⟩:=hgA acc j r h
    exact ⟨e',by simp [he],h'⟩
theorem ocA:∀ (l:List Oper) (acc:List Nat),∃ t,ekA l acc=acc++t
 | [],acc=>⟨[],by simp [ekA]⟩
 | o::r,acc=>by
   obtain ⟨t,h⟩:=ocA r (acc++[efA acc o.after.toList]);exact ⟨efA acc o.after.toList::t,by simp [ekA,h]⟩
theorem lvA:∀ (l:List Oper) (acc:List Nat) (i:Nat) (o:Oper),l[i]?=some o →
 ∃ acc',(∀ k,(acc'.getD k 0=(ekA l acc).getD k 0∧k<acc.length+i)∨acc'.getD k 0=0)∧(ekA l acc).getD (acc.length+i) 0=efA acc' o.after.toList
 | [],acc,i,o,h=>by simp at h
 | x::r,acc,0,o,h=>by
   simp at h;subst h
   obtain ⟨t,ht⟩:=ocA r (acc++[efA acc x.after.toList]);refine ⟨acc,λ k=>?_,by simp [ekA,ht]⟩
   by_cases hk:k<acc.length
   ·left;simp [ekA,ht,List.getElem?_append_left hk,hk]
   ·right;simp [List.getElem?_eq_none (by omega:acc.length≤k)]
 | x::r,acc,i+1,o,h=>by
   obtain ⟨acc',h1,h2⟩:=lvA r (acc++[efA acc x.after.toList]) i o (by simpa using h);refine ⟨acc',λ k=>?_,?_⟩
   ·rcases h1 k with ⟨ha,hb⟩|h1
    ·left;exact ⟨ha,by simp at hb;omega⟩
    ·right;exact h1
   ·have e:(acc++[efA acc x.after.toList]).length+i=acc.length+(i+1):=by simp;omega
    rw [e] at h2;exact h2
theorem cuA (l:List Oper) (S:Nat→Prop) (hS:∀ j o,S j→l[j]?=some o→∀ e ∈ o.after,Region.binds .any e=true→S e.on) :
 ∀ (i:Nat) (o:Oper) (j:Nat),l[i]?=some o→(∀ e ∈ o.after,Region.binds .any e=true→S e.on)→((ekA l []).getD i 0).testBit j=true→S j:=by
 intro i
 induction i using Nat.strongRecOn with
 | ind i ih =>
   intro o j ho he hb;obtain ⟨acc',h1,h2⟩:=lvA l [] i o ho;simp only [List.length_nil,Nat.zero_add] at h1 h2;rw [h2] at hb;obtain ⟨e,hm,hbi,h⟩:=hgA acc' j _ hb;have hm':e ∈ o.after:=by simpa using hm
   have hSe:=he e hm' hbi
   rcases h with h|h
   ·exact h▸hSe
   ·rcases h1 e.on with ⟨h1,hlt⟩|h1
    ·rw [h1] at h
     have hlen:i<l.length:=(List.getElem?_eq_some_iff.1 ho).1;have:l[e.on]?=some (l[e.on]'(by omega)):=List.getElem?_eq_getElem (by omega);exact ih e.on hlt _ j this (hS e.on _ hSe this) h
    ·rw [h1] at h;simp at h
def a0B (ops:Array Oper) (l:List Oper) (B:List Nat) (n sz i:Nat) (o:Oper):Bool :=
 let m:=B.getD i 0
 let ls:=o.looksAt ops
 o.after.toList.all (λ e=>!Region.binds .any e || decide (e.on<i)) &&
 (match o.dst with|some d=>decide (d<sz)|none=>true) &&
 (decide (i<n) || (List.range i).all (λ j=>m.testBit j)) &&
 l.zipIdx.all (λ (oj,j)=>match oj.dst with
  | none=>true
  | some d =>
    (j == i || o.dst != some d) &&
    (!ls.contains d || (j != i && (if j<i then m.testBit j else (B.getD j 0).testBit i))))
def okR (l:List Oper) (n sz:Nat):Bool :=
 let B:=ekA l []
 l.zipIdx.all λ (o,i)=>a0B l.toArray l B n sz i o
structure OkR (l:List Oper) (n sz:Nat):Prop where
 back:∀ (i:Nat) (o:Oper),l[i]?=some o→∀ e ∈ o.after,Region.binds .any e=true→e.on<i
 dst:∀ (i:Nat) (o:Oper) (d:Nat),l[i]?=some o→o.dst=some d→d<sz
 tail:∀ (i:Nat) (o:Oper),l[i]?=some o→n≤i→∀ j,j<i→((ekA l []).getD i 0).testBit j=true
 uniq:∀ (i:Nat) (o:Oper) (j:Nat) (oj:Oper) (d:Nat),l[i]?=some o→l[j]?=some oj→oj.dst=some d→o.dst=some d→j=i
 look:∀ (i:Nat) (o:Oper) (j:Nat) (oj:Oper) (d:Nat),l[i]?=some o→l[j]?=some oj→oj.dst=some d→d ∈ o.looksAt l.toArray→j≠i∧(j<i→((ekA l []).getD i 0).testBit j=true)∧(i<j→((ekA l []).getD j 0).testBit i=true)
theorem njA {l:List Oper} {n sz:Nat} (h:okR l n sz=true):OkR l n sz:=by
 unfold okR at h;simp only [List.all_eq_true] at h;have H:∀ i o,l[i]?=some o→a0B l.toArray l (ekA l []) n sz i o=true:=λ i o ho=>by
  have:=h (o,i) (by
   rw [List.mem_zipIdx_iff_getElem?];exact ho)
  exact this
 have Z:∀ i o,l[i]?=some o→∀ j oj,l[j]?=some oj→∀ d,oj.dst=some d→(j == i || o.dst != some d)=true ∧
  (!(o.looksAt l.toArray).contains d || (j != i && (if j<i then ((ekA l []).getD i 0).testBit j else ((ekA l []).getD j 0).testBit i)))=true:=by
  intro i o ho j oj hj d hd;have h1:=H i o ho;simp only [a0B,Bool.and_eq_true,List.all_eq_true] at h1;have h2:=h1.2 (oj,j) (by rw [List.mem_zipIdx_iff_getElem?];exact hj);simp only [hd,Bool.and_eq_true] at h2;exact h2
 refine ⟨λ i o ho e he hb=>?_,λ i o d ho hd=>?_,λ i o ho hn j hj=>?_,λ i o j oj d ho hj hd hd'=>?_,λ i o j oj d ho hj hd hl=>?_⟩
 ·have h1:=H i o ho
  simp only [a0B,Bool.and_eq_true,List.all_eq_true] at h1;have:=h1.1.1.1 e (by simpa using he)
  simpa [hb] using this
 ·have h1:=H i o ho
  simp only [a0B,Bool.and_eq_true] at h1;have:=h1.1.1.2
  simpa [hd] using this
 ·have h1:=H i o ho
  simp only [a0B,Bool.and_eq_true,Bool.or_eq_true,decide_eq_true_eq,List.all_eq_true,List.mem_range] at h1
  rcases h1.1.2 with h|h
  ·omega
  ·exact h j hj
 ·have:=(Z i o ho j oj hj d hd).1
  simpa [hd'] using this
 ·have:=(Z i o ho j oj hj d hd).2
  have hc:(o.looksAt l.toArray).contains d=true:=by simpa using hl
  simp only [hc,Bool.not_true,Bool.false_or,Bool.and_eq_true,bne_iff_ne,ne_eq] at this;refine ⟨this.1,λ hlt=>?_,λ hlt=>?_⟩
  ·have h2:=this.2;rw [if_pos hlt] at h2;exact h2
  ·have h2:=this.2;rw [if_neg (by omega)] at h2;exact h2
structure Inv (l:List Oper) (E0:Env) (Φ:Nat→AD) (N:Nn) (wb:World) (S:Nat→Prop) (a:Act) (w:World):Prop where
 sz:a.tmps.size=N.n
 df:a.defers=N.ds
 ext:Ext wb w
 cl:∀ j o,S j→l[j]?=some o→∀ e ∈ o.after,Region.binds .any e=true→S e.on
 fx:∀ (j:Nat) (o:Oper) (d:Nat),S j→l[j]?=some o→o.dst=some d→(Φ j).ok (a.tmps.getD d undef) w
 un:∀ t:Nat,(∀ (j:Nat) (o:Oper),S j→l[j]?=some o→o.dst≠some t)→(lkE E0 t).ok (a.tmps.getD t undef) w
theorem onA (ops:Array Oper) (tmps:Array Value) (j g:Nat) (h:(ops[j]?).bind (·.dst)=some g):yielded ops tmps j=match tmps.getD g undef with|.bool b=>some b|_=>none:=by
 unfold yielded;rw [h];simp only [Option.bind_some,Array.getD_eq_getD_getElem?];cases tmps[g]? with
 | none=>simp [undef]
 | some u=>cases u <;> rfl
theorem g4A {l:List Oper} {E:Env} {o:Oper} {b:Bool} {tmps:Array Value} {w:World} (hg:bmA l E o.guard=some b)
 (h:∀ j c g,o.guard=some (j,c)→mkA l j=some g→(lkE E g).ok (tmps.getD g undef) w):Region.wanted o (yielded l.toArray tmps)=b:=by
 unfold bmA at hg;unfold Region.wanted;cases hgd:o.guard with
 | none=>rw [hgd] at hg;simpa using hg
 | some jc =>
   obtain ⟨j,c⟩:=jc;rw [hgd] at hg;simp only at hg ⊢;cases hd:mkA l j with
   | none=>rw [hd] at hg;simp at hg
   | some g =>
     rw [hd] at hg;simp only at hg;have hl:=h j c g hgd hd;have hy:=onA l.toArray tmps j g (by rw [koA] at hd;simpa using hd)
     split at hg
     ·rename_i hlk;rw [hlk] at hl;simp only [AD.ok] at hl;rw [hy,hl]
      simp only [Option.some.injEq] at hg;subst hg;cases c <;> rfl
     ·rename_i hlk;rw [hlk] at hl;simp only [AD.ok] at hl;rw [hy,hl]
      simp only [Option.some.injEq] at hg;subst hg;cases c <;> rfl
     ·rename_i hlk;rw [hlk] at hl;simp only [AD.ok] at hl;rw [hy,hl]
      simp only [Option.some.injEq] at hg;subst hg;cases c <;> rfl
     ·cases hg
section
variable {P:Program} {l:List Oper} {n:Nat} {N:Nn} {E0:Env} {Φ:Nat→AD} {wb:World} {Q:Exit→Act→World→Prop} {S:Nat→Prop} {a:Act} {w:World}
theorem Inv.opnd (hok:OkR l n N.n) (hI:Inv l E0 Φ N wb S a w) {i:Nat} {o:Oper} (ho:l[i]?=some o) (hun:¬ S i) (hr:∀ e ∈ o.after,Region.binds .any e=true→S e.on)
 {t:Nat} (ht:t ∈ o.looksAt l.toArray):(lkE (env l E0 Φ i) t).ok (a.tmps.getD t undef) w:=by
 by_cases hw:∃ j oj,j<i∧l[j]?=some oj∧oj.dst=some t
 ·obtain ⟨j,oj,hj,hoj,hd⟩:=hw
  rw [eaA l E0 Φ t j oj hoj hd i hj (λ k o' h1 h2 h3 h4=>by have:=hok.uniq k o' j oj t h3 hoj hd h4;omega)];have hb:=(hok.look i o j oj t ho hoj hd ht).2.1 hj;exact hI.fx j oj t (cuA l S hI.cl i o j ho hr hb) hoj hd
 ·rw [ebA l E0 Φ t i (λ j o' h1 h2 h3=>hw ⟨j,o',h1,h2,h3⟩)]
  refine hI.un t (λ j oj hj hoj hd=>?_);have h1:=hok.look i o j oj t ho hoj hd ht;have hji:¬ j<i:=λ h=>hw ⟨j,oj,h,hoj,hd⟩
  have hb:=h1.2.2 (by have:=h1.1;omega);exact hun (cuA l S hI.cl j oj i hoj (hI.cl j oj hj hoj) hb)
theorem Inv.step (hok:OkR l n N.n) (hI:Inv l E0 Φ N wb S a w) {i:Nat} {o:Oper} (ho:l[i]?=some o) (hun:¬ S i)
 (hr:∀ e ∈ o.after,Region.binds .any e=true→S e.on) {w':World} (hw:Ext w w') {v:Value} (hv:(Φ i).ok v w'):Inv l E0 Φ N wb (λ j=>S j∨j=i) (a.put o.dst v) w':=by
 have put_t:∀ t,(a.put o.dst v).tmps.getD t undef=if o.dst=some t then v else a.tmps.getD t undef:=λ t=>by
  cases hd:o.dst with
  | none=>simp [Act.put]
  | some d =>
    rw [jtA a d t v (by rw [hI.sz];exact hok.dst i o d ho hd)]
    by_cases e:t=d
    ·simp [e]
    ·rw [if_neg e,if_neg (by simpa using λ h=>e h.symm)]
 refine ⟨?_,?_,hI.ext.trans hw,?_,?_,?_⟩
 ·cases hd:o.dst <;> simp [Act.put,hI.sz]
 ·cases hd:o.dst <;> simp [Act.put,hI.df]
 ·rintro j oj (hj|rfl) hoj e he hb
  ·exact .inl (hI.cl j oj hj hoj e he hb)
  ·rw [ho] at hoj;obtain rfl:=Option.some.inj hoj;exact .inl (hr e he hb)
 ·rintro j oj d (hj|rfl) hoj hd
  ·rw [put_t,if_neg (λ h=>by have:=hok.uniq i o j oj d ho hoj hd h;subst this;exact hun hj)]
   exact (Φ j).mono hw (hI.fx j oj d hj hoj hd)
  ·rw [ho] at hoj;obtain rfl:=Option.some.inj hoj
   rw [put_t,if_pos hd];exact hv
 ·intro t ht
  rw [put_t,if_neg (ht i o (.inr rfl) ho)];exact (lkE E0 t).mono hw (hI.un t (λ j oj hj=>ht j oj (.inl hj)))
theorem pnA {E:Env} {o:Oper} {r:AD} (hs:Stp P l wb E o r) (hext:Ext wb w) (hop:∀ t,t ∈ o.looksAt l.toArray→(lkE E t).ok (a.tmps.getD t undef) w) {K:Act→World→Prop}
 (hK:∀ v w',Ext w w'→r.ok v w'→K (a.put o.dst v) w') :
 (if Region.wanted o (yielded l.toArray a.tmps) then o.wp P a w K Q∨(o.asks P a w∧LetsOut Q) else K (a.put o.dst undef) w):=by
 have gl:∀ j c g,o.guard=some (j,c)→mkA l j=some g→(lkE E g).ok (a.tmps.getD g undef) w:=λ j c g h1 h2=>hop g (by
  rw [koA] at h2;simp only [Oper.looksAt,h1];exact List.mem_append_right _ (by simpa using h2))
 rcases hs with ⟨hg,hob⟩|⟨hg,rfl⟩
 ·rw [g4A (w:=w) hg gl,if_pos rfl]
  refine .inl ?_
  have hy:=hob a w hext (λ x hx=>by
   cases x with
   | tmp t=>exact hop t (by simp only [Oper.looksAt];exact List.mem_append_left _ (List.mem_filterMap.2 ⟨.tmp t,by simpa using hx,rfl⟩))
   | const v=>rfl
   | global g=>rfl
   | func f=>rfl)
  unfold Oper.wp
  generalize (execOp a.eval o).run P w=res at hy
  cases res with
  | ok nx w' =>
    cases nx <;> simp only [Yld] at hy
    case value v=>exact hK _ _ hy.1 hy.2
    case enter f args =>
     obtain ⟨rfl,hcall⟩:=hy;refine hcall.mono ?_
     rintro e w'' ⟨v,rfl,he,hv⟩;exact hK _ _ he hv
  | halt x w'=>simp only [Yld] at hy
 ·rw [g4A (w:=w) hg gl]
  simp only [Bool.false_eq_true,if_false];exact hK _ _ (Ext.refl _) rfl
theorem n3A:∀ (fuel k:Nat) (listed:Array Bool) (a:Act) (w:World),(∀ i o,l[i]?=some o→k≤i→∀ j,j<i→((ekA l []).getD i 0).testBit j=true)→(∀ i o,l[i]?=some o→∀ e ∈ o.after,Region.binds .any e=true→e.on<i) →
 fuel+k=l.length→listed.size=l.length→(∀ j,j<l.length→listed.getD j true=decide (j<k)) →
 wpList P l.toArray Q (l.drop k) a w→wpAny P .any l.toArray Q fuel listed a w
 | 0,k,listed,a,w,htail,hback,hk,hsz,hl,h=>by
   have hk:k=l.length:=by omega
   rw [hk,List.drop_length] at h;refine ⟨?_,h⟩;rw [List.eq_nil_iff_forall_not_mem];intro j hj;obtain ⟨h1,o,ho,_⟩:=mem_ready.1 hj;have hjl:j<l.length:=by have:=(Array.getElem?_eq_some_iff.1 ho).1;simpa using this
   rw [hl j hjl] at h1;simp at h1;omega
 | fuel+1,k,listed,a,w,htail,hback,hk,hsz,hl,h=>by
   have hlt:k<l.length:=by omega
   have hfalse:∀ j,j<l.length→listed.getD j false=decide (j<k):=λ j hj=>by
    rw [← hl j hj];simp [Array.getD,hsz,hj]
   have hcl:∀ j o,(listed.getD j false=true)→l[j]?=some o→∀ e ∈ o.after,Region.binds .any e=true→listed.getD e.on false=true:=λ j o hj ho e he hb=>by
    have hjl:j<l.length:=(List.getElem?_eq_some_iff.1 ho).1;rw [hfalse j hjl] at hj;have:=hback j o ho e he hb;rw [hfalse e.on (by omega)];simp at hj ⊢;omega
   have honly:∀ i,i ∈ Region.ready .any l.toArray listed→i=k:=λ i hi=>by
    obtain ⟨h1,o,ho,he⟩:=mem_ready.1 hi;have hil:i<l.length:=by have:=(Array.getElem?_eq_some_iff.1 ho).1;simpa using this
    have ho':l[i]?=some o:=by simpa using ho
    rw [hl i hil] at h1;have hki:k≤i:=by simpa using h1
    rcases Nat.lt_or_ge k i with hlt' | hge
    ·have:=cuA l (λ j=>listed.getD j false=true) hcl i o k ho' he (htail i o ho' hki k hlt')
     rw [hfalse k hlt] at this;simp at this
    ·omega
   have hready:k ∈ Region.ready .any l.toArray listed:=by
    refine mem_ready.2 ⟨by rw [hl k hlt];simp,l[k],by simp [hlt],λ e he hb=>?_⟩;have:=hback k l[k] (List.getElem?_eq_getElem hlt) e he hb;rw [hfalse e.on (by omega)];simpa using this
   refine ⟨λ h0=>(by rw [h0] at hready;cases hready),λ i hi=>?_⟩;obtain rfl:=honly i hi;rw [List.drop_eq_getElem_cons hlt] at h;unfold wpOp;rw [show l.toArray[i]?=some l[i] by simp [hlt]];simp only [wpList] at h;have hrec:∀ a' w',wpList P l.toArray Q (l.drop (i+1)) a' w'→wpAny P .any l.toArray Q fuel (listed.setIfInBounds i true) a' w':=λ a' w' h' =>
    n3A fuel (i+1) _ a' w' (λ i' o h1 h2=>htail i' o h1 (by omega)) hback (by omega) (by simpa using hsz) (λ j hj=>by
     by_cases e:j=i
     ·subst e;simp [Array.getD,hsz,hj]
     ·have h1:=hl j hj
      have h2:(listed.setIfInBounds i true).getD j true=listed.getD j true:=by
       simp only [Array.getD_eq_getD_getElem?];rw [Array.getElem?_setIfInBounds_ne (by omega)]
      rw [h2,h1];simp;omega) h'
   split at h
   ·rename_i hw;simp only [hw,if_true];exact h.imp (Oper.wp_mono hrec) id
   ·rename_i hw;simp only [hw];exact hrec _ _ h
theorem bwB (hok:OkR l n N.n) (hn:n≤l.length) (hs:∀ i o,i<n→l[i]?=some o→Stp P l wb (env l E0 Φ i) o (Φ i))
 (hK:∀ a w,Inv l E0 Φ N wb (λ j=>j<n) a w→wpList P l.toArray Q (l.drop n) a w) :
 ∀ (fuel:Nat) (listed:Array Bool) (a:Act) (w:World),listed.size=l.length→(listed.toList.filter (!·)).length=fuel→(∀ j,listed.getD j false=true→j<n) →
  Inv l E0 Φ N wb (λ j=>listed.getD j false=true) a w→wpAny P .any l.toArray Q fuel listed a w:=by
 intro fuel
 have allListed:∀ (listed:Array Bool) (a:Act) (w:World),listed.size=l.length→(∀ j,listed.getD j false=true→j<n)→Inv l E0 Φ N wb (λ j=>listed.getD j false=true) a w →
  (∀ j,j<n→listed.getD j false=true)→Inv l E0 Φ N wb (λ j=>j<n) a w:=λ listed a w hsz hSn hI hall=>by
  have e:(λ j=>listed.getD j false=true)=(λ j=>j<n):=funext λ j=>propext ⟨hSn j,hall j⟩
  rwa [e] at hI
 induction fuel with
 | zero =>
   intro listed a w hsz hf hSn hI;have hall:∀ j,j<l.length→listed.getD j true=true∧listed.getD j false=true:=λ j hj=>by
    have h0:listed.toList.filter (!·)=[]:=List.eq_nil_of_length_eq_zero hf;rw [List.filter_eq_nil_iff] at h0;have hj':j<listed.size:=by omega
    have:=h0 listed[j] (by simp);simp only [Bool.not_eq_true',Bool.not_eq_false] at this;simp [Array.getD,hj',this]
   have hnl:n=l.length:=by
    rcases Nat.lt_or_ge n l.length with h|h
    ·have:=hSn n (hall n h).2;omega
    ·omega
   have hQ:=hK a w (allListed listed a w hsz hSn hI (λ j hj=>(hall j (by omega)).2));rw [hnl,List.drop_length] at hQ;refine ⟨?_,hQ⟩;rw [List.eq_nil_iff_forall_not_mem];intro j hj;obtain ⟨h1,o,ho,_⟩:=mem_ready.1 hj;have hjl:j<l.length:=by have:=(Array.getElem?_eq_some_iff.1 ho).1;simpa using this
   rw [(hall j hjl).1] at h1;cases h1
 | succ fuel ih =>
   intro listed a w hsz hf hSn hI;have hun:∃ i,i<l.length∧listed.getD i false=false∧∀ j,j<i→listed.getD j false=true:=by
    have:∃ i,i<l.length∧listed.getD i false=false:=by
     apply Classical.byContradiction
     intro hno;have:listed.toList.filter (!·)=[]:=by
      rw [List.filter_eq_nil_iff];intro b hb;obtain ⟨i,hi,rfl⟩:=List.getElem_of_mem hb;have hi':i<listed.size:=by simpa using hi
      have h2:listed.getD i false≠false:=λ h=>hno ⟨i,by omega,h⟩
      simp [Array.getD,hi'] at h2
      simp [h2]
     rw [this] at hf;simp at hf
    obtain ⟨i,hi,hli⟩:=this;have:∀ m,(∃ i,i<m∧i<l.length∧listed.getD i false=false)→∃ i,i<l.length∧listed.getD i false=false∧∀ j,j<i→listed.getD j false=true:=by
     intro m
     induction m with
     | zero=>rintro ⟨i,h,_⟩;omega
     | succ m ihm =>
       rintro ⟨i,h1,h2,h3⟩
       by_cases hex:∃ i,i<m∧i<l.length∧listed.getD i false=false
       ·exact ihm hex
       ·refine ⟨i,h2,h3,λ j hj=>?_⟩
        have hj2:listed.getD j false≠false:=λ h=>hex ⟨j,by omega,by omega,h⟩
        simpa using hj2
    exact this (i+1) ⟨i,by omega,hi,hli⟩
   refine ⟨λ h0=>?_,λ i hi=>?_⟩
   ·obtain ⟨i,hil,hli,hlow⟩:=hun
    have:i ∈ Region.ready .any l.toArray listed:=by
     refine mem_ready.2 ⟨by have h':i<listed.size:=by omega
                            simp [Array.getD,h'] at hli ⊢;exact hli,l[i],by simp [hil],λ e he hb=>hlow _ (hok.back i l[i] (List.getElem?_eq_getElem hil) e he hb)⟩
    rw [h0] at this;cases this
   ·obtain ⟨h1,o,ho,he⟩:=mem_ready.1 hi
    have hil:i<l.length:=by have:=(Array.getElem?_eq_some_iff.1 ho).1;simpa using this
    have ho':l[i]?=some o:=by simpa using ho
    have hli:¬ (listed.getD i false=true):=by
     have h':i<listed.size:=by omega
     simp [Array.getD,h'] at h1 ⊢;exact h1
    have hset:∀ j,(listed.setIfInBounds i true).getD j false=true↔(listed.getD j false=true∨j=i):=λ j=>by
     simp only [Array.getD_eq_getD_getElem?]
     by_cases e:j=i
     ·subst e;simp [hsz,hil]
     ·rw [Array.getElem?_setIfInBounds_ne (by omega)];simp [e]
    have hcount:((listed.setIfInBounds i true).toList.filter (!·)).length=fuel:=by
     have hi':i<listed.toList.length:=by simp;omega
     have e1:listed.toList=listed.toList.take i++false::listed.toList.drop (i+1):=by
      conv=>lhs;rw [← List.take_append_drop i listed.toList,List.drop_eq_getElem_cons hi']
      have:listed.toList[i]=false:=by
       have h':i<listed.size:=by omega
       simp [Array.getD,h'] at hli;simpa using hli
      rw [this]
     have e2:(listed.setIfInBounds i true).toList=listed.toList.take i++true::listed.toList.drop (i+1):=by
      rw [Array.toList_setIfInBounds,List.set_eq_take_append_cons_drop,if_pos hi']
     rw [e1] at hf;rw [e2];simp [List.filter_append] at hf ⊢;omega
    by_cases hin:i<n
    ·unfold wpOp
     simp only [ho];refine pnA (hs i o hin ho') hI.ext (λ t ht=>hI.opnd hok ho' hli he ht) (λ v w' he' hv=>?_);have hI':=hI.step hok ho' hli he he' hv;refine ih _ _ w' (by simpa using hsz) hcount (λ j hj=>?_) ?_
     ·rcases (hset j).1 hj with h|h
      ·exact hSn j h
      ·omega
     ·have e:(λ j=>(listed.setIfInBounds i true).getD j false=true)=(λ j=>listed.getD j false=true∨j=i):=funext λ j=>propext (hset j)
      rw [e];exact hI'
    ·have hall:∀ j,j<i→listed.getD j false=true:=λ j hj =>
      cuA l (λ j=>listed.getD j false=true) hI.cl i o j ho' he (hok.tail i o ho' (by omega) j hj)
     have hin':i=n:=by
      rcases Nat.lt_or_ge n i with h|h
      ·have:=hSn n (hall n h);omega
      ·omega
     have hQ:=hK a w (allListed listed a w hsz hSn hI (λ j hj=>hall j (by omega)));have hdec:∀ j,j<l.length→listed.getD j true=decide (j<n):=λ j hj=>by
      have hj':j<listed.size:=by omega
      by_cases h:j<n
      ·have:=hall j (by omega);simp [Array.getD,hj',h] at this ⊢;exact this
      ·have:¬ (listed.getD j false=true):=λ h'=>h (hSn j h')
       simp [Array.getD,hj',h] at this ⊢;exact this
     have hfl:fuel+1=l.length-n:=by
      have e:listed.toList=(List.range l.length).map (λ j=>decide (j<n)):=by
       apply List.ext_getElem
       ·simp [hsz]
       ·intro j h1 h2
        have hj:j<l.length:=by simpa using h2
        have:=hdec j hj;have hj':j<listed.size:=by omega
        simp [Array.getD,hj'] at this
        simp [this]
      rw [e] at hf;rw [← hf];have:∀ m:Nat,(((List.range m).map (λ j=>decide (j<n))).filter (!·)).length=m-n:=by
       intro m
       induction m with
       | zero=>simp
       | succ m ihm =>
         rw [List.range_succ,List.map_append,List.filter_append,List.length_append,ihm]
         by_cases h:m<n <;> simp [h] <;> omega
      exact this l.length
     have:=n3A (fuel+1) n listed a w (λ i o h1 h2=>hok.tail i o h1 h2) hok.back (by omega) hsz hdec hQ;exact this.2 i hi
theorem Inv.st (hok:OkR l n N.n) (hI:Inv l E0 Φ N wb (λ j=>j<n) a w):St N wb (env l E0 Φ n) a w:=by
 refine ⟨hI.sz,hI.df,hI.ext,λ t=>?_⟩
 by_cases hw:∃ j oj,j<n∧l[j]?=some oj∧oj.dst=some t
 ·obtain ⟨j,oj,hj,hoj,hd⟩:=hw
  rw [eaA l E0 Φ t j oj hoj hd n hj (λ k o' h1 h2 h3 h4=>by have:=hok.uniq k o' j oj t h3 hoj hd h4;omega)];exact hI.fx j oj t hj hoj hd
 ·rw [ebA l E0 Φ t n (λ j o' h1 h2 h3=>hw ⟨j,o',h1,h2,h3⟩)]
  exact hI.un t (λ j oj hj hoj hd=>hw ⟨j,oj,hj,hoj,hd⟩)
def CX (P:Program) (N:Nn) (wb:World) (c:Code) (E:Env) (Q:Exit→Act→World→Prop):Prop:=∀ a w,St N wb E a w→c.wp P Q a w
def PX (N:Nn) (wb:World) (Q:Exit→Act→World→Prop) (e:Exit) (E:Env):Prop:=∀ a w,St N wb E a w→Q e a w
def LX (P:Program) (N:Nn) (wb:World) (l:List Oper) (Q:Exit→Act→World→Prop) (rest:List Oper) (E:Env):Prop:=∀ a w,St N wb E a w→wpList P l.toArray Q rest a w
theorem jqA (n:Nat) {id:Nat} {E:Env} (hP:P.follows .mixedOrders=true) (hok:okR l n N.n=true) (hn:n≤l.length)
 (h:LA P l wb (λ rest E=>rest.length=l.length-n∧LX P N wb l Q rest E) l E):CX P N wb (.region id l.toArray true) E Q:=by
 intro a w hst;have hok':=njA hok;obtain ⟨Φ,n',-,hn',-,h2,hlen,h3⟩:=zoA l E l.length 0 (λ _=>.any) (by omega) h;obtain rfl:n'=n:=by simp at hlen;omega
 refine wp_region_any hP ?_
 rw [List.size_toArray];refine bwB (E0:=E) (wb:=wb) (N:=N) hok' hn (λ i o hi ho=>h2 i o (Nat.zero_le _) hi ho) (λ a w' hI=>h3 a w' (hI.st hok')) _ _ _ _ (by simp) (by simp) (λ j hj=>?_) ?_
 ·simp [Array.getD_eq_getD_getElem?,Array.getElem?_replicate] at hj
  split at hj <;> cases hj
 ·refine ⟨hst.sz,hst.df,hst.ext.trans Ext.drawn,?_,?_,λ t _=>(lkE E t).mono Ext.drawn (hst.sat t)⟩
  ·intro j o hj;simp [Array.getD_eq_getD_getElem?,Array.getElem?_replicate] at hj;split at hj <;> cases hj
  ·intro j o d hj;simp [Array.getD_eq_getD_getElem?,Array.getElem?_replicate] at hj;split at hj <;> cases hj
def okD (l:List Oper) (N:Nat):Bool:=l.all λ o=>match o.dst with|some d=>decide (d<N)|none=>true
theorem ogA {m:List Oper} (hd:okD m N.n=true):∀ {E:Env},LA P l wb (λ rest E=>LX P N wb l Q rest E) m E→LX P N wb l Q m E:=by
 induction m with
 | nil=>intro E h;exact h
 | cons o rest ih =>
   intro E h;simp only [okD,List.all_cons,Bool.and_eq_true] at hd
   rcases h with ⟨r,hs,h⟩|h
   ·intro a w hst
    simp only [wpList];refine pnA hs hst.ext (λ t _=>hst.sat t) (λ v w' he hv=>?_);refine ih hd.2 h _ _ (hst.push he (λ d hd'=>?_) (.inr hv));have:=hd.1;rw [hd'] at this;simpa using this
   ·exact h
theorem skA {K K':List Oper→Env→Prop} (hK:∀ rest E,K rest E→K' rest E):∀ {m:List Oper} {E:Env},LA P l wb K m E→LA P l wb K' m E
 | [],_,h=>hK _ _ h
 | _::_,_,.inl ⟨r,hs,h⟩=>.inl ⟨r,hs,skA hK h⟩
 | _::_,_,.inr h=>.inr (hK _ _ h)
theorem suA {id:Nat} {E:Env} (hd:okD l N.n=true) (h:∀ K:List Oper→Env→Prop,(∀ rest E,LX P N wb l Q rest E→K rest E)→LA P l wb K l E):CX P N wb (.region id l.toArray false) E Q :=
 λ a w hst=>wp_region_list (by simpa using ogA hd (h _ (λ _ _ h=>h)) a w hst)
theorem aiA {m:List Oper} {E:Env} (hd:okD m N.n=true) (h:∀ K:List Oper→Env→Prop,(∀ rest E,LX P N wb l Q rest E→K rest E)→LA P l wb K m E):LX P N wb l Q m E :=
 ogA hd (h _ (λ _ _ h=>h))
theorem p9A {id:Nat} {E:Env} (hP:P.follows .mixedOrders=true) (hok:okR l l.length N.n=true)
 (h:∀ K:List Oper→Env→Prop,(∀ E,PX N wb Q .normal E→K [] E)→LA P l wb K l E):CX P N wb (.region id l.toArray true) E Q :=
 jqA l.length hP hok (Nat.le_refl _) (skA (λ rest E h=>by
  obtain ⟨h1,h2⟩:=h;subst h1;exact ⟨by simp,h2⟩) (h (λ rest E=>rest=[]∧PX N wb Q .normal E) (λ E h=>⟨rfl,h⟩)))
theorem dxA (n:Nat) {id:Nat} {E:Env} (hP:P.follows .mixedOrders=true) (hok:okR l n N.n=true) (hn:n≤l.length)
 (h:∀ K:List Oper→Env→Prop,(∀ rest E,rest.length=l.length-n→LX P N wb l Q rest E→K rest E)→LA P l wb K l E):CX P N wb (.region id l.toArray true) E Q :=
 jqA n hP hok hn (h _ (λ _ _ h1 h2=>⟨h1,h2⟩))
theorem wsA {E:Env} (h:PX N wb Q .normal E):LX P N wb l Q [] E:=h
variable {E:Env} {x y c:Code} {id:Nat}
theorem ssA (h:CX P N wb x E (Exit.then (y.wp P Q) Q)):CX P N wb (.seq x y) E Q:=λ a w s=>wp_seq (h a w s)
theorem zwA (h:PX N wb Q .normal E):CX P N wb .skip E Q:=λ a w s=>wp_skip (h a w s)
theorem vzA {k:Nat} (h:PX N wb Q .normal E):CX P N wb (.label k) E Q:=λ a w s=>wp_label (h a w s)
theorem zyA (h:PX N wb Q (.exit id) E):CX P N wb (.exit id) E Q:=λ a w s=>wp_exit (h a w s)
theorem c7B (h:PX N wb Q .ret E):CX P N wb .ret E Q:=λ a w s=>wp_ret (h a w s)
theorem w2A (h:CX P N wb c E (Exit.inBlock id Q)):CX P N wb (.block id c) E Q:=λ a w s=>wp_block (h a w s)
theorem w0A {o:Operand} (hc:opE E o=.val (.bool true)) (h:CX P N wb x E Q):CX P N wb (.cond o x y) E Q:=λ a w s =>
 wp_cond_true (by have:=s.opd o;rw [hc] at this;exact this) (h a w s)
theorem w1A {o:Operand} (hc:opE E o=.val (.bool false)) (h:CX P N wb y E Q):CX P N wb (.cond o x y) E Q:=λ a w s =>
 wp_cond_false (by have:=s.opd o;rw [hc] at this;exact this) (h a w s)
theorem omA {o:Operand} {b:Bool} (hc:opE E o=.val (.bool b)) (hx:b=true→CX P N wb x E Q) (hy:b=false→CX P N wb y E Q):CX P N wb (.cond o x y) E Q:=λ a w s=>by
 have hv:a.eval o=.bool b:=by have:=s.opd o;rw [hc] at this;exact this
 cases b
 ·exact wp_cond_false hv (hy rfl a w s)
 ·exact wp_cond_true hv (hx rfl a w s)
theorem zkA (h:CX P N wb y E Q):PX N wb (Exit.then (y.wp P Q) Q) .normal E:=h
theorem vkA {F:Act→World→Prop} {k:Nat} (h:PX N wb Q (.exit k) E):PX N wb (Exit.then F Q) (.exit k) E:=h
theorem vlA {F:Act→World→Prop} (h:PX N wb Q .ret E):PX N wb (Exit.then F Q) .ret E:=h
theorem s6A (h:PX N wb Q .normal E):PX N wb (Exit.inBlock id Q) .normal E:=h
theorem s4A (h:PX N wb Q .ret E):PX N wb (Exit.inBlock id Q) .ret E:=h
theorem s3A (h:PX N wb Q .normal E):PX N wb (Exit.inBlock id Q) (.exit id) E:=λ a w s=>by simpa [Exit.inBlock] using h a w s
theorem s5A {k:Nat} (hk:(k == id)=false) (h:PX N wb Q (.exit k) E):PX N wb (Exit.inBlock id Q) (.exit k) E:=λ a w s=>by
 have:k≠id:=by simpa using hk
 simpa [Exit.inBlock,this] using h a w s
theorem guA {a:Act} {w:World}:∀ (E:Env),(∀ d r,(d,r) ∈ E→r.ok (a.tmps.getD d undef) w)→∀ t,(lkE E t).ok (a.tmps.getD t undef) w
 | [],_,_=>trivial
 | (d,r)::E,h,t=>by
   rw [cgA]
   by_cases e:t=d
   ·subst e;simpa using h t r (by simp)
   ·simp only [e,if_false];exact guA E (λ d r hm=>h d r (by simp [hm])) t
def Sub (wb:World) (E E':Env):Prop:=∀ d r,(d,r) ∈ E'→∀ v w,Ext wb w→(lkE E d).ok v w→r.ok v w
theorem Sub.nil:Sub wb E []:=λ _ _ hm=>by cases hm
theorem Sub.cons {E':Env} {d:Nat} {r:AD} (h:∀ v w,Ext wb w→(lkE E d).ok v w→r.ok v w) (hs:Sub wb E E'):Sub wb E ((d,r)::E'):=λ d' r' hm=>by
 simp only [List.mem_cons,Prod.mk.injEq] at hm
 rcases hm with ⟨rfl,rfl⟩|hm
 ·exact h
 ·exact hs d' r' hm
theorem Sub.same {E':Env} {d:Nat} {r:AD} (h:lkE E d=r) (hs:Sub wb E E'):Sub wb E ((d,r)::E'):=Sub.cons (λ _ _ _ hv=>h▸hv) hs
theorem Sub.val {E':Env} {d:Nat} {v v':Value} (h:lkE E d=.val v) (hv:v=v') (hs:Sub wb E E'):Sub wb E ((d,.val v')::E'):=Sub.same (hv▸h) hs
theorem Sub.st {E':Env} (h:Sub wb E E') (s:St N wb E a w):St N wb E' a w :=
 ⟨s.sz,s.df,s.ext,guA E' λ d r hm=>h d r hm _ _ s.ext (s.sat d)⟩
theorem i0A {ι:Type} (I:ι→Act→World→Prop) (μ:ι→Nat) (round:∀ i a w,I i a w→c.wp P (Exit.then (λ a' w'=>∃ i',I i' a' w'∧μ i'<μ i) Q) a w) {i0:ι} (h0:I i0 a w) :
 (Code.loop c).wp P Q a w:=by
 intro b k cs;have key:∀ n i a w,μ i=n→I i a w→∃ e a' w',Q e a' w'∧Arrives P (lone (b.at a (.code c::.inLoop c::k)) cs w) b k cs e a' w':=by
  intro n
  induction n using Nat.strongRecOn with
  | _ n ih =>
    intro i a w hn hI;obtain ⟨e,a₁,w₁,hq,harr⟩:=round i a w hI b (.inLoop c::k) cs;cases e with
    | normal =>
      obtain ⟨i',hI₁,hlt⟩:=hq;obtain ⟨e₂,a₂,w₂,hq₂,harr₂⟩:=ih (μ i') (hn▸hlt) i' a₁ w₁ rfl hI₁;exact ⟨e₂,a₂,w₂,hq₂,.of_steps (Steps.trans harr (.one step_inLoop)) harr₂⟩
    | exit id=>exact ⟨_,a₁,w₁,hq,.pass (x:=.inLoop c) rfl (λ _ _=>.inl (by simp)) harr⟩
    | goto l=>exact ⟨_,a₁,w₁,hq,.pass (x:=.inLoop c) rfl (λ _ _=>.inl (by simp)) harr⟩
    | ret=>exact ⟨_,a₁,w₁,hq,.pass (x:=.inLoop c) rfl (λ _ _=>.inl (by simp)) harr⟩
    | panic ch=>exact ⟨_,a₁,w₁,hq,.pass (x:=.inLoop c) rfl (λ _ _=>.inl (by simp)) harr⟩
    | outgrown=>exact ⟨_,a₁,w₁,hq,.pass (x:=.inLoop c) rfl (λ _ _=>.inl (by simp)) harr⟩
 obtain ⟨e,a',w',hq,harr⟩:=key _ i0 a w rfl h0;exact ⟨e,a',w',hq,.of_steps (.one step_loop) harr⟩
def Rnd {ι:Type} (N:Nn) (wb:World) (J:ι→Env) (C:ι→Prop) (μ:ι→Nat) (m:Nat):Act→World→Prop:=λ a w=>∃ i,(C i∧St N wb (J i) a w)∧μ i<m
theorem b5A {ι:Type} (J:ι→Env) (C:ι→Prop) (μ:ι→Nat) (i0:ι) (h0:C i0) (hs:Sub wb E (J i0))
 (hr:∀ i,C i→CX P N wb c (J i) (Exit.then (Rnd N wb J C μ (μ i)) Q)):CX P N wb (.loop c) E Q:=λ _ _ s =>
 i0A (λ i a w=>C i∧St N wb (J i) a w) μ (λ i a w h=>hr i h.1 a w h.2) ⟨h0,hs.st s⟩
theorem bpA {ι:Type} {J:ι→Env} {C:ι→Prop} {μ:ι→Nat} {m:Nat} (i:ι) (h0:C i) (hm:μ i<m) (hs:Sub wb E (J i)):PX N wb (Exit.then (Rnd N wb J C μ m) Q) .normal E :=
 λ _ _ s=>⟨i,⟨h0,hs.st s⟩,hm⟩
def RndW {ι:Type} (N:Nn) (J:ι→Env) (I:ι→World→Prop) (μ:ι→Nat) (m:Nat):Act→World→Prop:=λ a w=>∃ i,(I i w∧St N w (J i) a w)∧μ i<m
theorem St.rebase (s:St N wb E a w):St N w E a w:=⟨s.sz,s.df,Ext.refl _,s.sat⟩
theorem St.pick {t:Nat} (s:St N wb E a w):St N w ((t,.val (a.tmps.getD t undef))::E) a w :=
 ⟨s.sz,s.df,Ext.refl _,λ u=>by
  rw [cgA]
  split
  ·rename_i h;subst h;rfl
  ·exact s.sat u⟩
theorem e4A (t:Nat) {φ:AV} (hl:lkE E t=.pred φ) (h:∀ v w,Ext wb w→φ.p v w→CX P N w c ((t,.val v)::E) Q):CX P N wb c E Q:=λ a w s =>
 h _ w s.ext (by have:=s.sat t;rw [hl] at this;exact this) a w s.pick
theorem dfA (t:Nat) {φ:AV} {e:Exit} (hl:lkE E t=.pred φ) (h:∀ v w,Ext wb w→φ.p v w→PX N w Q e ((t,.val v)::E)):PX N wb Q e E:=λ a w s =>
 h _ w s.ext (by have:=s.sat t;rw [hl] at this;exact this) a w s.pick
theorem bkA (t:Nat) {φ:AV} {rest:List Oper} (hl:lkE E t=.pred φ) (h:∀ v w,Ext wb w→φ.p v w→LX P N w l Q rest ((t,.val v)::E)):LX P N wb l Q rest E:=λ a w s =>
 h _ w s.ext (by have:=s.sat t;rw [hl] at this;exact this) a w s.pick
theorem agA {ι:Type} (J:ι→Env) (I:ι→World→Prop) (μ:ι→Nat) (h0:∀ w,Ext wb w→∃ i,I i w∧Sub wb E (J i))
 (hr:∀ i w,I i w→CX P N w c (J i) (Exit.then (RndW N J I μ (μ i)) Q)):CX P N wb (.loop c) E Q:=λ a w s=>by
 obtain ⟨i,h1,h2⟩:=h0 w s.ext;exact i0A (λ i a w=>I i w∧St N w (J i) a w) μ (λ i a w h=>hr i w h.1 a w h.2) ⟨h1,(h2.st s).rebase⟩
theorem a6A {ι:Type} {J:ι→Env} {I:ι→World→Prop} {μ:ι→Nat} {m:Nat} (i:ι) (h0:∀ w,Ext wb w→I i w) (hm:μ i<m) (hs:Sub wb E (J i)) :
 PX N wb (Exit.then (RndW N J I μ m) Q) .normal E:=λ _ w s=>⟨i,⟨h0 w s.ext,(hs.st s).rebase⟩,hm⟩
variable {kN:Nat}
def lxA:List Value→Nat→Env
 | [],_=>[]
 | v::r,i=>(i,.val v)::lxA r (i+1)
theorem lwA (tmps:Array Value):∀ (args:List Value) (i:Nat),(∀ k v,args[k]?=some v→tmps.getD (i+k) undef=v)→∀ d r,(d,r) ∈ lxA args i→∀ w,r.ok (tmps.getD d undef) w
 | [],_,_,_,_,hm,_=>by cases hm
 | v::args,i,h,d,r,hm,w=>by
   simp only [lxA,List.mem_cons,Prod.mk.injEq] at hm
   rcases hm with ⟨rfl,rfl⟩|hm
   ·exact h 0 v rfl
   ·exact lwA tmps args (i+1) (λ k v hk=>by have:=h (k+1) v (by simpa using hk);rw [← this];congr 1;omega) d r hm w
def Ret (w:World) (r:AD):Ending→World→Prop:=λ e w'=>∃ v,e=.returned v∧Ext w w'∧r.ok v w'
theorem v6A {f:FuncId} {fn:Func} {args:List Value} {R:Ending→World→Prop} (hf:P.funcs[f]?=some fn) (hb:fn.body=some c) (hn:fn.ntmps=kN) (hle:args.length≤kN)
 (h:CX P ⟨kN,[]⟩ w c (lxA args 0) (bodyPost P fn R)):Calls P f args.toArray w R:=by
 refine calls_of_wp hf hb (h _ _ ⟨?_,rfl,Ext.refl _,?_⟩)
 ·simp [hn];omega
 ·refine guA _ (λ d r hm=>lwA _ args 0 (λ k v hk=>?_) d r hm w)
  have hlt:=(List.getElem?_eq_some_iff.1 hk).1;have hv:=(List.getElem?_eq_some_iff.1 hk).2;simp only [Nat.zero_add,Array.getD_eq_getD_getElem?];rw [Array.getElem?_append_left (by simpa using hlt)];simp [hlt,hv]
theorem c6A {fn:Func} {R:Ending→World→Prop} {t:Nat} (hr:fn.results=#[.tmp t]) (h:∀ v w,Ext wb w→(lkE E t).ok v w→R (.returned v) w):PX ⟨kN,[]⟩ wb (bodyPost P fn R) .ret E :=
 λ _ _ s=>⟨s.df,_,results_tmp hr _ _ _,h _ _ s.ext (s.sat t)⟩
theorem e2A {fn:Func} {R:Ending→World→Prop} {t u:Nat} (hr:fn.results=#[.tmp t,.tmp u]) (h:∀ x y w,Ext wb w→(lkE E t).ok x w→(lkE E u).ok y w→R (.returned (.tuple #[x,y])) w):PX ⟨kN,[]⟩ wb (bodyPost P fn R) .ret E :=
 λ _ _ s=>⟨s.df,_,results_tmp2 hr _ _ _,h _ _ _ s.ext (s.sat t) (s.sat u)⟩
theorem zlA {fn:Func} {t:Nat} {c:Value} {w0:World} {r:AD} (hr:fn.results=#[.tmp t]) (hl:lkE E t=.val c) (he:Ext w0 wb) (hc:∀ w,Ext wb w→r.ok c w):PX ⟨kN,[]⟩ wb (bodyPost P fn (Ret w0 r)) .ret E :=
 c6A hr λ v w e hv=>by
  rw [hl] at hv;have hv:v=c:=hv;exact ⟨v,rfl,he.trans e,hv▸hc w e⟩
theorem a9A {fn:Func} {t:Nat} {c c':Value} {w0:World} (hr:fn.results=#[.tmp t]) (hl:lkE E t=.val c) (he:Ext w0 wb) (hc:c=c'):PX ⟨kN,[]⟩ wb (bodyPost P fn (Ret w0 (.val c'))) .ret E :=
 zlA hr hl he λ _ _=>hc
theorem ajA {fn:Func} {t:Nat} {w0:World} {r r':AD} (hr:fn.results=#[.tmp t]) (hl:lkE E t=r') (he:Ext w0 wb) (hc:∀ v w,Ext wb w→r'.ok v w→r.ok v w):PX ⟨kN,[]⟩ wb (bodyPost P fn (Ret w0 r)) .ret E :=
 c6A hr λ v w e hv=>⟨v,rfl,he.trans e,hc v w e (hl▸hv)⟩
theorem bgA {fn:Func} {t u:Nat} {c c' b b':Value} {w0:World} (hr:fn.results=#[.tmp t,.tmp u]) (hl:lkE E t=.val c) (hl':lkE E u=.val b) (he:Ext w0 wb) (hc:c=c') (hb:b=b'):PX ⟨kN,[]⟩ wb (bodyPost P fn (Ret w0 (.tup2 (.val c') (.val b')))) .ret E :=
 e2A hr λ x y w e hx hy=>by
  rw [hl] at hx;rw [hl'] at hy;exact ⟨_,rfl,he.trans e,x,y,rfl,Eq.trans hx hc,Eq.trans hy hb⟩
theorem bdA {fn:Func} {R:Ending→World→Prop} (hr:fn.results=#[]) (h:∀ w,Ext wb w→R (.returned (.tuple #[])) w) {e:Exit} (he:e=.normal∨e=.ret):PX ⟨kN,[]⟩ wb (bodyPost P fn R) e E :=
 λ _ _ s=>by rcases he with rfl|rfl <;> exact ⟨s.df,_,results_none hr _ _ _,h _ s.ext⟩
variable {K:List Oper→Env→Prop} {rest:List Oper}
theorem bhA {o:Oper} (r:AD) (hg:bmA l E o.guard=some true) (hob:OB P wb E o r) (h:LA P l wb K rest (puE o.dst r E)):LA P l wb K (o::rest) E:=.inl ⟨r,.inl ⟨hg,hob⟩,h⟩
theorem zpA {o:Oper} (hg:bmA l E o.guard=some false) (h:LA P l wb K rest (puE o.dst (.val undef) E)):LA P l wb K (o::rest) E:=.inl ⟨_,.inr ⟨hg,rfl⟩,h⟩
theorem a4A {o:Oper} (h:K (o::rest) E):LA P l wb K (o::rest) E:=.inr h
theorem siA (h:K [] E):LA P l wb K [] E:=h
theorem h8A {P:Program} {l:List Oper} {wb:World} {K:List Oper→Env→Prop} {E:Env}:LA P l wb K [] E↔K [] E:=Iff.rfl
theorem eiA {P:Program} {l:List Oper} {wb:World} {K:List Oper→Env→Prop} {o:Oper} {rest:List Oper} {E:Env}:LA P l wb K (o::rest) E↔((∃ r,Stp P l wb E o r∧LA P l wb K rest (puE o.dst r E))∨K (o::rest) E):=Iff.rfl
end
attribute [irreducible] LA CX PX LX
end Go.LA
end
section
namespace Go.LA
open Go.RowKit
def hpA (cs:List Value):AV:=⟨λ v w=>∃ p:Addr,v=.pointer (some p)∧∀ (j:Nat) (c:Value),cs[j]?=some c→w.cell? (p.add j)=some c,
 λ _ _ _ e ⟨p,h1,h2⟩=>⟨p,h1,λ j c h=>e.cell (h2 j c h)⟩⟩
def SlC (w:World) (v:Value) (n s:Nat) (cs:List Value):Prop :=
 cs.length=n*s∧∃ (a:Option Addr) (cap:Nat),v=.slice a n cap∧n≤cap∧cap≤maxLen∧(a=none→cap=0)∧(n=0∨∃ b off,a=some ⟨b,off,none⟩∧∀ (j:Nat) (c:Value),cs[j]?=some c→w.cell? ⟨b,off+j,none⟩=some c)
theorem SlC.ext {w w':World} {v:Value} {n s:Nat} {cs:List Value} (h:SlC w v n s cs) (e:Ext w w'):SlC w' v n s cs:=by
 obtain ⟨h0,a,cap,h1,h2,h3,h4,h5⟩:=h;refine ⟨h0,a,cap,h1,h2,h3,h4,?_⟩
 rcases h5 with h5|⟨b,off,h5,h6⟩
 ·exact .inl h5
 ·exact .inr ⟨b,off,h5,λ j c hj=>e.cell (h6 j c hj)⟩
def slC (n s:Nat) (cs:List Value):AV:=⟨λ v w=>SlC w v n s cs,λ _ _ _ e h=>h.ext e⟩
def SlI (k:IntKind) (w:World) (v:Value) (xs:List Int):Prop:=SlC w v xs.length 1 (xs.map (Value.int k))
theorem SlI.ext {k:IntKind} {w w':World} {v:Value} {xs:List Int} (h:SlI k w v xs) (e:Ext w w'):SlI k w' v xs:=SlC.ext h e
def slI (k:IntKind) (xs:List Int):AV:=⟨λ v w=>SlI k w v xs,λ _ _ _ e h=>h.ext e⟩
theorem SlI.len {k:IntKind} {w:World} {v:Value} {xs:List Int} (h:SlI k w v xs):xs.length≤9223372036854775807:=by
 obtain ⟨_,a,cap,_,h2,h3,_⟩:=h;unfold maxLen at h3;omega
theorem SlC.len {w:World} {v:Value} {n s:Nat} {cs:List Value} (h:SlC w v n s cs):n≤9223372036854775807:=by
 obtain ⟨_,a,cap,_,h2,h3,_⟩:=h;unfold maxLen at h3;omega
theorem SlC.isSlice {w:World} {v:Value} {n s:Nat} {cs:List Value} (h:SlC w v n s cs):∃ a c,v=.slice a n c:=let ⟨_,a,c,h,_⟩:=h;⟨a,c,h⟩
theorem SlI.isSlice {k:IntKind} {w:World} {v:Value} {xs:List Int} (h:SlI k w v xs):∃ a c,v=.slice a xs.length c:=SlC.isSlice h
def HasC (wb:World) (r:AD) (n s:Nat) (cs:List Value):Prop:=∀ v w,Ext wb w→r.ok v w→SlC w v n s cs
def HasI (wb:World) (r:AD) (k:IntKind) (xs:List Int):Prop:=∀ v w,Ext wb w→r.ok v w→SlI k w v xs
theorem HasC.val {wb:World} {u:Value} {n s:Nat} {cs:List Value} (h:SlC wb u n s cs):HasC wb (.val u) n s cs:=λ v w e hv=>by
 have hv:v=u:=hv;subst hv;exact h.ext e
theorem HasC.pred {wb:World} {n s:Nat} {cs:List Value}:HasC wb (.pred (slC n s cs)) n s cs:=λ _ _ _ hv=>hv
theorem HasI.val {wb:World} {u:Value} {k:IntKind} {xs:List Int} (h:SlI k wb u xs):HasI wb (.val u) k xs:=λ v w e hv=>by
 have hv:v=u:=hv;subst hv;exact h.ext e
theorem HasI.c {wb:World} {r:AD} {k:IntKind} {xs:List Int} (h:HasI wb r k xs):HasC wb r xs.length 1 (xs.map (Value.int k)):=h
section
variable {P:Program} {l:List Oper} {N:Nat} {wb:World} {K:List Oper→Env→Prop} {rest:List Oper} {E:Env}
theorem bwA {o:Oper} {v:Value} (h:∀ (a:Act) (w:World),Ext wb w→(∀ x ∈ o.op.operands,(opE E x).ok (a.eval x) w)→(execOp a.eval o).run P w=.ok (.value v) w):OB P wb E o (.val v):=λ a w he hx=>by
 rw [h a w he hx];exact ⟨Ext.refl _,rfl⟩
variable {d:Tmp} {ty t t':TypeId} {pos:String} {after:Array Edge} {g:Option (Nat × Bool)} {x y z:Operand} {k k':IntKind}
theorem s7A {r:AD} {o:Oper} (ho:o.op=.move x∨o.op=.assign x) (hx:opE E x=r):OB P wb E o r:=λ a w he h=>by
 obtain ⟨dst,op,ty,pos,after,guard⟩:=o;simp only at ho h
 rcases ho with rfl|rfl
 ·have h1:=h x (by simp [Op.operands])
  rw [hx] at h1;simp only [execOp,Sem.run_pure];exact ⟨Ext.refl _,h1⟩
 ·have h1:=h x (by simp [Op.operands])
  rw [hx] at h1;simp only [execOp,Sem.run_pure];exact ⟨Ext.refl _,h1⟩
theorem mwA {r:AD} (hg:bmA l E g=some true) (hx:opE E x=r) (h:LA P l wb K rest ((d,r)::E)):LA P l wb K (⟨some d,.move x,ty,pos,after,g⟩::rest) E :=
 bhA r hg (s7A (.inl rfl) hx) h
theorem m2A {r:AD} (hg:bmA l E g=some true) (hx:opE E x=r) (h:LA P l wb K rest ((d,r)::E)):LA P l wb K (⟨some d,.assign x,ty,pos,after,g⟩::rest) E :=
 bhA r hg (s7A (.inr rfl) hx) h
theorem ddA {c:Value} (hg:bmA l E g=some true) (hx:opE E x=.val c) (h:LA P l wb K rest ((d,.val c)::E)):LA P l wb K (⟨some d,.move x,ty,pos,after,g⟩::rest) E:=mwA hg hx h
theorem vuA {φ:AV} (hg:bmA l E g=some true) (hx:opE E x=.pred φ) (h:LA P l wb K rest ((d,.pred φ)::E)):LA P l wb K (⟨some d,.move x,ty,pos,after,g⟩::rest) E:=mwA hg hx h
theorem vtA {a b:AD} (hg:bmA l E g=some true) (hx:opE E x=.tup2 a b) (h:LA P l wb K rest ((d,.tup2 a b)::E)):LA P l wb K (⟨some d,.move x,ty,pos,after,g⟩::rest) E:=mwA hg hx h
theorem jpA {c:Value} (hg:bmA l E g=some true) (hx:opE E x=.val c) (h:LA P l wb K rest ((d,.val c)::E)):LA P l wb K (⟨some d,.assign x,ty,pos,after,g⟩::rest) E:=m2A hg hx h
theorem p8A {φ:AV} (hg:bmA l E g=some true) (hx:opE E x=.pred φ) (h:LA P l wb K rest ((d,.pred φ)::E)):LA P l wb K (⟨some d,.assign x,ty,pos,after,g⟩::rest) E:=m2A hg hx h
theorem a0A {op:Op} (hg:bmA l E g=some false) (h:LA P l wb K rest ((d,.val undef)::E)):LA P l wb K (⟨some d,op,ty,pos,after,g⟩::rest) E:=zpA hg h
theorem vrA {r:AD} (hg:bmA l E g=some true) (hc:opE E x=.val (.bool true)) (hx:opE E y=r) (h:LA P l wb K rest ((d,r)::E)):LA P l wb K (⟨some d,.pick x y z,ty,pos,after,g⟩::rest) E :=
 bhA r hg (λ a w he hh=>by
  have h0:=hh x (by simp [Op.operands]);have h1:=hh y (by simp [Op.operands]);rw [hc] at h0;rw [hx] at h1;simp only [AD.ok] at h0;simp only [execOp,h0,asBool,Sem.run_bind,Sem.run_pure,Result.andThen_ok,if_true];exact ⟨Ext.refl _,h1⟩) h
theorem vsA {r:AD} (hg:bmA l E g=some true) (hc:opE E x=.val (.bool false)) (hx:opE E z=r) (h:LA P l wb K rest ((d,r)::E)):LA P l wb K (⟨some d,.pick x y z,ty,pos,after,g⟩::rest) E :=
 bhA r hg (λ a w he hh=>by
  have h0:=hh x (by simp [Op.operands]);have h1:=hh z (by simp [Op.operands]);rw [hc] at h0;rw [hx] at h1;simp only [AD.ok] at h0;simp only [execOp,h0,asBool,Sem.run_bind,Sem.run_pure,Result.andThen_ok,Bool.false_eq_true,if_false];exact ⟨Ext.refl _,h1⟩) h
theorem sfA {c:Value} (hg:bmA l E g=some true) (hc:opE E x=.val (.bool true)) (hx:opE E y=.val c) (h:LA P l wb K rest ((d,.val c)::E)):LA P l wb K (⟨some d,.pick x y z,ty,pos,after,g⟩::rest) E:=vrA hg hc hx h
theorem sgA {c:Value} (hg:bmA l E g=some true) (hc:opE E x=.val (.bool false)) (hx:opE E z=.val c) (h:LA P l wb K rest ((d,.val c)::E)):LA P l wb K (⟨some d,.pick x y z,ty,pos,after,g⟩::rest) E:=vsA hg hc hx h
theorem shA {b:Bool} (hg:bmA l E g=some true) (hc:opE E x=.val (.bool b)) (h:LA P l wb K rest ((d,.val (.bool (!b)))::E)):LA P l wb K (⟨some d,.unOp .not t x,ty,pos,after,g⟩::rest) E :=
 bhA _ hg (bwA λ a w he hh=>by
  have h0:=hh x (by simp [Op.operands]);rw [hc] at h0;simp only [AD.ok] at h0;simp only [execOp,h0,Op.unary,Sem.run_bind,Sem.run_pure,Result.andThen_ok]) h
theorem zqA (hg:bmA l E g=some true) (hc:opE E x=.val (.bool true)) (h:LA P l wb K rest ((d,.val (.bool false))::E)):LA P l wb K (⟨some d,.unOp .not t x,ty,pos,after,g⟩::rest) E:=shA hg hc h
theorem zrA (hg:bmA l E g=some true) (hc:opE E x=.val (.bool false)) (h:LA P l wb K rest ((d,.val (.bool true))::E)):LA P l wb K (⟨some d,.unOp .not t x,ty,pos,after,g⟩::rest) E:=shA hg hc h
theorem zuA {r r':AD} (hg:bmA l E g=some true) (hx:opE E x=.tup2 r r') (h:LA P l wb K rest ((d,r)::E)):LA P l wb K (⟨some d,.extract x 0,ty,pos,after,g⟩::rest) E :=
 bhA _ hg (λ a w he hh=>by
  have h0:=hh x (by simp [Op.operands]);rw [hx] at h0;obtain ⟨u,v,h1,h2,h3⟩:=h0;simp only [execOp,h1,Instr.extract,Sem.run_bind];exact ⟨Ext.refl _,h2⟩) h
theorem ztA {r r':AD} (hg:bmA l E g=some true) (hx:opE E x=.tup2 r r') (h:LA P l wb K rest ((d,r')::E)):LA P l wb K (⟨some d,.extract x 1,ty,pos,after,g⟩::rest) E :=
 bhA _ hg (λ a w he hh=>by
  have h0:=hh x (by simp [Op.operands]);rw [hx] at h0;obtain ⟨u,v,h1,h2,h3⟩:=h0;simp only [execOp,h1,Instr.extract,Sem.run_bind];exact ⟨Ext.refl _,h3⟩) h
def kgA:BinOp→Bool
 | .lss|.leq|.gtr|.geq|.eql|.neq=>true
 | _=>false
def jkA:BinOp→Int→Int→Prop
 | .lss,a,b=>a<b
 | .leq,a,b=>a≤b
 | .gtr,a,b=>b<a
 | .geq,a,b=>b≤a
 | .eql,a,b=>a=b
 | .neq,a,b=>a≠b
 | _,_,_=>False
theorem xiA {op:BinOp} {a b:Int} {v:Bool} (hc:kgA op=true) (hv:jkA op a b↔v=true) (w:World):(binOp op t (.int k a) (.int k b)).run P w=.ok (.bool v) w:=by
 cases op <;> simp only [kgA,Bool.false_eq_true] at hc <;> simp only [binOp_lss,binOp_leq,binOp_gtr,binOp_geq,binOp_eql,binOp_neq,Sem.run_pure,jkA] at hv ⊢ <;>
  (congr 2;rw [Bool.eq_iff_iff,← hv];simp)
theorem s8A {op:BinOp} {a b:Int} {v:Bool} (hx:opE E x=.val (.int k a)) (hy:opE E y=.val (.int k b)) (hc:kgA op=true) (hv:jkA op a b↔v=true) :
 OB P wb E ⟨some d,.binOp op t x y t',ty,pos,after,g⟩ (.val (.bool v)):=bwA λ a w he h=>by
 have h1:=h x (by simp [Op.operands]);have h2:=h y (by simp [Op.operands]);rw [hx] at h1;rw [hy] at h2;simp only [AD.ok] at h1 h2;simp only [execOp,h1,h2,Sem.run_bind,eqGuard_at_int,Sem.run_pure,Result.andThen_ok,xiA hc hv]
theorem mxA {op:BinOp} {a b:Int} (hg:bmA l E g=some true) (hx:opE E x=.val (.int k a)) (hy:opE E y=.val (.int k b)) (hc:kgA op=true) (hp:jkA op a b)
 (h:LA P l wb K rest ((d,.val (.bool true))::E)):LA P l wb K (⟨some d,.binOp op t x y t',ty,pos,after,g⟩::rest) E :=
 bhA _ hg (s8A hx hy hc ⟨λ _=>rfl,λ _=>hp⟩) h
theorem f8A {op:BinOp} {a b:Int} (hg:bmA l E g=some true) (hx:opE E x=.val (.int k a)) (hy:opE E y=.val (.int k b)) (hc:kgA op=true) (hp:¬ jkA op a b)
 (h:LA P l wb K rest ((d,.val (.bool false))::E)):LA P l wb K (⟨some d,.binOp op t x y t',ty,pos,after,g⟩::rest) E :=
 bhA (.val (.bool false)) hg (s8A hx hy hc ⟨λ h=>absurd h hp,λ h=>by cases h⟩) h
theorem c4B {op:BinOp} {a b:Int} (hg:bmA l E g=some true) (hx:opE E x=.val (.int k a)) (hy:opE E y=.val (.int k b)) (hc:kgA op=true)
 (h:jkA op a b→LA P l wb K rest ((d,.val (.bool true))::E)) (h':¬ jkA op a b→LA P l wb K rest ((d,.val (.bool false))::E)) :
 LA P l wb K (⟨some d,.binOp op t x y t',ty,pos,after,g⟩::rest) E:=by
 by_cases hp:jkA op a b
 ·exact mxA hg hx hy hc hp (h hp)
 ·exact f8A hg hx hy hc hp (h' hp)
def isAr:BinOp→Bool
 | .add|.sub|.mul=>true
 | _=>false
def arI:BinOp→Int→Int→Int
 | .add,a,b=>a+b
 | .sub,a,b=>a-b
 | .mul,a,b=>a*b
 | _,a,_=>a
theorem OB_ar {op:BinOp} {a b:Int} (hx:opE E x=.val (.int k a)) (hy:opE E y=.val (.int k b)) (hc:isAr op=true) :
 OB P wb E ⟨some d,.binOp op t x y t',ty,pos,after,g⟩ (.val (.int k (k.wrap (arI op a b)))):=bwA λ a w he h=>by
 have h1:=h x (by simp [Op.operands]);have h2:=h y (by simp [Op.operands]);rw [hx] at h1;rw [hy] at h2;simp only [AD.ok] at h1 h2
 cases op <;> simp only [isAr,Bool.false_eq_true] at hc <;>
  simp only [execOp,h1,h2,Sem.run_bind,eqGuard_at_int,Sem.run_pure,Result.andThen_ok,binOp_add,binOp_sub,binOp_mul,Op.intArith,arI]
theorem soA {op:BinOp} {a b:Int} (hg:bmA l E g=some true) (hx:opE E x=.val (.int k a)) (hy:opE E y=.val (.int k b)) (hc:isAr op=true)
 (h:LA P l wb K rest ((d,.val (.int k (k.wrap (arI op a b))))::E)) :
 LA P l wb K (⟨some d,.binOp op t x y t',ty,pos,after,g⟩::rest) E:=bhA _ hg (OB_ar hx hy hc) h
theorem dwA {src dst:TypeId} {n:Int} {kd:IntKind} (hg:bmA l E g=some true) (hs:(P.underlying src).isSome=true) (hd:P.underlying dst=some (.int kd)) (hx:opE E x=.val (.int k n))
 (h:LA P l wb K rest ((d,.val (.int kd (kd.wrap n)))::E)):LA P l wb K (⟨some d,.convert src dst x,ty,pos,after,g⟩::rest) E :=
 bhA _ hg (bwA λ a w he hh=>by
  have h1:=hh x (by simp [Op.operands]);rw [hx] at h1;simp only [AD.ok] at h1;obtain ⟨u,hu⟩:=Option.isSome_iff_exists.mp hs;simp only [execOp,h1,convert,Sem.run_bind,run_underlying hd,run_underlying hu,Conv.intToInt,Sem.run_pure,Result.andThen_ok]) h
def fits:IntKind→Int→Prop
 | .i64,n=>-9223372036854775808≤n∧n≤9223372036854775807
 | .u64,n=>0≤n∧n≤18446744073709551615
 | .i32,n=>-2147483648≤n∧n≤2147483647
 | .u32,n=>0≤n∧n≤4294967295
 | .i16,n=>-32768≤n∧n≤32767
 | .u16,n=>0≤n∧n≤65535
 | .i8,n=>-128≤n∧n≤127
 | .u8,n=>0≤n∧n≤255
theorem daA (k:IntKind) (n:Int) (h:fits k n):k.wrap n=n:=by
 cases k <;> simp only [fits] at h
 ·exact IntWalk.i8_in n h
 ·exact IntWalk.i16_in n h
 ·exact IntWalk.i32_in n h
 ·exact IntWalk.i64_in n h
 ·exact IntWalk.u8_in n h
 ·exact IntWalk.u16_in n h
 ·exact IntWalk.u32_in n h
 ·exact IntWalk.u64_in n h
theorem olA {src dst:TypeId} {n:Int} {kd:IntKind} (hg:bmA l E g=some true) (hs:(P.underlying src).isSome=true) (hd:P.underlying dst=some (.int kd)) (hx:opE E x=.val (.int k n)) (hf:fits kd n)
 (h:LA P l wb K rest ((d,.val (.int kd n))::E)):LA P l wb K (⟨some d,.convert src dst x,ty,pos,after,g⟩::rest) E :=
 dwA hg hs hd hx (by rw [daA kd n hf];exact h)
theorem f0A {n m:Int} {km:IntKind} (hg:bmA l E g=some true) (hx:opE E x=.val (.int k n)) (hy:opE E y=.val (.int km m)) (h0:0≤m) (h1:m≤k.bits)
 (h:LA P l wb K rest ((d,.val (.int k (n / 2 ^ m.toNat)))::E)):LA P l wb K (⟨some d,.binOp .shr t x y t',ty,pos,after,g⟩::rest) E :=
 bhA _ hg (bwA λ a w he hh=>by
  have e1:=hh x (by simp [Op.operands]);have e2:=hh y (by simp [Op.operands]);rw [hx] at e1;rw [hy] at e2;simp only [AD.ok] at e1 e2;simp only [execOp,e1,e2,Sem.run_bind,eqGuard_at_int,Sem.run_pure,Result.andThen_ok,binOp_shr,shift_shr k km n m h0 h1]) h
theorem hhA {n m:Int} {km:IntKind} (hg:bmA l E g=some true) (hx:opE E x=.val (.int k n)) (hy:opE E y=.val (.int km m)) (h0:0≤m) (h1:m≤k.bits)
 (h:LA P l wb K rest ((d,.val (.int k (k.wrap (n*2 ^ m.toNat))))::E)):LA P l wb K (⟨some d,.binOp .shl t x y t',ty,pos,after,g⟩::rest) E :=
 bhA _ hg (bwA λ a w he hh=>by
  have e1:=hh x (by simp [Op.operands]);have e2:=hh y (by simp [Op.operands]);rw [hx] at e1;rw [hy] at e2;simp only [AD.ok] at e1 e2;simp only [execOp,e1,e2,Sem.run_bind,eqGuard_at_int,Sem.run_pure,Result.andThen_ok,binOp_shl,shift_shl k km n m h0 h1]) h
theorem clA {op:BinOp} {n m:Int} (hop:op=.and∨op=.or∨op=.xor∨op=.andNot) (hg:bmA l E g=some true) (hx:opE E x=.val (.int k n)) (hy:opE E y=.val (.int k m))
 (h:LA P l wb K rest ((d,.val (.int k (bits op k n m)))::E)):LA P l wb K (⟨some d,.binOp op t x y t',ty,pos,after,g⟩::rest) E :=
 bhA _ hg (bwA λ a w he hh=>by
  have e1:=hh x (by simp [Op.operands]);have e2:=hh y (by simp [Op.operands]);rw [hx] at e1;rw [hy] at e2;simp only [AD.ok] at e1 e2
  rcases hop with rfl|rfl|rfl|rfl <;>
   simp only [execOp,e1,e2,Sem.run_bind,eqGuard_at_int,Sem.run_pure,Result.andThen_ok,binOp_and,binOp_or,binOp_xor,binOp_andNot,intBits_and,intBits_or,intBits_xor,intBits_andNot]) h
theorem jfA {tb:TypeId} {a b:Bool} {w:World} (ht:P.underlying tb=some .bool):(Op.equal tb (.bool a) (.bool b)).run P w=.ok (a == b) w:=by
 unfold Op.equal;have:∀ n,n≠0→(Op.equalIn n tb (.bool a) (.bool b)).run P w=.ok (a == b) w:=λ n hn=>by
  cases n with
  | zero=>exact absurd rfl hn
  | succ n=>simp [Op.equalIn,run_underlying ht]
 exact this _ (by decide)
theorem xhA {tb:TypeId} {a b:Bool} {w:World} (ht:P.underlying tb=some .bool):(binOp .eql tb (.bool a) (.bool b)).run P w=.ok (.bool (a == b)) w:=by
 show ((do pure (.bool (← Op.equal tb (.bool a) (.bool b))):Sem Value)).run P w=_
 simp only [Sem.run_bind,jfA ht,Result.andThen_ok,Sem.run_pure]
theorem xfA {tb:TypeId} {a b:Bool} {w:World} (ht:P.underlying tb=some .bool):(binOp .neq tb (.bool a) (.bool b)).run P w=.ok (.bool (!(a == b))) w:=by
 show ((do pure (.bool (!(← Op.equal tb (.bool a) (.bool b)))):Sem Value)).run P w=_
 simp only [Sem.run_bind,jfA ht,Result.andThen_ok,Sem.run_pure]
theorem j5A {tb:TypeId} {a b:Bool} (hg:bmA l E g=some true) (ht:P.underlying tb=some .bool) (hx:opE E x=.val (.bool a)) (hy:opE E y=.val (.bool b))
 (h:LA P l wb K rest ((d,.val (.bool (a == b)))::E)):LA P l wb K (⟨some d,.binOp .eql tb x y t',ty,pos,after,g⟩::rest) E :=
 bhA _ hg (bwA λ ac w he hh=>by
  have e1:=hh x (by simp [Op.operands]);have e2:=hh y (by simp [Op.operands]);rw [hx] at e1;rw [hy] at e2;simp only [AD.ok] at e1 e2;have:(binOp .eql tb (.bool a) (.bool b)).run P w=.ok (.bool (a == b)) w:=xhA ht;simp only [execOp,e1,e2,Sem.run_bind,eqGuard_at_bool,Sem.run_pure,Result.andThen_ok,this]) h
theorem p6A {tb:TypeId} {a b:Bool} (hg:bmA l E g=some true) (ht:P.underlying tb=some .bool) (hx:opE E x=.val (.bool a)) (hy:opE E y=.val (.bool b)) (hab:a=b)
 (h:LA P l wb K rest ((d,.val (.bool true))::E)):LA P l wb K (⟨some d,.binOp .eql tb x y t',ty,pos,after,g⟩::rest) E:=j5A hg ht hx hy (by rw [show (a == b)=true by simp [hab]];exact h)
theorem p7A {tb:TypeId} {a b:Bool} (hg:bmA l E g=some true) (ht:P.underlying tb=some .bool) (hx:opE E x=.val (.bool a)) (hy:opE E y=.val (.bool b)) (hab:a≠b)
 (h:LA P l wb K rest ((d,.val (.bool false))::E)):LA P l wb K (⟨some d,.binOp .eql tb x y t',ty,pos,after,g⟩::rest) E:=j5A hg ht hx hy (by rw [show (a == b)=false by simp [hab]];exact h)
theorem j4A {tb:TypeId} {a b:Bool} (hg:bmA l E g=some true) (ht:P.underlying tb=some .bool) (hx:opE E x=.val (.bool a)) (hy:opE E y=.val (.bool b))
 (h:LA P l wb K rest ((d,.val (.bool (!(a == b))))::E)):LA P l wb K (⟨some d,.binOp .neq tb x y t',ty,pos,after,g⟩::rest) E :=
 bhA _ hg (bwA λ ac w he hh=>by
  have e1:=hh x (by simp [Op.operands]);have e2:=hh y (by simp [Op.operands]);rw [hx] at e1;rw [hy] at e2;simp only [AD.ok] at e1 e2;have:(binOp .neq tb (.bool a) (.bool b)).run P w=.ok (.bool (!(a == b))) w:=xfA ht;simp only [execOp,e1,e2,Sem.run_bind,eqGuard_at_bool,Sem.run_pure,Result.andThen_ok,this]) h
theorem spA {op:BinOp} {a b:Int} (hg:bmA l E g=some true) (hx:opE E x=.val (.int k a)) (hy:opE E y=.val (.int k b)) (hc:isAr op=true) (hf:fits k (arI op a b))
 (h:LA P l wb K rest ((d,.val (.int k (arI op a b)))::E)):LA P l wb K (⟨some d,.binOp op t x y t',ty,pos,after,g⟩::rest) E :=
 soA hg hx hy hc (by rw [daA k _ hf];exact h)
theorem p4A {tb:TypeId} {a b:Bool} (hg:bmA l E g=some true) (ht:P.underlying tb=some .bool) (hx:opE E x=.val (.bool a)) (hy:opE E y=.val (.bool b)) (hab:a≠b)
 (h:LA P l wb K rest ((d,.val (.bool true))::E)):LA P l wb K (⟨some d,.binOp .neq tb x y t',ty,pos,after,g⟩::rest) E:=j4A hg ht hx hy (by rw [show (!(a == b))=true by simp [hab]];exact h)
theorem p5A {tb:TypeId} {a b:Bool} (hg:bmA l E g=some true) (ht:P.underlying tb=some .bool) (hx:opE E x=.val (.bool a)) (hy:opE E y=.val (.bool b)) (hab:a=b)
 (h:LA P l wb K rest ((d,.val (.bool false))::E)):LA P l wb K (⟨some d,.binOp .neq tb x y t',ty,pos,after,g⟩::rest) E:=j4A hg ht hx hy (by rw [show (!(a == b))=false by simp [hab]];exact h)
theorem beA {a b:Int} (hg:bmA l E g=some true) (hx:opE E x=.val (.int k a)) (hy:opE E y=.val (.int k b)) (hf:fits k (a+b))
 (h:LA P l wb K rest ((d,.val (.int k (a+b)))::E)):LA P l wb K (⟨some d,.binOp .add t x y t',ty,pos,after,g⟩::rest) E:=spA hg hx hy rfl hf h
theorem abA {a b:Int} (hg:bmA l E g=some true) (hx:opE E x=.val (.int k a)) (hy:opE E y=.val (.int k b)) (hf:fits k (a-b))
 (h:LA P l wb K rest ((d,.val (.int k (a-b)))::E)):LA P l wb K (⟨some d,.binOp .sub t x y t',ty,pos,after,g⟩::rest) E:=spA hg hx hy rfl hf h
theorem kwA {a b:Int} (hg:bmA l E g=some true) (hx:opE E x=.val (.int k a)) (hy:opE E y=.val (.int k b)) (hf:fits k (a*b))
 (h:LA P l wb K rest ((d,.val (.int k (a*b)))::E)):LA P l wb K (⟨some d,.binOp .mul t x y t',ty,pos,after,g⟩::rest) E:=spA hg hx hy rfl hf h
theorem l3A {a b:Int} (hg:bmA l E g=some true) (hx:opE E x=.val (.int k a)) (hy:opE E y=.val (.int k b))
 (h:LA P l wb K rest ((d,.val (.int k (k.wrap (a+b))))::E)):LA P l wb K (⟨some d,.binOp .add t x y t',ty,pos,after,g⟩::rest) E:=soA hg hx hy rfl h
theorem sjA {a b:Int} (hg:bmA l E g=some true) (hx:opE E x=.val (.int k a)) (hy:opE E y=.val (.int k b))
 (h:LA P l wb K rest ((d,.val (.int k (k.wrap (a*b))))::E)):LA P l wb K (⟨some d,.binOp .mul t x y t',ty,pos,after,g⟩::rest) E:=soA hg hx hy rfl h
theorem asA {n:Nat} (hg:bmA l E g=some true) (e:TypeId) (ht:P.underlying t=some (.slice e)) {r:AD} {s:Nat} {cs:List Value} (hr:opE E x=r) (hx:HasC wb r n s cs)
 (h:LA P l wb K rest ((d,.val (.int .i64 n))::E)):LA P l wb K (⟨some d,.call ⟨.builtin .len,#[x],#[t]⟩,ty,pos,after,g⟩::rest) E :=
 bhA _ hg (bwA λ a w he hh=>by
  obtain ⟨u,c,hv⟩:=(hx _ _ he (hr▸hh x (by simp [Op.operands,Call.operands]))).isSlice;have:(Builtin.len_ #[t] ty #[.slice u n c]).run P w=.ok (goInt n) w:=by simp [Builtin.len_,run_underlying ht]
  simp only [execOp,resolve,Sem.run_bind,Sem.run_pure,Result.andThen_ok,List.map_toArray,List.map_cons,List.map_nil,hv,invoke,builtin,this];rfl) h
theorem c3A {n s:Nat} {cs:List Value} {i:Int} (hg:bmA l E g=some true) (e:TypeId) (ht:P.underlying t=some (.slice e)) (hs:∀ w,(sizeOf e).run P w=.ok s w)
 {r:AD} (hr:opE E x=r) (hx:HasC wb r n s cs) (hi:opE E y=.val (.int k i)) (j:Nat) (hj:i=j) (hn:j<n)
 (h:LA P l wb K rest ((d,.pred (hpA ((cs.drop (j*s)).take s)))::E)):LA P l wb K (⟨some d,.indexAddr t x y,ty,pos,after,g⟩::rest) E:=by
 refine bhA (.pred (hpA ((cs.drop (j*s)).take s))) hg (λ a w he hh=>?_) h;obtain ⟨h0,ad,cap,hv,hnc,hm,-,hcs⟩:=hx _ _ he (hr▸hh x (by simp [Op.operands]));have h2:=hh y (by simp [Op.operands]);rw [hi] at h2;simp only [AD.ok] at h2;subst hj
 rcases hcs with rfl|⟨b,off,rfl,hc⟩
 ·omega
 ·have hrun:(Instr.indexAt t (.slice (some ⟨b,off,none⟩) n cap) (.int k (j:Int))).run P w=.ok (.pointer (some (Addr.add ⟨b,off,none⟩ (j*s)))) w:=by
   simp [Instr.indexAt,run_underlying ht,asIntOf,hs,hn]
  simp only [execOp,hv,h2,Sem.run_bind,hrun,Result.andThen_ok,Sem.run_pure];refine ⟨Ext.refl _,_,rfl,λ i c hc'=>?_⟩;rw [List.getElem?_take] at hc'
  split at hc'
  ·rw [List.getElem?_drop] at hc'
   have:=hc _ _ hc';rw [Addr.add_lit,Addr.add_lit,Nat.add_assoc];exact this
  ·cases hc'
theorem gsA {k':IntKind} {xs:List Int} {i:Int} (hg:bmA l E g=some true) (e:TypeId) (ht:P.underlying t=some (.slice e)) (hs:∀ w,(sizeOf e).run P w=.ok 1 w)
 {r:AD} (hr:opE E x=r) (hx:HasI wb r k' xs) (hi:opE E y=.val (.int k i)) (h0:0≤i) (hn:i<xs.length)
 (h:LA P l wb K rest ((d,.pred (hpA [.int k' (xs.getD i.toNat 0)]))::E)):LA P l wb K (⟨some d,.indexAddr t x y,ty,pos,after,g⟩::rest) E:=by
 refine c3A hg e ht hs hr hx.c hi i.toNat (by omega) (by omega) ?_
 have:((xs.map (Value.int k')).drop (i.toNat*1)).take 1=[.int k' (xs.getD i.toNat 0)]:=by
  rw [Nat.mul_one,List.drop_eq_getElem_cons (by simp;omega)];simp [List.getD,List.getElem?_eq_getElem (by omega:i.toNat<xs.length)]
 rw [this];exact h
theorem ahA {k':IntKind} {xs:List Int} {j:Nat} (hg:bmA l E g=some true) (e:TypeId) (ht:P.underlying t=some (.slice e)) (hs:∀ w,(sizeOf e).run P w=.ok 1 w)
 {r:AD} (hr:opE E x=r) (hx:HasI wb r k' xs) (hi:opE E y=.val (.int k ((j:Nat):Int))) (hn:j<xs.length)
 (h:LA P l wb K rest ((d,.pred (hpA [.int k' (xs.getD j 0)]))::E)):LA P l wb K (⟨some d,.indexAddr t x y,ty,pos,after,g⟩::rest) E :=
 gsA hg e ht hs hr hx hi (by omega) (by omega) h
theorem esA {c:Value} (hg:bmA l E g=some true) (ht:∀ w,(isAgg t).run P w=.ok false w) (hx:opE E x=.pred (hpA [c])) (h:LA P l wb K rest ((d,.val c)::E)) :
 LA P l wb K (⟨some d,.load t x,ty,pos,after,g⟩::rest) E :=
 bhA _ hg (bwA λ a w he hh=>by
  have h1:=hh x (by simp [Op.operands]);rw [hx] at h1;obtain ⟨p,hv,hc⟩:=h1;have hc:=hc 0 c rfl;have e0:p.add 0=p:=Addr.add_zero' p;rw [e0] at hc;simp only [execOp,hv,Instr.loadAt,Instr.sureAddr,loadVar,Sem.run_bind,Sem.run_pure,Result.andThen_ok,ht,Bool.false_eq_true,if_false,run_load,hc]) h
theorem kyA {c:Value} {p:Addr} (hg:bmA l E g=some true) (ht:∀ w,(isAgg t).run P w=.ok false w) (hx:opE E x=.val (.pointer (some p))) (hc:wb.cell? p=some c) (h:LA P l wb K rest ((d,.val c)::E)) :
 LA P l wb K (⟨some d,.load t x,ty,pos,after,g⟩::rest) E :=
 bhA _ hg (bwA λ a w he hh=>by
  have h1:=hh x (by simp [Op.operands]);rw [hx] at h1;simp only [AD.ok] at h1;have hc:=he.cell hc;simp only [execOp,h1,Instr.loadAt,Instr.sureAddr,loadVar,Sem.run_bind,Sem.run_pure,Result.andThen_ok,ht,Bool.false_eq_true,if_false,run_load,hc]) h
def Fc (P:Program) (f:FuncId) (args:Array Value) (w:World) (R:Ending→World→Prop):Prop :=
 (∀ (args:Array Value) (w:World),(callFunc f args).run P w=.ok (.enter f args) w)∧Calls P f args w R
theorem jwA {f:FuncId} {fn:Func} {c:Code} (hf:P.funcs[f]?=some fn) (hb:fn.body=some c) (hn:(fn.name == "runtime.NumGoroutine")=false) (args:Array Value) (w:World) :
 (callFunc f args).run P w=.ok (.enter f args) w:=by
 unfold callFunc;simp only [Sem.run_bind,run_program,Result.andThen_ok,hf,hn,hb,Option.isNone_some,Bool.false_eq_true,if_false];rfl
theorem Fc.of {f:FuncId} {fn:Func} {c:Code} {args:List Value} {w:World} {R:Ending→World→Prop} (hf:P.funcs[f]?=some fn) (hb:fn.body=some c) (hname:(fn.name == "runtime.NumGoroutine")=false) (hn:fn.ntmps=N) (hle:args.length≤N)
 (h:CX P ⟨N,[]⟩ w c (lxA args 0) (bodyPost P fn R)):Fc P f args.toArray w R:=⟨jwA hf hb hname,v6A hf hb hn hle h⟩
theorem Fc.mono {f:FuncId} {args:Array Value} {w:World} {R R':Ending→World→Prop} (h:Fc P f args w R) (hr:∀ e w',R e w'→R' e w'):Fc P f args w R':=⟨h.1,h.2.mono hr⟩
theorem cfA {f:FuncId} {args:Array Operand} {ats:Array TypeId} {w:World} {ρ:Operand→Value} {fv:Operand} (hfv:ρ fv=.func (.func f) #[] #[]) (hf:(callFunc f (args.map ρ)).run P w=.ok (.enter f (args.map ρ)) w) :
 (execOp ρ ⟨some d,.call ⟨.value fv,args,ats⟩,ty,pos,after,g⟩).run P w=.ok (.enter f (args.map ρ)) w:=by
 simp only [execOp,resolve,Deferred.ofValue,hfv,Sem.run_bind,Sem.run_pure,Result.andThen_ok,invoke]
 simpa using hf
theorem cjA {f:FuncId} {ats:Array TypeId} {fv:Operand} (hg:bmA l E g=some true) (hfv:opE E fv=.val (.func (.func f) #[] #[])) (r:AD) (hc:∀ w,Ext wb w→Fc P f #[] w (Ret w r))
 (h:LA P l wb K rest ((d,r)::E)):LA P l wb K (⟨some d,.call ⟨.value fv,#[],ats⟩,ty,pos,after,g⟩::rest) E :=
 bhA r hg (λ a w he hh=>by
  have h1:=hh fv (by simp [Op.operands,Call.operands]);rw [hfv] at h1;rw [cfA h1 ((hc w he).1 _ _)];refine ⟨rfl,?_⟩;simp only [List.map_toArray,List.map_nil];exact (hc w he).2) h
theorem a2A {f:FuncId} {ats:Array TypeId} {fv:Operand} {r1:AD} (hg:bmA l E g=some true) (hfv:opE E fv=.val (.func (.func f) #[] #[])) (hu1:opE E x=r1) (r:AD)
 (hc:∀ u1 w,Ext wb w→r1.ok u1 w→Fc P f #[u1] w (Ret w r))
 (h:LA P l wb K rest ((d,r)::E)):LA P l wb K (⟨some d,.call ⟨.value fv,#[x],ats⟩,ty,pos,after,g⟩::rest) E :=
 bhA r hg (λ a w he hh=>by
  have h1:=hh fv (by simp [Op.operands,Call.operands]);rw [hfv] at h1;have eu1:=hh x (by simp [Op.operands,Call.operands]);rw [hu1] at eu1;have:=hc _ w he eu1;rw [cfA h1 (this.1 _ _)];refine ⟨rfl,?_⟩;simp only [List.map_toArray,List.map_cons,List.map_nil];exact this.2) h
theorem a3A {f:FuncId} {ats:Array TypeId} {fv:Operand} {r1 r2:AD} (hg:bmA l E g=some true) (hfv:opE E fv=.val (.func (.func f) #[] #[])) (hu1:opE E x=r1) (hu2:opE E y=r2) (r:AD)
 (hc:∀ u1 u2 w,Ext wb w→r1.ok u1 w→r2.ok u2 w→Fc P f #[u1,u2] w (Ret w r))
 (h:LA P l wb K rest ((d,r)::E)):LA P l wb K (⟨some d,.call ⟨.value fv,#[x,y],ats⟩,ty,pos,after,g⟩::rest) E :=
 bhA r hg (λ a w he hh=>by
  have h1:=hh fv (by simp [Op.operands,Call.operands]);rw [hfv] at h1;have eu1:=hh x (by simp [Op.operands,Call.operands]);rw [hu1] at eu1;have eu2:=hh y (by simp [Op.operands,Call.operands]);rw [hu2] at eu2;have:=hc _ _ w he eu1 eu2;rw [cfA h1 (this.1 _ _)];refine ⟨rfl,?_⟩;simp only [List.map_toArray,List.map_cons,List.map_nil];exact this.2) h
theorem alA {f:FuncId} {ats:Array TypeId} {fv:Operand} {r1 r2 r3:AD} (hg:bmA l E g=some true) (hfv:opE E fv=.val (.func (.func f) #[] #[])) (hu1:opE E x=r1) (hu2:opE E y=r2) (hu3:opE E z=r3) (r:AD)
 (hc:∀ u1 u2 u3 w,Ext wb w→r1.ok u1 w→r2.ok u2 w→r3.ok u3 w→Fc P f #[u1,u2,u3] w (Ret w r))
 (h:LA P l wb K rest ((d,r)::E)):LA P l wb K (⟨some d,.call ⟨.value fv,#[x,y,z],ats⟩,ty,pos,after,g⟩::rest) E :=
 bhA r hg (λ a w he hh=>by
  have h1:=hh fv (by simp [Op.operands,Call.operands]);rw [hfv] at h1;have eu1:=hh x (by simp [Op.operands,Call.operands]);rw [hu1] at eu1;have eu2:=hh y (by simp [Op.operands,Call.operands]);rw [hu2] at eu2;have eu3:=hh z (by simp [Op.operands,Call.operands]);rw [hu3] at eu3;have:=hc _ _ _ w he eu1 eu2 eu3;rw [cfA h1 (this.1 _ _)];refine ⟨rfl,?_⟩;simp only [List.map_toArray,List.map_cons,List.map_nil];exact this.2) h
theorem l1A {f:FuncId} {ats:Array TypeId} {fv:Operand} {q s5:Operand} {r1 r2 r3 r4 r5:AD} (hg:bmA l E g=some true) (hfv:opE E fv=.val (.func (.func f) #[] #[])) (hu1:opE E x=r1) (hu2:opE E y=r2) (hu3:opE E z=r3) (hu4:opE E q=r4) (hu5:opE E s5=r5) (r:AD)
 (hc:∀ u1 u2 u3 u4 u5 w,Ext wb w→r1.ok u1 w→r2.ok u2 w→r3.ok u3 w→r4.ok u4 w→r5.ok u5 w→Fc P f #[u1,u2,u3,u4,u5] w (Ret w r))
 (h:LA P l wb K rest ((d,r)::E)):LA P l wb K (⟨some d,.call ⟨.value fv,#[x,y,z,q,s5],ats⟩,ty,pos,after,g⟩::rest) E :=
 bhA r hg (λ a w he hh=>by
  have h1:=hh fv (by simp [Op.operands,Call.operands]);rw [hfv] at h1;have eu1:=hh x (by simp [Op.operands,Call.operands]);rw [hu1] at eu1;have eu2:=hh y (by simp [Op.operands,Call.operands]);rw [hu2] at eu2;have eu3:=hh z (by simp [Op.operands,Call.operands]);rw [hu3] at eu3;have eu4:=hh q (by simp [Op.operands,Call.operands]);rw [hu4] at eu4;have eu5:=hh s5 (by simp [Op.operands,Call.operands]);rw [hu5] at eu5;have:=hc _ _ _ _ _ w he eu1 eu2 eu3 eu4 eu5;rw [cfA h1 (this.1 _ _)];refine ⟨rfl,?_⟩;simp only [List.map_toArray,List.map_cons,List.map_nil];exact this.2) h
theorem arA {f:FuncId} {args:Array Value} {w:World} {b b':Value} (hb:b=b') (h:Fc P f args w (Ret w (.val b))):Fc P f args w (Ret w (.val b')):=hb▸h
theorem ndA {f:FuncId} {args:Array Value} {w:World} {b:Bool} (h:Fc P f args w (Ret w (.val (.bool b)))) (hb:b=true):Fc P f args w (Ret w (.val (.bool true))):=hb▸h
theorem Fc.run {f:FuncId} {args:Array Value} {w:World} {R:Ending→World→Prop} (h:Fc P f args w R) (args':Array Value) (w':World):(callFunc f args').run P w'=.ok (.enter f args') w':=h.1 _ _
theorem Fc.calls {f:FuncId} {args:Array Value} {w:World} {R:Ending→World→Prop} (h:Fc P f args w R):Calls P f args w R:=h.2
end
attribute [irreducible] Fc
end Go.LA
namespace Go
open Go.LA
theorem oZ {p:Prop} (h:p:=by omega):p:=h
theorem dZ {p:Prop} (h:p:=by decide):p:=h
theorem kZ {p:Prop} (h:p:=by kernel_rfl):p:=h
theorem eZ {p:Prop} (h:p:=by dsimp only;omega):p:=h
theorem fZ {p:Prop} (h:p:=by dsimp only [fits];omega):p:=h
theorem nZ {a b:Nat} (h:Nat.ble a b=true:=by exact rfl):a≤b:=Nat.le_of_ble_eq_true h
theorem sZ {p:Prop} (h:p:=by repeat' (first|exact Sub.nil|refine Sub.val rfl (by first|with_reducible rfl|(congr 1;omega)) ?_|refine Sub.same rfl ?_)):p:=h
end Go
end
