import Derived.Test.YtlnaebejmjmepaaGreatDoorM3
import Derived.Test.YtlnaebejmjmepaaGreatDoorM5
set_option linter.unusedSimpArgs false
set_option linter.unusedVariables false
set_option maxRecDepth 3000
set_option maxHeartbeats 16000000
section
namespace Go.LA
open Go.RowKit
def qgA (E:Env) (o:Oper):AD:=match o.dst with|some d=>lkE E d|none=>.any
def eeA (l:List Oper) (M:List Nat) (q i:Nat):Nat :=
 bif M.contains i then (bif (M.take q).contains i then 0 else 3)
 else bif (M.drop q).any (λ m=>((ekA l []).getD i 0).testBit m) then 3
 else bif (M.take q).any (λ m=>((ekA l []).getD m 0).testBit i) then 0
 else bif q == 0 then 1
 else bif ((ekA l []).getD i 0).testBit (M.getD (q-1) 0) then 1 else 2
def okM (l:List Oper) (M:List Nat):Bool :=
 (List.range M.length).all (λ q=>decide (M.getD q 0<l.length) && (q == 0 || (decide (M.getD (q-1) 0<M.getD q 0) && ((ekA l []).getD (M.getD q 0) 0).testBit (M.getD (q-1) 0)))) &&
 l.zipIdx.all (λ (o,i)=>l.zipIdx.all (λ (oj,j)=>match oj.dst with
  | none=>true
  | some d=>decide (j≤i) || !(o.looksAt l.toArray).contains d || (!M.contains i && ((ekA l []).getD (M.getD 0 0) 0).testBit i) || (!M.contains i && (!M.contains j && M.any (λ m=>((ekA l []).getD m 0).testBit i && ((ekA l []).getD j 0).testBit m))))) &&
 l.zipIdx.all (λ (o,i)=>!M.contains i || o.guard.isNone)
structure OkM (l:List Oper) (M:List Nat):Prop where
 lt:∀ q,q<M.length→M.getD q 0<l.length
 inc1:∀ q,q+1<M.length→M.getD q 0<M.getD (q+1) 0
 chain:∀ q,q+1<M.length→((ekA l []).getD (M.getD (q+1) 0) 0).testBit (M.getD q 0)=true
 later:∀ (i:Nat) (o:Oper) (j:Nat) (oj:Oper) (d:Nat),l[i]?=some o→l[j]?=some oj→oj.dst=some d→d ∈ o.looksAt l.toArray→i<j→i ∉ M∧(((ekA l []).getD (M.getD 0 0) 0).testBit i=true∨(j ∉ M∧∃ q,q<M.length∧((ekA l []).getD (M.getD q 0) 0).testBit i=true∧((ekA l []).getD j 0).testBit (M.getD q 0)=true))
 grd:∀ (i:Nat) (o:Oper),i ∈ M→l[i]?=some o→o.guard=none
theorem u1A {l:List Oper} {M:List Nat} (h:okM l M=true):OkM l M:=by
 unfold okM at h;simp only [Bool.and_eq_true,List.all_eq_true,List.mem_range] at h;obtain ⟨⟨h1,h2⟩,h3⟩:=h;refine ⟨λ q hq=>?_,λ q hq=>?_,λ q hq=>?_,λ i o j oj d ho hj hd hl hij=>?_,λ i o hi ho=>?_⟩
 ·have:=(h1 q hq).1;simpa using this
 ·have:=(h1 (q+1) hq).2
  simp only [Nat.add_sub_cancel,Bool.or_eq_true,beq_iff_eq,Bool.and_eq_true,decide_eq_true_eq] at this
  rcases this with h|h
  ·omega
  ·exact h.1
 ·have:=(h1 (q+1) hq).2
  simp only [Nat.add_sub_cancel,Bool.or_eq_true,beq_iff_eq,Bool.and_eq_true,decide_eq_true_eq] at this
  rcases this with h|h
  ·omega
  ·exact h.2
 ·have:=h2 (o,i) (by rw [List.mem_zipIdx_iff_getElem?];exact ho) (oj,j) (by rw [List.mem_zipIdx_iff_getElem?];exact hj)
  simp only [hd,Bool.or_eq_true,decide_eq_true_eq,Bool.and_eq_true] at this
  rcases this with ((h|h)|h)|h
  ·omega
  ·have hc:(o.looksAt l.toArray).contains d=true:=by simpa using hl
   rw [hc] at h;cases h
  ·exact ⟨by simpa using h.1,.inl h.2⟩
  ·refine ⟨by simpa using h.1,.inr ⟨by simpa using h.2.1,?_⟩⟩
   obtain ⟨m,hm,hb⟩:=List.any_eq_true.1 h.2.2;obtain ⟨q,hq,rfl⟩:=List.getElem_of_mem hm;have hg:M.getD q 0=M[q]:=by simp [List.getD,hq]
   rw [Bool.and_eq_true] at hb;exact ⟨q,hq,by rw [hg];exact hb.1,by rw [hg];exact hb.2⟩
 ·have:=h3 (o,i) (by rw [List.mem_zipIdx_iff_getElem?];exact ho)
  have hc:M.contains i=true:=by simpa using hi
  simp only [hc,Bool.not_true,Bool.false_or] at this
  simpa using this
theorem OkM.inc {l:List Oper} {M:List Nat} (h:OkM l M) (q:Nat):∀ q',q<q'→q'<M.length→M.getD q 0<M.getD q' 0
 | 0,h1,_=>by omega
 | q'+1,h1,h2=>by
   by_cases e:q=q'
   ·subst e;exact h.inc1 q h2
   ·exact Nat.lt_trans (h.inc q q' oZ oZ) (h.inc1 q' h2)
theorem mem_at {M:List Nat} {m:Nat}:m ∈ M↔∃ q,q<M.length∧M.getD q 0=m:=by
 constructor
 ·intro h
  obtain ⟨q,hq,rfl⟩:=List.getElem_of_mem h;exact ⟨q,hq,by simp [List.getD,hq]⟩
 ·rintro ⟨q,hq,rfl⟩
  have:M.getD q 0=M[q]:=by simp [List.getD,hq]
  rw [this];exact List.getElem_mem hq
theorem mem_take_at {M:List Nat} {m n:Nat}:m ∈ M.take n↔∃ q,q<n∧q<M.length∧M.getD q 0=m:=by
 rw [mem_at]
 constructor
 ·rintro ⟨q,hq,h⟩
  have h1:q<n∧q<M.length:=by simp at hq;omega
  exact ⟨q,h1.1,h1.2,by rw [← h];simp [List.getD,List.getElem?_take,h1.1]⟩
 ·rintro ⟨q,h1,h2,h⟩
  exact ⟨q,by simp;omega,by rw [← h];simp [List.getD,List.getElem?_take,h1]⟩
theorem mem_drop_at {M:List Nat} {m n:Nat}:m ∈ M.drop n↔∃ q,n≤q∧q<M.length∧M.getD q 0=m:=by
 rw [mem_at]
 constructor
 ·rintro ⟨q,hq,h⟩
  exact ⟨n+q,by omega,by simp at hq;omega,by rw [← h];simp [List.getD,List.getElem?_drop]⟩
 ·rintro ⟨q,h1,h2,h⟩
  exact ⟨q-n,by simp;omega,by rw [← h];simp [List.getD,List.getElem?_drop,show n+(q-n)=q by omega]⟩
section
variable {P:Program} {l:List Oper} {M:List Nat} {n:Nat} {N:Nn} {E0:Env} {Φ:Nat→AD} {ws wb:World} {Q:Exit→Act→World→Prop} {S:Nat→Prop} {a:Act} {w:World}
def Cl (P:Program) (l:List Oper) (M:List Nat) (ws:World) (q:Nat) (Eo E:Env) (i:Nat) (o:Oper) (r:AD):Prop :=
 (eeA l M q i=0∧r=qgA Eo o)∨(eeA l M q i=1∧Stp P l ws E o r)∨(eeA l M q i=2∧Stp P l ws E o r∧∀ v w,Ext ws w→(qgA Eo o).ok v w→r.ok v w)∨(eeA l M q i=3∧∀ v w,Ext ws w→(qgA Eo o).ok v w→r.ok v w)
def LP (P:Program) (l:List Oper) (M:List Nat) (ws:World) (q:Nat) (Eo:Env) (K:Env→Prop):Nat→List Oper→Env→Prop
 | _,[],E=>K E
 | i,o::rest,E=>∃ r,Cl P l M ws q Eo E i o r∧LP P l M ws q Eo K (i+1) rest (puE o.dst r E)
theorem scA {q:Nat} {Eo:Env} {K:Env→Prop} (l:List Oper) (E0:Env) :
 ∀ (m k:Nat) (Φ0:Nat→AD),k+m=l.length→LP P l M ws q Eo K k (l.drop k) (env l E0 Φ0 k) →
  ∃ Φ:Nat→AD,(∀ i,i<k→Φ i=Φ0 i)∧(∀ i o,k≤i→l[i]?=some o→Cl P l M ws q Eo (env l E0 Φ i) i o (Φ i))∧K (env l E0 Φ l.length):=by
 intro m
 induction m with
 | zero =>
   intro k Φ0 hk h;obtain rfl:k=l.length:=oZ;rw [List.drop_length] at h;exact ⟨Φ0,λ _ _=>rfl,λ i o h1 ho=>by have:=(List.getElem?_eq_some_iff.1 ho).1;omega,h⟩
 | succ m ih =>
   intro k Φ0 hk h;have hlt:k<l.length:=oZ;have hd:l.drop k=l[k]::l.drop (k+1):=List.drop_eq_getElem_cons hlt;rw [hd] at h;obtain ⟨φ,hs,h⟩:=h
   let Φ1:Nat→AD:=λ i=>if i=k then φ else Φ0 i
   have e1:env l E0 Φ1 k=env l E0 Φ0 k:=fsA l E0 _ _ k (λ j hj=>by simp [Φ1];omega);have e2:env l E0 Φ1 (k+1)=puE l[k].dst φ (env l E0 Φ0 k):=by
    simp only [env,e1];simp [Φ1,hlt]
   obtain ⟨Φ,g1,g2,g3⟩:=ih (k+1) Φ1 oZ (by rw [e2];exact h);refine ⟨Φ,λ i hi=>by rw [g1 i oZ];simp [Φ1];omega,λ i o h1 ho=>?_,g3⟩
   by_cases e:i=k
   ·subst e
    have e3:env l E0 Φ i=env l E0 Φ0 i:=fsA l E0 _ _ i (λ j hj=>by rw [g1 j oZ];simp [Φ1];omega);have e4:Φ i=φ:=by rw [g1 i oZ];simp [Φ1]
    have e5:o=l[i]:=by rw [List.getElem?_eq_getElem hlt] at ho;exact (Option.some.inj ho).symm
    rw [e3,e4,e5];exact hs
   ·exact g2 i o oZ ho
def MX (P:Program) (N:Nn) (l:List Oper) (Q:Exit→Act→World→Prop) (m:Nat) (ws:World) (E:Env) (C:World→Env→Prop):Prop :=
 ∀ o,l[m]?=some o→∀ a w,a.tmps.size=N.n→a.defers=N.ds→Ext ws w→(∀ t,t ∈ o.looksAt l.toArray→(lkE E t).ok (a.tmps.getD t undef) w) →
  ∀ K:Act→World→Prop,(∀ v w' ws' E',Ext ws' w'→(∀ t,o.dst≠some t→(lkE E t).ok (a.tmps.getD t undef) w→(lkE E' t).ok (a.tmps.getD t undef) w')→(∀ d,o.dst=some d→(lkE E' d).ok v w')→C ws' E'→K (a.put o.dst v) w')→o.wp P a w K Q
def Phase (P:Program) (N:Nn) (l:List Oper) (Q:Exit→Act→World→Prop) (M:List Nat):List Nat→Nat→World→Env→Prop
 | [],q,ws,E0=>LP P l M ws q E0 (λ E=>PX N ws Q .normal E) 0 l E0
 | m::Ms,q,ws,E0=>LP P l M ws q E0 (λ E=>MX P N l Q m ws E (λ ws' E'=>Phase P N l Q M Ms (q+1) ws' E')) 0 l E0
def Nx (P:Program) (N:Nn) (l:List Oper) (Q:Exit→Act→World→Prop) (M:List Nat) (q:Nat) (ws:World) (E:Env):List Nat→Prop
 | []=>PX N ws Q .normal E
 | m::Ms=>MX P N l Q m ws E (λ ws' E'=>Phase P N l Q M Ms (q+1) ws' E')
theorem Phase.nx {Ms:List Nat} {q:Nat} (h:Phase P N l Q M Ms q ws E0):∃ Φ:Nat→AD,(∀ i o,l[i]?=some o→Cl P l M ws q E0 (env l E0 Φ i) i o (Φ i))∧Nx P N l Q M q ws (env l E0 Φ l.length) Ms:=by
 cases Ms with
 | nil =>
   obtain ⟨Φ,-,h2,h3⟩:=scA l E0 l.length 0 (λ _=>.any) oZ (show LP P l M ws q E0 _ 0 (l.drop 0) _ from h);exact ⟨Φ,λ i o ho=>h2 i o (Nat.zero_le _) ho,h3⟩
 | cons m Ms =>
   obtain ⟨Φ,-,h2,h3⟩:=scA l E0 l.length 0 (λ _=>.any) oZ (show LP P l M ws q E0 _ 0 (l.drop 0) _ from h);exact ⟨Φ,λ i o ho=>h2 i o (Nat.zero_le _) ho,h3⟩
structure InvQ (l:List Oper) (M:List Nat) (E0:Env) (Φ:Nat→AD) (N:Nn) (ws:World) (q:Nat) (S:Nat→Prop) (a:Act) (w:World):Prop where
 sz:a.tmps.size=N.n
 df:a.defers=N.ds
 ext:Ext ws w
 cl:∀ j o,S j→l[j]?=some o→∀ e ∈ o.after,Region.binds .any e=true→S e.on
 fx:∀ (j:Nat) (o:Oper) (d:Nat),S j→l[j]?=some o→o.dst=some d→(Φ j).ok (a.tmps.getD d undef) w
 un:∀ t:Nat,(∀ (j:Nat) (o:Oper),l[j]?=some o→o.dst=some t→¬ S j∧(q=0∨eeA l M q j=3))→(lkE E0 t).ok (a.tmps.getD t undef) w
theorem v4A {q j:Nat} (h:eeA l M (q+1) j=3):eeA l M q j=3:=by
 unfold eeA at h ⊢;cases hm:M.contains j
 ·rw [hm,cond_false] at h
  rw [cond_false];cases hA:(M.drop (q+1)).any λ m=>((ekA l []).getD j 0).testBit m
  ·rw [hA,cond_false] at h
   cases hB:(M.take (q+1)).any λ m=>((ekA l []).getD m 0).testBit j
   ·rw [hB,cond_false] at h
    have:(q+1 == 0)=false:=rfl;rw [this,cond_false] at h;cases hb:((ekA l []).getD j 0).testBit (M.getD (q+1-1) 0) <;> rw [hb] at h <;> cases h
   ·rw [hB] at h;cases h
  ·obtain ⟨m,h1,h2⟩:=List.any_eq_true.1 hA
   obtain ⟨q2,h3,h4,rfl⟩:=mem_drop_at.1 h1;have:((M.drop q).any λ m=>((ekA l []).getD j 0).testBit m)=true:=List.any_eq_true.2 ⟨_,mem_drop_at.2 ⟨q2,by omega,h4,rfl⟩,h2⟩;rw [this];rfl
 ·rw [hm,cond_true] at h
  rw [cond_true];cases hc:(M.take q).contains j
  ·rfl
  ·have h1:j ∈ M.take q:=by simpa using hc
   obtain ⟨q2,h2,h3,rfl⟩:=mem_take_at.1 h1;have h4:(M.take (q+1)).contains (M.getD q2 0)=true:=by
    have:M.getD q2 0 ∈ M.take (q+1):=mem_take_at.2 ⟨q2,by omega,h3,rfl⟩
    simpa using this
   rw [h4] at h;cases h
theorem rqA {q q2 j:Nat} (hj:j ∉ M) (hq:q≤q2) (hq2:q2<M.length) (hb:((ekA l []).getD j 0).testBit (M.getD q2 0)=true):eeA l M q j=3:=by
 unfold eeA;have h1:M.contains j=false:=by simpa using hj
 have h2:((M.drop q).any λ m=>((ekA l []).getD j 0).testBit m)=true:=List.any_eq_true.2 ⟨_,mem_drop_at.2 ⟨q2,hq,hq2,rfl⟩,hb⟩;rw [h1,h2];rfl
theorem ngA {o:Oper} {v:Value} (hok:OkR l n N.n) (hsz:a.tmps.size=N.n) {i:Nat} (ho:l[i]?=some o) (t:Nat):(a.put o.dst v).tmps.getD t undef=if o.dst=some t then v else a.tmps.getD t undef:=by
 cases hd:o.dst with
 | none=>simp [Act.put]
 | some d =>
   rw [jtA a d t v (by rw [hsz];exact hok.dst i o d ho hd)]
   by_cases e:t=d
   ·simp [e]
   ·rw [if_neg e,if_neg (by simpa using λ h=>e h.symm)]
theorem InvQ.opnd (hok:OkR l n N.n) (hM:OkM l M) {q:Nat} (hq:q≤M.length) (hI:InvQ l M E0 Φ N ws q S a w) (hS:∀ q',q'<q→S (M.getD q' 0)) {i:Nat} {o:Oper} (ho:l[i]?=some o) (hun:¬ S i) (hr:∀ e ∈ o.after,Region.binds .any e=true→S e.on)
 {t:Nat} (ht:t ∈ o.looksAt l.toArray):(lkE (env l E0 Φ i) t).ok (a.tmps.getD t undef) w:=by
 by_cases hw:∃ j oj,j<i∧l[j]?=some oj∧oj.dst=some t
 ·obtain ⟨j,oj,hj,hoj,hd⟩:=hw
  rw [eaA l E0 Φ t j oj hoj hd i hj (λ k o' h1 h2 h3 h4=>by have:=hok.uniq k o' j oj t h3 hoj hd h4;omega)];have hb:=(hok.look i o j oj t ho hoj hd ht).2.1 hj;exact hI.fx j oj t (cuA l S hI.cl i o j ho hr hb) hoj hd
 ·rw [ebA l E0 Φ t i (λ j o' h1 h2 h3=>hw ⟨j,o',h1,h2,h3⟩)]
  refine hI.un t (λ j oj hoj hd=>?_);have h1:=hok.look i o j oj t ho hoj hd ht;have hji:¬ j<i:=λ h=>hw ⟨j,oj,h,hoj,hd⟩
  have hij:i<j:=by have:=h1.1;omega
  refine ⟨λ hj=>hun (cuA l S hI.cl j oj i hoj (hI.cl j oj hj hoj) (h1.2.2 hij)),?_⟩
  by_cases hq0:q=0
  ·exact .inl hq0
  ·rcases (hM.later i o j oj t ho hoj hd ht hij).2 with h2|⟨hjM,q2,hq2,h3,h4⟩
   ·have h0:=hS 0 oZ
    have hlt:=hM.lt 0 oZ;exact absurd (cuA l S hI.cl (M.getD 0 0) _ i (List.getElem?_eq_getElem hlt) (hI.cl _ _ h0 (List.getElem?_eq_getElem hlt)) h2) hun
   ·rcases Nat.lt_or_ge q2 q with h|h
    ·have h0:=hS q2 h
     have hlt:=hM.lt q2 hq2;exact absurd (cuA l S hI.cl (M.getD q2 0) _ i (List.getElem?_eq_getElem hlt) (hI.cl _ _ h0 (List.getElem?_eq_getElem hlt)) h3) hun
    ·exact .inr (rqA hjM h hq2 h4)
theorem InvQ.opndM (hok:OkR l n N.n) (hM:OkM l M) {q:Nat} (hI:InvQ l M E0 Φ N ws q S a w) {i:Nat} {o:Oper} (hi:i ∈ M) (ho:l[i]?=some o) (hr:∀ e ∈ o.after,Region.binds .any e=true→S e.on)
 {t:Nat} (ht:t ∈ o.looksAt l.toArray):(lkE (env l E0 Φ l.length) t).ok (a.tmps.getD t undef) w:=by
 by_cases hw:∃ (j:Nat) (oj:Oper),l[j]?=some oj∧oj.dst=some t
 ·obtain ⟨j,oj,hoj,hd⟩:=hw
  have hjl:j<l.length:=(List.getElem?_eq_some_iff.1 hoj).1;rw [eaA l E0 Φ t j oj hoj hd _ hjl (λ k o' h1 h2 h3 h4=>by have:=hok.uniq k o' j oj t h3 hoj hd h4;omega)];have h1:=hok.look i o j oj t ho hoj hd ht;have hji:j<i:=by
   rcases Nat.lt_or_ge j i with h|h
   ·exact h
   ·exact absurd hi (hM.later i o j oj t ho hoj hd ht (by have:=h1.1;omega)).1
  exact hI.fx j oj t (cuA l S hI.cl i o j ho hr (h1.2.1 hji)) hoj hd
 ·rw [ebA l E0 Φ t _ (λ j o' h1 h2 h3=>hw ⟨j,o',h2,h3⟩)]
  exact hI.un t (λ j oj hoj hd=>absurd ⟨j,oj,hoj,hd⟩ hw)
theorem InvQ.step (hok:OkR l n N.n) {q:Nat} (hI:InvQ l M E0 Φ N ws q S a w) {i:Nat} {o:Oper} (ho:l[i]?=some o) (hun:¬ S i)
 (hr:∀ e ∈ o.after,Region.binds .any e=true→S e.on) {w':World} (hw:Ext w w') {v:Value} (hv:(Φ i).ok v w'):InvQ l M E0 Φ N ws q (λ j=>S j∨j=i) (a.put o.dst v) w':=by
 have put_t:=λ t=>ngA (v:=v) hok hI.sz ho t
 refine ⟨?_,?_,hI.ext.trans hw,?_,?_,?_⟩
 ·cases hd:o.dst <;> simp [Act.put,hI.sz]
 ·cases hd:o.dst <;> simp [Act.put,hI.df]
 ·rintro j oj (hj|rfl) hoj e he hb
  ·exact .inl (hI.cl j oj hj hoj e he hb)
  ·rw [ho] at hoj;obtain rfl:=Option.some.inj hoj;exact .inl (hr e he hb)
 ·rintro j oj d (hj|rfl) hoj hd
  ·rw [put_t,if_neg (λ h=>by have:=hok.uniq i o j oj d ho hoj hd h;subst this;exact hun hj)]
   exact (Φ j).mono hw (hI.fx j oj d hj hoj hd)
  ·rw [ho] at hoj;obtain rfl:=Option.some.inj hoj
   rw [put_t,if_pos hd];exact hv
 ·intro t ht
  rw [put_t,if_neg (λ h=>(ht i o ho h).1 (.inr rfl))];exact (lkE E0 t).mono hw (hI.un t (λ j oj h1 h2=>⟨λ hs=>(ht j oj h1 h2).1 (.inl hs),(ht j oj h1 h2).2⟩))
theorem ouA (hok:OkR l n N.n) (hM:OkM l M) :
 ∀ (fuel q:Nat) (Ms:List Nat) (ws:World) (E0:Env) (Φ:Nat→AD) (listed:Array Bool) (a:Act) (w:World),Ms=M.drop q→q≤M.length→listed.size=l.length→(listed.toList.filter (!·)).length=fuel →
  (∀ q',q'<M.length→(listed.getD (M.getD q' 0) false=true↔q'<q))→(∀ i o,l[i]?=some o→Cl P l M ws q E0 (env l E0 Φ i) i o (Φ i))→Nx P N l Q M q ws (env l E0 Φ l.length) Ms →
  InvQ l M E0 Φ N ws q (λ j=>listed.getD j false=true) a w→wpAny P .any l.toArray Q fuel listed a w:=by
 intro fuel
 induction fuel with
 | zero =>
   intro q Ms ws E0 Φ listed a w hMs hq hsz hf hSM hCl hNx hI;have hall:∀ j,j<l.length→listed.getD j true=true∧listed.getD j false=true:=λ j hj=>by
    have h0:listed.toList.filter (!·)=[]:=List.eq_nil_of_length_eq_zero hf;rw [List.filter_eq_nil_iff] at h0;have hj':j<listed.size:=oZ;have:=h0 listed[j] (by simp);simp only [Bool.not_eq_true',Bool.not_eq_false] at this;simp [Array.getD,hj',this]
   have hqe:q=M.length:=by
    rcases Nat.lt_or_ge q M.length with h|h
    ·have h1:=(hSM q h).1 (hall _ (hM.lt q h)).2;omega
    ·omega
   have:Ms=[]:=by rw [hMs,hqe,List.drop_length]
   subst this;refine ⟨?_,?_⟩
   ·rw [List.eq_nil_iff_forall_not_mem]
    intro j hj;obtain ⟨h1,o,ho,_⟩:=mem_ready.1 hj;have hjl:j<l.length:=by have:=(Array.getElem?_eq_some_iff.1 ho).1;simpa using this
    rw [(hall j hjl).1] at h1;cases h1
   ·unfold Nx PX at hNx
    refine hNx a w ⟨hI.sz,hI.df,hI.ext,λ t=>?_⟩
    by_cases hw:∃ (j:Nat) (oj:Oper),l[j]?=some oj∧oj.dst=some t
    ·obtain ⟨j,oj,hoj,hd⟩:=hw
     have hjl:j<l.length:=(List.getElem?_eq_some_iff.1 hoj).1;rw [eaA l E0 Φ t j oj hoj hd _ hjl (λ k o' h1 h2 h3 h4=>by have:=hok.uniq k o' j oj t h3 hoj hd h4;omega)];exact hI.fx j oj t (hall j hjl).2 hoj hd
    ·rw [ebA l E0 Φ t _ (λ j o' h1 h2 h3=>hw ⟨j,o',h2,h3⟩)]
     exact hI.un t (λ j oj hoj hd=>absurd ⟨j,oj,hoj,hd⟩ hw)
 | succ fuel ih =>
   intro q Ms ws E0 Φ listed a w hMs hq hsz hf hSM hCl hNx hI;have hun:∃ i,i<l.length∧listed.getD i false=false∧∀ j,j<i→listed.getD j false=true:=by
    have:∃ i,i<l.length∧listed.getD i false=false:=by
     apply Classical.byContradiction
     intro hno;have:listed.toList.filter (!·)=[]:=by
      rw [List.filter_eq_nil_iff];intro b hb;obtain ⟨i,hi,rfl⟩:=List.getElem_of_mem hb;have hi':i<listed.size:=by simpa using hi
      have h2:listed.getD i false≠false:=λ h=>hno ⟨i,by omega,h⟩
      simp [Array.getD,hi'] at h2
      simp [h2]
     rw [this] at hf;simp at hf
    obtain ⟨i,hi,hli⟩:=this;have:∀ m,(∃ i,i<m∧i<l.length∧listed.getD i false=false)→∃ i,i<l.length∧listed.getD i false=false∧∀ j,j<i→listed.getD j false=true:=by
     intro m
     induction m with
     | zero=>rintro ⟨i,h,_⟩;omega
     | succ m ihm =>
       rintro ⟨i,h1,h2,h3⟩
       by_cases hex:∃ i,i<m∧i<l.length∧listed.getD i false=false
       ·exact ihm hex
       ·refine ⟨i,h2,h3,λ j hj=>?_⟩
        have hj2:listed.getD j false≠false:=λ h=>hex ⟨j,by omega,by omega,h⟩
        simpa using hj2
    exact this (i+1) ⟨i,by omega,hi,hli⟩
   refine ⟨λ h0=>?_,λ i hi=>?_⟩
   ·obtain ⟨i,hil,hli,hlow⟩:=hun
    have:i ∈ Region.ready .any l.toArray listed:=by
     refine mem_ready.2 ⟨by have h':i<listed.size:=oZ
                            simp [Array.getD,h'] at hli ⊢;exact hli,l[i],by simp [hil],λ e he hb=>hlow _ (hok.back i l[i] (List.getElem?_eq_getElem hil) e he hb)⟩
    rw [h0] at this;cases this
   ·obtain ⟨h1,o,ho,he⟩:=mem_ready.1 hi
    have hil:i<l.length:=by have:=(Array.getElem?_eq_some_iff.1 ho).1;simpa using this
    have ho':l[i]?=some o:=by simpa using ho
    have hli:¬ (listed.getD i false=true):=by
     have h':i<listed.size:=oZ;simp [Array.getD,h'] at h1 ⊢;exact h1
    have hset:∀ j,(listed.setIfInBounds i true).getD j false=true↔(listed.getD j false=true∨j=i):=λ j=>by
     simp only [Array.getD_eq_getD_getElem?]
     by_cases e:j=i
     ·subst e;simp [hsz,hil]
     ·rw [Array.getElem?_setIfInBounds_ne oZ];simp [e]
    have hseq:(λ j=>(listed.setIfInBounds i true).getD j false=true)=(λ j=>listed.getD j false=true∨j=i):=funext λ j=>propext (hset j)
    have hcount:((listed.setIfInBounds i true).toList.filter (!·)).length=fuel:=by
     have hi':i<listed.toList.length:=by simp;omega
     have e1:listed.toList=listed.toList.take i++false::listed.toList.drop (i+1):=by
      conv=>lhs;rw [← List.take_append_drop i listed.toList,List.drop_eq_getElem_cons hi']
      have:listed.toList[i]=false:=by
       have h':i<listed.size:=oZ;simp [Array.getD,h'] at hli;simpa using hli
      rw [this]
     have e2:(listed.setIfInBounds i true).toList=listed.toList.take i++true::listed.toList.drop (i+1):=by
      rw [Array.toList_setIfInBounds,List.set_eq_take_append_cons_drop,if_pos hi']
     rw [e1] at hf;rw [e2];simp [List.filter_append] at hf ⊢;omega
    have hbc:∀ j,((ekA l []).getD i 0).testBit j=true→listed.getD j false=true:=λ j hb=>cuA l _ hI.cl i o j ho' he hb
    have hSb:∀ j,listed.getD j false=true→∀ k,((ekA l []).getD j 0).testBit k=true→listed.getD k false=true:=λ j hj k hb=>by
     have hjl:j<l.length:=by
      rcases Nat.lt_or_ge j listed.size with h|h
      ·omega
      ·simp [Array.getD,Nat.not_lt.2 h] at hj
     exact cuA l _ hI.cl j _ k (List.getElem?_eq_getElem hjl) (hI.cl j _ hj (List.getElem?_eq_getElem hjl)) hb
    by_cases hiM:i ∈ M
    ·obtain ⟨q',hq',rfl⟩:=mem_at.1 hiM
     have hqq:q'=q:=by
      have hge:¬ q'<q:=λ h=>hli ((hSM q' hq').2 h)
      rcases Nat.lt_or_ge q q' with h|h
      ·have h2:=hM.chain (q'-1) oZ
       rw [show q'-1+1=q' by omega] at h2;have h3:=(hSM (q'-1) oZ).1 (hbc _ h2);omega
      ·omega
     subst hqq;have hMs2:Ms=M.getD q' 0::M.drop (q'+1):=by
      rw [hMs,List.drop_eq_getElem_cons hq'];simp [List.getD,hq']
     subst hMs2;have hg:=hM.grd _ o hiM ho';unfold wpOp;simp only [ho];have hwt:Region.wanted o (yielded l.toArray a.tmps)=true:=by unfold Region.wanted;rw [hg]
     rw [hwt,if_pos rfl];refine .inl (hNx o ho' a w hI.sz hI.df hI.ext (λ t ht=>hI.opndM hok hM hiM ho' he ht) _ (λ v w' ws' E' hx htr hd hC=>?_));obtain ⟨Φ',hCl',hNx'⟩:=hC.nx;have put_t:=λ t=>ngA (v:=v) hok hI.sz ho' t
     have hlk:∀ j oj d,l[j]?=some oj→oj.dst=some d→lkE (env l E0 Φ l.length) d=Φ j:=λ j oj d hoj hd =>
      eaA l E0 Φ d j oj hoj hd _ (List.getElem?_eq_some_iff.1 hoj).1 (λ k o' h1 h2 h3 h4=>by have:=hok.uniq k o' j oj d h3 hoj hd h4;omega)
     refine ih (q'+1) _ ws' E' Φ' _ _ w' rfl hq' (by simpa using hsz) hcount (λ q2 hq2=>?_) hCl' hNx' ?_
     ·rw [hset]
      constructor
      ·rintro (h|h)
       ·have:=(hSM q2 hq2).1 h;omega
       ·rcases Nat.lt_trichotomy q2 q' with h' | h' | h'
        ·omega
        ·omega
        ·have:=hM.inc q' q2 h' hq2;omega
      ·intro h
       by_cases e:q2=q'
       ·right;rw [e]
       ·left;exact (hSM q2 hq2).2 oZ
     ·rw [hseq]
      refine ⟨?_,?_,hx,?_,?_,?_⟩
      ·cases hd:o.dst <;> simp [Act.put,hI.sz]
      ·cases hd:o.dst <;> simp [Act.put,hI.df]
      ·rintro j oj (hj|rfl) hoj e he' hb
       ·exact .inl (hI.cl j oj hj hoj e he' hb)
       ·rw [ho'] at hoj;obtain rfl:=Option.some.inj hoj;exact .inl (he e he' hb)
      ·rintro j oj d (hj|rfl) hoj hdj
       ·have hne:o.dst≠some d:=λ h=>by have:=hok.uniq _ o j oj d ho' hoj hdj h;subst this;exact hli hj
        rw [put_t,if_neg hne];have hold:(qgA E' oj).ok (a.tmps.getD d undef) w':=by
         unfold qgA;rw [hdj];have:=hI.fx j oj d hj hoj hdj;rw [← hlk j oj d hoj hdj] at this;exact htr d hne this
        rcases hCl' j oj hoj with ⟨-,h⟩|⟨hc,-⟩|⟨-,-,h⟩|⟨-,h⟩
        ·rw [h];exact hold
        ·exfalso
         unfold eeA at hc
         by_cases hjM:j ∈ M
         ·have:M.contains j=true:=by simpa using hjM
          rw [this,cond_true] at hc;cases hct:(M.take (q'+1)).contains j <;> rw [hct] at hc <;> cases hc
         ·have:M.contains j=false:=by simpa using hjM
          rw [this,cond_false] at hc;have hb:((ekA l []).getD j 0).testBit (M.getD q' 0)=true:=by
           cases hA:(M.drop (q'+1)).any λ m=>((ekA l []).getD j 0).testBit m
           ·rw [hA,cond_false] at hc
            cases hB:(M.take (q'+1)).any λ m=>((ekA l []).getD m 0).testBit j
            ·rw [hB,cond_false] at hc
             have:(q'+1 == 0)=false:=rfl;rw [this,cond_false,Nat.add_sub_cancel] at hc;cases hb:((ekA l []).getD j 0).testBit (M.getD q' 0)
             ·rw [hb] at hc;cases hc
             ·rfl
            ·rw [hB] at hc;cases hc
           ·rw [hA] at hc;cases hc
          exact hli (hSb j hj _ hb)
        ·exact h _ _ hx hold
        ·exact h _ _ hx hold
       ·rw [ho'] at hoj;obtain rfl:=Option.some.inj hoj
        rw [put_t,if_pos hdj];have hold:(qgA E' o).ok v w':=by unfold qgA;rw [hdj];exact hd d hdj
        have hcls:eeA l M (q'+1) (M.getD q' 0)=0:=by
         unfold eeA;have e1:M.contains (M.getD q' 0)=true:=by simpa using hiM
         have e2:(M.take (q'+1)).contains (M.getD q' 0)=true:=by
          have:M.getD q' 0 ∈ M.take (q'+1):=mem_take_at.2 ⟨q',by omega,hq',rfl⟩
          simpa using this
         rw [e1,e2];rfl
        rcases hCl' _ o ho' with ⟨-,h⟩|⟨h,-⟩|⟨h,-⟩|⟨h,-⟩
        ·rw [h];exact hold
        ·rw [hcls] at h;cases h
        ·rw [hcls] at h;cases h
        ·rw [hcls] at h;cases h
      ·intro t ht
       have hne:o.dst≠some t:=λ h=>(ht _ o ho' h).1 (.inr rfl)
       rw [put_t,if_neg hne];refine htr t hne ?_
       have hl3:∀ j oj,l[j]?=some oj→oj.dst=some t→eeA l M q' j=3:=λ j oj h1 h2=>by
        rcases (ht j oj h1 h2).2 with h|h
        ·omega
        ·exact v4A h
       have hold:=hI.un t (λ j oj h1 h2=>⟨λ hs=>(ht j oj h1 h2).1 (.inl hs),.inr (hl3 j oj h1 h2)⟩)
       by_cases hw:∃ (j:Nat) (oj:Oper),l[j]?=some oj∧oj.dst=some t
       ·obtain ⟨j,oj,hoj,hd'⟩:=hw
        rw [hlk j oj t hoj hd'];have h3:=hl3 j oj hoj hd'
        rcases hCl j oj hoj with ⟨h,-⟩|⟨h,-⟩|⟨h,-⟩|⟨-,h⟩
        ·rw [h3] at h;cases h
        ·rw [h3] at h;cases h
        ·rw [h3] at h;cases h
        ·exact h _ _ hI.ext (by unfold qgA;rw [hd'];exact hold)
       ·rw [ebA l E0 Φ t _ (λ j o' h1 h2 h3=>hw ⟨j,o',h2,h3⟩)]
        exact hold
    ·unfold wpOp
     simp only [ho];have hcls:Stp P l ws (env l E0 Φ i) o (Φ i):=by
      have hMi:M.contains i=false:=by simpa using hiM
      rcases hCl i o ho' with ⟨h,-⟩|⟨-,h⟩|⟨-,h,-⟩|⟨h,-⟩
      ·exfalso
       unfold eeA at h;rw [hMi,cond_false] at h;cases hA:(M.drop q).any λ m=>((ekA l []).getD i 0).testBit m
       ·rw [hA,cond_false] at h
        cases hB:(M.take q).any λ m=>((ekA l []).getD m 0).testBit i
        ·rw [hB,cond_false] at h
         cases h1:(q == 0) <;> rw [h1] at h
         ·rw [cond_false] at h
          cases h2:((ekA l []).getD i 0).testBit (M.getD (q-1) 0) <;> rw [h2] at h <;> cases h
         ·cases h
        ·obtain ⟨m,hm,hb⟩:=List.any_eq_true.1 hB
         obtain ⟨q2,h2,h3,rfl⟩:=mem_take_at.1 hm;exact hli (hSb _ ((hSM q2 h3).2 h2) i hb)
       ·rw [hA] at h;cases h
      ·exact h
      ·exact h
      ·exfalso
       unfold eeA at h;rw [hMi,cond_false] at h;cases hA:(M.drop q).any λ m=>((ekA l []).getD i 0).testBit m
       ·rw [hA,cond_false] at h
        cases hB:(M.take q).any λ m=>((ekA l []).getD m 0).testBit i
        ·rw [hB,cond_false] at h
         cases h1:(q == 0) <;> rw [h1] at h
         ·rw [cond_false] at h
          cases h2:((ekA l []).getD i 0).testBit (M.getD (q-1) 0) <;> rw [h2] at h <;> cases h
         ·cases h
        ·rw [hB] at h;cases h
       ·obtain ⟨m,hm,hb⟩:=List.any_eq_true.1 hA
        obtain ⟨q2,h2,h3,rfl⟩:=mem_drop_at.1 hm;have:=(hSM q2 h3).1 (hbc _ hb);omega
     refine pnA hcls hI.ext (λ t ht=>hI.opnd hok hM hq (λ q' hq'=>(hSM q' oZ).2 hq') ho' hli he ht) (λ v w' he' hv=>?_);have hI':=hI.step hok ho' hli he he' hv;refine ih q Ms ws E0 Φ _ _ w' hMs hq (by simpa using hsz) hcount (λ q2 hq2=>?_) hCl hNx ?_
     ·rw [hset]
      constructor
      ·rintro (h|h)
       ·exact (hSM q2 hq2).1 h
       ·exact absurd (mem_at.2 ⟨q2,hq2,h⟩) hiM
      ·intro h;left;exact (hSM q2 hq2).2 h
     ·rw [hseq];exact hI'
theorem aqA (M:List Nat) {id:Nat} {E:Env} (hP:P.follows .mixedOrders=true) (hok:okR l l.length N.n=true) (hM:okM l M=true) (h:Phase P N l Q M M 0 wb E):CX P N wb (.region id l.toArray true) E Q:=by
 unfold CX;intro a w hst;have hok':=njA hok;have hM':=u1A hM;obtain ⟨Φ,h2,h3⟩:=h.nx;refine wp_region_any hP ?_
 rw [List.size_toArray];have hno:∀ j,(Array.replicate l.length false).getD j false=true→False:=λ j hj=>by
  simp [Array.getD_eq_getD_getElem?,Array.getElem?_replicate] at hj
  split at hj <;> cases hj
 refine ouA hok' hM' _ 0 M wb E Φ _ _ _ rfl (Nat.zero_le _) (by simp) (by simp) (λ q' hq'=>⟨λ h=>(hno _ h).elim,λ h=>by omega⟩) h2 h3 ?_
 exact ⟨hst.sz,hst.df,hst.ext.trans Ext.drawn,λ j o hj=>(hno _ hj).elim,λ j o d hj=>(hno _ hj).elim,λ t _=>(lkE E t).mono Ext.drawn (hst.sat t)⟩
variable {rest:List Oper} {E Eo:Env} {q i m d:Nat} {o:Oper} {K:Env→Prop} {F:Env→Prop}
def Kx (rest:List Oper) (F:Env→Prop):List Oper→Env→Prop:=λ rest' E=>rest'=rest∧F E
theorem wtA:∀ (k:List Oper) {E:Env},LA P l ws (Kx rest F) k E→rest.length≤k.length
 | [],_,h=>by rw [h8A] at h;rw [← h.1];exact Nat.le_refl _
 | o::k,_,h=>by
   rw [eiA] at h
   rcases h with ⟨r,-,h⟩|h
   ·have:=wtA k h;simp;omega
   ·rw [← h.1];exact Nat.le_refl _
theorem c5B (h:LA P l ws (Kx rest F) rest E):F E:=by
 cases rest with
 | nil=>rw [h8A] at h;exact h.2
 | cons o r =>
   rw [eiA] at h
   rcases h with ⟨r0,-,h⟩|h
   ·have:=wtA r h;simp at this;omega
   ·exact h.2
theorem mzA (h:F E):LA P l ws (Kx rest F) rest E:=by
 cases rest with
 | nil=>rw [h8A];exact ⟨rfl,h⟩
 | cons o r=>rw [eiA];exact .inr ⟨rfl,h⟩
theorem c1B (h:K E):LP P l M ws q Eo K i [] E:=h
theorem c0B (hc:eeA l M q i=1) (h:LA P l ws (Kx rest (LP P l M ws q Eo K (i+1) rest)) (o::rest) E):LP P l M ws q Eo K i (o::rest) E:=by
 rw [eiA] at h
 rcases h with ⟨r,hs,h⟩|h
 ·exact ⟨r,.inr (.inl ⟨hc,hs⟩),c5B h⟩
 ·have:=congrArg List.length h.1;simp at this
def Ff (P:Program) (l:List Oper) (M:List Nat) (ws:World) (q:Nat) (Eo:Env) (K:Env→Prop) (d i:Nat) (rest:List Oper) (E:Env):Prop :=
 (∃ r E2,E=(d,r)::E2∧∀ v w,Ext ws w→(lkE Eo d).ok v w→r.ok v w)∧LP P l M ws q Eo K (i+1) rest E
theorem vnA (hc:eeA l M q i=2) (hd:o.dst=some d) (h:LA P l ws (Kx rest (Ff P l M ws q Eo K d i rest)) (o::rest) E):LP P l M ws q Eo K i (o::rest) E:=by
 rw [eiA] at h
 rcases h with ⟨r,hs,h⟩|h
 ·obtain ⟨⟨r',E2,h1,h2⟩,h3⟩:=c5B h
  rw [hd] at h1;simp only [puE,List.cons.injEq,Prod.mk.injEq,true_and] at h1;obtain ⟨rfl,-⟩:=h1;exact ⟨r,.inr (.inr (.inl ⟨hc,hs,by unfold qgA;rw [hd];exact h2⟩)),h3⟩
 ·have:=congrArg List.length h.1;simp at this
theorem vvA {c:Value} (hl:lkE Eo d=.val c) (h:LP P l M ws q Eo K (i+1) rest ((d,.val c)::E)):LA P l ws (Kx rest (Ff P l M ws q Eo K d i rest)) rest ((d,.val c)::E) :=
 mzA ⟨⟨_,_,rfl,λ v w _ hv=>by rw [hl] at hv;exact hv⟩,h⟩
theorem vxA (h:LP P l M ws q Eo K (i+1) rest E):LA P l ws (Kx rest (LP P l M ws q Eo K (i+1) rest)) rest E:=mzA h
theorem vwA {r:AD} (hr:∀ v w,Ext ws w→(lkE Eo d).ok v w→r.ok v w) (h:LP P l M ws q Eo K (i+1) rest ((d,r)::E)):LA P l ws (Kx rest (Ff P l M ws q Eo K d i rest)) rest ((d,r)::E) :=
 mzA ⟨⟨_,_,rfl,hr⟩,h⟩
theorem voA {v:Value} (hc:eeA l M q i=0) (hd:o.dst=some d) (hl:lkE Eo d=.val v) (h:LP P l M ws q Eo K (i+1) rest ((d,.val v)::E)):LP P l M ws q Eo K i (o::rest) E :=
 ⟨.val v,.inl ⟨hc,by unfold qgA;rw [hd];exact hl.symm⟩,by rw [hd];exact h⟩
theorem vpA (hc:eeA l M q i=0) (hd:o.dst=some d) (hl:lkE Eo d=.any) (h:LP P l M ws q Eo K (i+1) rest ((d,.any)::E)):LP P l M ws q Eo K i (o::rest) E :=
 ⟨.any,.inl ⟨hc,by unfold qgA;rw [hd];exact hl.symm⟩,by rw [hd];exact h⟩
theorem vqA (hc:eeA l M q i=0) (hd:o.dst=none) (h:LP P l M ws q Eo K (i+1) rest E):LP P l M ws q Eo K i (o::rest) E :=
 ⟨_,.inl ⟨hc,rfl⟩,by rw [hd];exact h⟩
theorem vmA (hc:eeA l M q i=3) (hd:o.dst=some d) (h:LP P l M ws q Eo K (i+1) rest ((d,.any)::E)):LP P l M ws q Eo K i (o::rest) E :=
 ⟨.any,.inr (.inr (.inr ⟨hc,λ _ _ _ _=>trivial⟩)),by rw [hd];exact h⟩
theorem sdA (hc:eeA l M q i=3) (hd:o.dst=none) (h:LP P l M ws q Eo K (i+1) rest E):LP P l M ws q Eo K i (o::rest) E :=
 ⟨.any,.inr (.inr (.inr ⟨hc,λ _ _ _ _=>trivial⟩)),by rw [hd];exact h⟩
theorem apA {E0:Env} (h:LP P l M ws q E0 (λ E=>PX N ws Q .normal E) 0 l E0):Phase P N l Q M [] q ws E0:=h
theorem a7A {Ms:List Nat} {E0:Env} (h:LP P l M ws q E0 (λ E=>MX P N l Q m ws E (λ ws' E'=>Phase P N l Q M Ms (q+1) ws' E')) 0 l E0):Phase P N l Q M (m::Ms) q ws E0:=h
theorem oLP (h:LP P l M ws q Eo K i rest E):LP P l M ws q Eo K i rest E:=h
variable {C:World→Env→Prop} {ty t t':TypeId} {pos:String} {after:Array Edge} {x y z:Operand} {k k':IntKind}
theorem yiA {o:Oper} {t:Nat} (h:Operand.tmp t ∈ o.op.operands):t ∈ o.looksAt l.toArray:=by
 simp only [Oper.looksAt];exact List.mem_append_left _ (List.mem_filterMap.2 ⟨.tmp t,by simpa using h,rfl⟩)
theorem lkA {o:Oper} {x:Operand} (h:∀ t,t ∈ o.looksAt l.toArray→(lkE E t).ok (a.tmps.getD t undef) w) (hx:x ∈ o.op.operands):(opE E x).ok (a.eval x) w:=by
 cases x with
 | tmp t=>exact h t (yiA hx)
 | const v=>rfl
 | global g=>rfl
 | func f=>rfl
theorem c2A {w w':World} (t:Nat) (u:Value) (h:(lkE E t).ok u w):(lkE (vals E) t).ok u w':=by
 rw [pkA];cases hl:lkE E t <;> rw [hl] at h <;> first|exact h|trivial
theorem dzA {b o:Nat} {cur:Array Value} {e:TypeId} {c:Value} {news:List Value} (hm:l[m]?=some ⟨none,.store t x y,ty,pos,after,none⟩) (hx:opE E x=.val (.pointer (some ⟨b,o,none⟩))) (hy:opE E y=.val c) (hb:ws.heap[b]?=some (.cells cur e (0,0))) (hc:c.cells=news.toArray)
 (hs:∀ w,(sizeOf t).run P w=.ok news.length w) (ho:o+news.length≤cur.size) (h1:∀ u ∈ news,u.oneCell'=true)
 (h:∀ w,Ext ws w→∃ E',(∀ t u,(lkE E t).ok u w→(lkE E' t).ok u (w.setRow b (cur.toList.take o++news++cur.toList.drop (o+news.length)).toArray))∧C (w.setRow b (cur.toList.take o++news++cur.toList.drop (o+news.length)).toArray) E'):MX P N l Q m ws E C:=by
 intro o' ho' a w hsz hdf hext hop K hK;rw [hm] at ho';obtain rfl:=Option.some.inj ho';have e1:=lkA (x:=x) hop (by simp [Op.operands]);rw [hx] at e1;simp only [AD.ok] at e1;have e2:=lkA (x:=y) hop (by simp [Op.operands]);rw [hy] at e2;simp only [AD.ok] at e2;have hrun:(Instr.storeAt t (.pointer (some ⟨b,o,none⟩)) c).run P w=.ok () (w.setRow b (cur.toList.take o++news++cur.toList.drop (o+news.length)).toArray):=by
  have hst:=run_storeCells_at P b o e news 0 cur w (hext.block hb) oZ h1;rw [Nat.add_zero] at hst;simp only [Instr.storeAt,Instr.sureAddr,storeVar,Sem.run_bind,Sem.run_pure,Result.andThen_ok,hs,hc,ne_eq,if_false,List.size_toArray,not_true_eq_false,hst]
 obtain ⟨E',hE,hC⟩:=h w hext;unfold Oper.wp;simp only [execOp,Sem.run_bind,e1,e2,hrun,Result.andThen_ok,Sem.run_pure,Oper.upon];exact hK undef _ _ E' (Ext.refl _) (λ t _ hu=>hE t _ hu) (λ d hd=>by cases hd) hC
theorem mtA (t:Nat) {φ:AV} {o:Oper} (hm:l[m]?=some o) (hlook:t ∈ o.looksAt l.toArray) (hl:lkE E t=.pred φ) (h:∀ v w0,Ext ws w0→φ.p v w0→MX P N l Q m w0 ((t,.val v)::E) C):MX P N l Q m ws E C:=by
 intro o' ho' a w hsz hdf hext hop K hK;obtain rfl:=Option.some.inj (hm.symm.trans ho');have h1:=hop t hlook;rw [hl] at h1;refine h _ w hext h1 o ho' a w hsz hdf (Ext.refl _) (λ t' ht'=>?_) K (λ v w' ws' E' hx htr hd hC=>hK v w' ws' E' hx (λ t' hne hu=>htr t' hne ?_) hd hC)
 ·rw [cgA]
  by_cases e:t'=t
  ·subst e;rw [if_pos rfl];rfl
  ·rw [if_neg e];exact hop t' ht'
 ·rw [cgA]
  by_cases e:t'=t
  ·subst e;rw [if_pos rfl];rfl
  ·rw [if_neg e];exact hu
theorem lmA {E E':Env} {t0:Nat} {r:AD} {w w':World} (h0:∀ u,(lkE E t0).ok u w→r.ok u w') (h:∀ t u,(lkE E t).ok u w→(lkE E' t).ok u w') (t:Nat) (u:Value) (hu:(lkE E t).ok u w):(lkE ((t0,r)::E') t).ok u w':=by
 rw [cgA]
 by_cases e:t=t0
 ·subst e;rw [if_pos rfl];exact h0 u hu
 ·rw [if_neg e];exact h t u hu
theorem oeA {f:FuncId} {ats:Array TypeId} {fv:Operand} {v1 v2 v3:Value} (hm:l[m]?=some ⟨some d,.call ⟨.value fv,#[x,y,z],ats⟩,ty,pos,after,none⟩) (hfv:opE E fv=.val (.func (.func f) #[] #[])) (hv1:opE E x=.val v1) (hv2:opE E y=.val v2) {r3:AD} (hv3:opE E z=r3) (R:World→Value→World→Prop)
 (hc:∀ u3 w,Ext ws w→r3.ok u3 w→Fc P f #[v1,v2,u3] w (λ e w'=>∃ v,e=.returned v∧R w v w')) (h:∀ v w w',Ext ws w→R w v w'→∃ E',(∀ t u,d≠t→(lkE E t).ok u w→(lkE E' t).ok u w')∧C w' ((d,.val v)::E')):MX P N l Q m ws E C:=by
 intro o' ho' a w hsz hdf hext hop K hK;rw [hm] at ho';obtain rfl:=Option.some.inj ho';have h0:=lkA (x:=fv) hop (by simp [Op.operands,Call.operands]);rw [hfv] at h0;simp only [AD.ok] at h0;have ev1:=lkA (x:=x) hop (by simp [Op.operands,Call.operands]);rw [hv1] at ev1;simp only [AD.ok] at ev1;have ev2:=lkA (x:=y) hop (by simp [Op.operands,Call.operands]);rw [hv2] at ev2;simp only [AD.ok] at ev2;have ev3:=lkA (x:=z) hop (by simp [Op.operands,Call.operands]);rw [hv3] at ev3;have hcc:=hc _ w hext ev3;unfold Oper.wp;rw [cfA h0 (Fc.run hcc _ _)];simp only [Oper.upon,List.map_toArray,List.map_cons,List.map_nil,ev1,ev2];refine hcc.calls.mono ?_
 rintro e w' ⟨v,rfl,hv⟩;obtain ⟨E',hE,hC⟩:=h v w w' hext hv;refine hK v w' w' _ (Ext.refl _) (λ t ht hu=>?_) (λ d' hd'=>?_) hC
 ·rw [cgA]
  by_cases e:t=d
  ·subst e;exact absurd rfl ht
  ·rw [if_neg e];exact hE t _ (λ h=>e h.symm) hu
 ·cases hd';rw [cgA,if_pos rfl];rfl
end
theorem wPh {G' G:Prop} (g:G') (h:G'→G:=by
 intro h;refine oLP ?_
 first|exact vqA (by decide +kernel) rfl h|exact voA (by decide +kernel) rfl rfl h|exact LP_doneP (by decide +kernel) rfl rfl h|exact vpA (by decide +kernel) rfl rfl h|exact LP_laterV (by decide +kernel) rfl rfl h|exact vmA (by decide +kernel) rfl h|exact sdA (by decide +kernel) rfl h|exact c0B (by decide +kernel) h|exact vnA (by decide +kernel) rfl h|exact c1B h):G:=h g
theorem yB {G' G:Prop} (g:G') (h:G'→G:=by
 intro h
 first|exact vxA h|exact vvA rfl h|exact vwA (λ _ _ _ h=>h) h|exact a0A rfl h):G:=h g
end Go.LA
end
section
namespace Go.ArrP
open Go.LA
def g3A (q:Nat→Bool) (xs:List Int):List Int:=xs.filter (λ x=>!q x.toNat)
def hmA (q:Nat→Bool):List Int→Nat
 | []=>0
 | x::r=>if q x.toNat then 0 else hmA q r+1
theorem kjA (q:Nat→Bool):∀ xs,hmA q xs≤xs.length
 | []=>Nat.le_refl _
 | x::r=>by
   have:=kjA q r;unfold hmA;split
   ·simp
   ·simp only [List.length_cons];omega
theorem f3A (q:Nat→Bool):∀ (xs:List Int) (j:Nat),j<hmA q xs→q (xs.getD j 0).toNat=false
 | [],j,h=>by simp [hmA] at h
 | x::r,0,h=>by
   unfold hmA at h
   split at h
   ·omega
   ·rename_i hq;simpa using hq
 | x::r,j+1,h=>by
   unfold hmA at h
   split at h
   ·omega
   ·simpa using f3A q r j oZ
theorem miA (q:Nat→Bool):∀ (xs:List Int),hmA q xs<xs.length→q (xs.getD (hmA q xs) 0).toNat=true
 | [],h=>by simp at h
 | x::r,h=>by
   unfold hmA at h ⊢
   by_cases hq:q x.toNat=true
   ·simp [hq]
   ·simp only [hq,Bool.false_eq_true,if_false] at h ⊢
    simpa using miA q r (by simpa using h)
theorem r5A (q:Nat→Bool) {xs:List Int} (h:hmA q xs=xs.length):g3A q xs=xs:=by
 unfold g3A;rw [List.filter_eq_self];intro x hx;obtain ⟨j,hj,rfl⟩:=List.getElem_of_mem hx;have:=f3A q xs j oZ;rw [List.getD_eq_getElem?_getD,List.getElem?_eq_getElem hj] at this
 simpa using this
theorem r4A (q:Nat→Bool) (xs:List Int):g3A q (xs.take (hmA q xs))=xs.take (hmA q xs):=by
 unfold g3A;rw [List.filter_eq_self];intro x hx;obtain ⟨j,hj,rfl⟩:=List.getElem_of_mem hx;have hj':j<hmA q xs:=by simp at hj;omega
 have:=f3A q xs j hj';have hl:j<xs.length:=by have:=kjA q xs;omega
 rw [List.getD_eq_getElem?_getD,List.getElem?_eq_getElem hl] at this
 simpa using this
theorem gzA (q:Nat→Bool) {xs:List Int} {j:Nat} (hj:j<xs.length):g3A q (xs.take (j+1))=g3A q (xs.take j)++if q (xs.getD j 0).toNat then [] else [xs.getD j 0]:=by
 unfold g3A;rw [List.take_succ_eq_append_getElem hj,List.filter_append,List.getD_eq_getElem?_getD,List.getElem?_eq_getElem hj];cases hq:q xs[j].toNat <;> simp [hq]
structure Mid (q:Nat→Bool) (xs ys:List Int) (i j:Nat):Prop where
 len:ys.length=xs.length
 lt:i<j
 le:j≤xs.length
 pre:ys.take i=g3A q (xs.take j)
 rest:ys.drop j=xs.drop j
theorem Mid.cur {q:Nat→Bool} {xs ys:List Int} {i j:Nat} (h:Mid q xs ys i j) (hj:j<xs.length):ys.getD j 0=xs.getD j 0:=by
 have:=congrArg (λ l=>l.getD 0 0) h.rest
 simpa [List.getD_eq_getElem?_getD,List.getElem?_drop] using this
theorem Mid.start (q:Nat→Bool) {xs:List Int} (h:hmA q xs<xs.length):Mid q xs xs (hmA q xs) (hmA q xs+1) :=
 ⟨rfl,by omega,by omega,by rw [gzA q h,miA q xs h,r4A];simp,rfl⟩
theorem Mid.skip {q:Nat→Bool} {xs ys:List Int} {i j:Nat} (h:Mid q xs ys i j) (hj:j<xs.length) (hq:q (xs.getD j 0).toNat=true):Mid q xs ys i (j+1) :=
 ⟨h.len,by have:=h.lt;omega,by omega,by rw [gzA q hj,hq,h.pre];simp,by
  have:=congrArg (List.drop 1) h.rest
  simpa [List.drop_drop,Nat.add_comm] using this⟩
theorem Mid.put {q:Nat→Bool} {xs ys:List Int} {i j:Nat} (h:Mid q xs ys i j) (hj:j<xs.length) (hq:q (xs.getD j 0).toNat=false):Mid q xs (ys.set i (xs.getD j 0)) (i+1) (j+1):=by
 have hlt:=h.lt;have hil:i<ys.length:=by have:=h.len;omega
 refine ⟨by simpa using h.len,by omega,by omega,?_,?_⟩
 ·rw [gzA q hj,hq,← h.pre]
  rw [List.take_succ_eq_append_getElem (by simpa using hil),List.getElem_set_self];simp [List.take_set_of_le]
 ·rw [List.drop_set_of_lt oZ]
  have:=congrArg (List.drop 1) h.rest
  simpa [List.drop_drop,Nat.add_comm] using this
theorem Mid.fin {q:Nat→Bool} {xs ys:List Int} {i:Nat} (h:Mid q xs ys i xs.length):ys.take i=g3A q xs:=by
 have:=h.pre;rwa [List.take_length] at this
theorem lnA (p q:Nat→Bool):∀ n,g3A (λ i=>!q i) (adA p n)=adA (λ i=>p i && q i) n
 | 0=>rfl
 | n+1=>by
   have ih:=lnA p q n;unfold g3A at ih ⊢;simp only [adA,List.filter_append,ih]
   by_cases hp:p n=true
   ·by_cases hq:q n=true
    ·simp [hp,hq]
    ·simp [hp,hq]
   ·simp [hp]
end Go.ArrP
end
