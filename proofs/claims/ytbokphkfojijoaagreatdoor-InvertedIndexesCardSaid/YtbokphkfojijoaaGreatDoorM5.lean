import Derived.Test.YtbokphkfojijoaaGreatDoorM4
set_option linter.unusedSimpArgs false
set_option linter.unusedVariables false
set_option maxRecDepth 3000
set_option maxHeartbeats 16000000
section
namespace Go.LA
open Go.RowKit Go.ArrP
def Lw (ws:List Int):Prop:=∀ x ∈ ws,0≤x∧x<18446744073709551616
def wd (ws:List Int) (i:Nat):Nat:=(ws.getD i 0).toNat
def ctA (ws:List Int) (i:Nat):Bool:=(wd ws (i / 64)).testBit (i % 64)
theorem Lw.at {ws:List Int} (h:Lw ws) (i:Nat):ws.getD i 0=((wd ws i:Nat):Int)∧wd ws i<18446744073709551616:=by
 unfold wd
 by_cases hi:i<ws.length
 ·have:=h _ (List.getElem_mem hi)
  rw [bhA hi];omega
 ·rw [List.getD,List.getElem?_eq_none oZ];decide
theorem ymA {ws:List Int} {i:Nat} (h:ws.length≤i):wd ws i=0:=by
 unfold wd;rw [List.getD,List.getElem?_eq_none h];rfl
theorem r3A {ws:List Int} {i:Nat} (h:64*ws.length≤i):ctA ws i=false:=by
 unfold ctA;rw [ymA oZ];simp
theorem wdA (ws:List Int) (k:Nat):cnt (ctA ws) (64*(k+1))=cnt (ctA ws) (64*k)+hbA (wd ws k):=by
 rw [show 64*(k+1)=64*k+64 by omega,fkA];congr 1;unfold hbA;refine d7A 64 λ i hi=>?_
 unfold ctA;rw [show (64*k+i) / 64=k by omega,show (64*k+i) % 64=i by omega]
theorem k2A (a j i:Nat):(a ||| 2 ^ j).testBit i=(a.testBit i || decide (i=j)):=by
 rw [Nat.testBit_or,Nat.testBit_two_pow];congr 1;rw [decide_eq_decide];exact ⟨λ h=>h.symm,λ h=>h.symm⟩
theorem xnA {ws:List Int} {i:Nat} (hi:i<ws.length) (v:Nat) (j:Nat):wd (ws.set i (v:Int)) j=if j=i then v else wd ws j:=by
 unfold wd
 by_cases e:j=i
 ·subst e;rw [if_pos rfl];simp [List.getD,List.getElem?_set,hi]
 ·rw [if_neg e];simp [List.getD,List.getElem?_set,show ¬ i=j from λ h=>e h.symm]
theorem Lw.set {ws:List Int} (h:Lw ws) (i:Nat) {v:Nat} (hv:v<18446744073709551616):Lw (ws.set i (v:Int)):=λ x hx=>by
 rcases List.mem_or_eq_of_mem_set hx with h1|h1
 ·exact h x h1
 ·omega
theorem r2A {ws:List Int} {x:Nat} (hx:x / 64<ws.length) (i:Nat):ctA (ws.set (x / 64) ((wd ws (x / 64) ||| 2 ^ (x % 64):Nat):Int)) i=(ctA ws i || decide (i=x)):=by
 unfold ctA;rw [xnA hx]
 by_cases e:i / 64=x / 64
 ·rw [if_pos e,k2A,e]
  congr 1;rw [decide_eq_decide];omega
 ·rw [if_neg e,decide_eq_false oZ,Bool.or_false]
theorem itA (n i:Nat):ctA (List.replicate n 0) i=false:=by
 unfold ctA wd;have:(List.replicate n (0:Int)).getD (i / 64) 0=0:=by
  by_cases h:i / 64<n
  ·simp [List.getD,List.getElem?_replicate,h]
  ·simp [List.getD,List.getElem?_replicate,h]
 rw [this];simp
theorem lmA (n:Nat):Lw (List.replicate n 0):=λ x hx=>by
 rw [List.eq_of_mem_replicate hx];decide
theorem isA {a b:List Int} (ha:Lw a) (hb:Lw b) (hl:a.length=b.length) (h:∀ i,i<64*a.length→ctA a i=ctA b i):a=b:=by
 refine List.ext_getElem hl λ k h1 h2=>?_
 have e1:=(ha.at k).1;have e2:=(hb.at k).1;rw [bhA h1] at e1;rw [bhA h2] at e2;rw [e1,e2];congr 1
 apply Nat.eq_of_testBit_eq
 intro i
 by_cases hi:i<64
 ·have:=h (64*k+i) oZ
  unfold ctA at this;rwa [show (64*k+i) / 64=k by omega,show (64*k+i) % 64=i by omega] at this
 ·rw [Nat.testBit_lt_two_pow (Nat.lt_of_lt_of_le (ha.at k).2 (Nat.pow_le_pow_right (n:=2) dZ (by omega:64≤i))),Nat.testBit_lt_two_pow (Nat.lt_of_lt_of_le (hb.at k).2 (Nat.pow_le_pow_right (n:=2) dZ (by omega:64≤i)))]
def kyA (p:Nat→Bool) (k:Nat):Nat→Nat
 | 0=>0
 | j+1=>kyA p k j ||| (if p (64*k+j) then 2 ^ j else 0)
theorem m0A (p:Nat→Bool) (k i:Nat):∀ j,(kyA p k j).testBit i=(decide (i<j) && p (64*k+i))
 | 0=>by simp [kyA]
 | j+1=>by
   rw [kyA,Nat.testBit_or,m0A p k i j]
   by_cases e:i=j
   ·subst e
    cases h:p (64*k+i) <;> simp [h,Nat.testBit_two_pow]
   ·have h1:(if p (64*k+j)=true then 2 ^ j else 0).testBit i=false:=by
     split
     ·rw [Nat.testBit_two_pow];simpa using λ h=>e h.symm
     ·simp
    rw [h1,Bool.or_false,show decide (i<j+1)=decide (i<j) by rw [decide_eq_decide];omega]
theorem owA (p:Nat→Bool) (k:Nat):∀ j,kyA p k j<2 ^ j
 | 0=>by simp [kyA]
 | j+1=>by
   rw [kyA];have ih:=owA p k j;have h2:2 ^ j<2 ^ (j+1):=Nat.pow_lt_pow_right dZ oZ;refine Nat.or_lt_two_pow oZ ?_
   split
   ·exact h2
   ·exact Nat.pow_pos dZ
def wordsOf (p:Nat→Bool):List Int:=(List.range 1024).map (λ k=>((kyA p k 64:Nat):Int))
theorem axA (p:Nat→Bool):(wordsOf p).length=1024:=by rw [wordsOf,List.length_map,List.length_range]
theorem bxA (p:Nat→Bool):Lw (wordsOf p):=λ x hx=>by
 rw [wordsOf,List.mem_map] at hx;obtain ⟨k,_,rfl⟩:=hx;have:=owA p k 64;omega
theorem c3A (p:Nat→Bool) {i:Nat} (hi:i<65536):ctA (wordsOf p) i=p i:=by
 unfold ctA wd;have h1:(wordsOf p).getD (i / 64) 0=((kyA p (i / 64) 64:Nat):Int):=by
  rw [List.getD,wordsOf,List.getElem?_map,List.getElem?_range oZ];rfl
 rw [h1,Int.toNat_natCast,m0A,decide_eq_true oZ,Bool.true_and,show 64*(i / 64)+i % 64=i by omega]
theorem idA {ws:List Int} (h:Lw ws) (hl:ws.length=1024):ws=wordsOf (ctA ws) :=
 isA h (bxA _) (by rw [hl,axA]) (λ i hi=>by rw [c3A _ oZ])
theorem bgA {p q:Nat→Bool} (h:∀ i,i<65536→p i=q i):wordsOf p=wordsOf q :=
 isA (bxA _) (bxA _) (by rw [axA,axA]) (λ i hi=>by
  rw [axA] at hi;rw [c3A p oZ,c3A q oZ,h i oZ])
theorem m4A {x:Nat} (h0:x≠0) (hx:x<18446744073709551616):∃ m,x=2 ^ (Lib.ctz 64 x+1)*m+2 ^ Lib.ctz 64 x∧Lib.ctz 64 x<64:=by
 obtain ⟨m,hm,hk⟩:=Lib.ctzFrom_spec 64 x oZ hx;have e:Lib.ctz 64 x=Lib.ctzFrom 64 x:=by simp [Lib.ctz,h0]
 rw [e];refine ⟨m,?_,hk⟩;rw [Nat.pow_succ]
 conv=>lhs;rw [hm]
 rw [Nat.mul_add,Nat.mul_one,Nat.mul_assoc]
theorem zuA {x:Nat} (h0:x≠0) (hx:x<18446744073709551616) (j:Nat):(x.testBit (Lib.ctz 64 x)=true∧(j<Lib.ctz 64 x→x.testBit j=false))∧(x &&& (x-1)).testBit j=(x.testBit j && decide (j≠Lib.ctz 64 x)):=by
 obtain ⟨m,hm,hk⟩:=m4A h0 hx;obtain ⟨c,hc⟩:∃ c,c=Lib.ctz 64 x:=⟨_,rfl⟩;rw [← hc] at hm hk ⊢;have hp:0<2 ^ c:=Nat.pow_pos dZ;have hlt:2 ^ c<2 ^ (c+1):=Nat.pow_lt_pow_right dZ oZ;have hx1:x-1=2 ^ (c+1)*m+(2 ^ c-1):=oZ;have tb:∀ j,x.testBit j=if j<c+1 then decide (j=c) else m.testBit (j-(c+1)):=λ j=>by
  rw [hm,Nat.testBit_two_pow_mul_add _ hlt,Nat.testBit_two_pow]
  split
  ·rw [decide_eq_decide];exact ⟨λ h=>h.symm,λ h=>h.symm⟩
  ·rfl
 have tb1:∀ j,(x-1).testBit j=if j<c+1 then decide (j<c) else m.testBit (j-(c+1)):=λ j=>by
  rw [hx1,Nat.testBit_two_pow_mul_add _ oZ,Nat.testBit_two_pow_sub_one]
 refine ⟨⟨by rw [tb];simp,λ h=>by rw [tb,if_pos oZ,decide_eq_false oZ]⟩,?_⟩;rw [Nat.testBit_and,tb,tb1]
 by_cases h:j<c+1
 ·rw [if_pos h,if_pos h]
  by_cases e:j=c
  ·subst e;simp
  ·rw [decide_eq_false e];simp
 ·rw [if_neg h,if_neg h,decide_eq_true oZ];simp
theorem duA (p:Nat→Bool) {a:Nat}:∀ b,a≤b→(∀ i,a≤i→i<b→p i=false)→ahA p b=ahA p a
 | 0,h,_=>by obtain rfl:a=0:=oZ
             rfl
 | b+1,h,hf=>by
   rcases Nat.lt_or_ge b a with h1|h1
   ·obtain rfl:a=b+1:=oZ
    rfl
   ·rw [ahA,duA p b h1 (λ i g1 g2=>hf i g1 oZ),hf b h1 oZ];simp
theorem ylA {ws:List Int} {q k:Nat} (h:k<q):wd (ws.take q) k=wd ws k:=by
 unfold wd;simp [List.getD,List.getElem?_take,h]
theorem r1A {ws:List Int} {q i:Nat} (h:i<64*q):ctA (ws.take q) i=ctA ws i:=by
 unfold ctA;rw [ylA oZ]
theorem Lw.take {ws:List Int} (h:Lw ws) (q:Nat):Lw (ws.take q):=λ x hx=>h x (List.mem_of_mem_take hx)
theorem zgA (x m:Nat) (hm:m≤64):hbA (x*2 ^ (64-m) % 18446744073709551616)=cnt (λ i=>x.testBit i) m:=by
 unfold hbA;have hb:∀ i,i<64→(x*2 ^ (64-m) % 18446744073709551616).testBit i=(decide (64-m≤i) && x.testBit (i-(64-m))):=λ i hi=>by
  rw [show (18446744073709551616:Nat)=2 ^ 64 by rfl,Nat.testBit_mod_two_pow,decide_eq_true hi,Bool.true_and,Nat.mul_comm,Nat.testBit_two_pow_mul]
 rw [d7A 64 hb,show cnt (λ i=>decide (64-m≤i) && x.testBit (i-(64-m))) 64=cnt (λ i=>decide (64-m≤i) && x.testBit (i-(64-m))) ((64-m)+m) by rw [show 64-m+m=64 by omega],fkA,ejA (64-m) (λ i hi=>by simp;omega),Nat.zero_add];exact d7A m λ i hi=>by simp
theorem weA (ws:List Int) (q m:Nat) (hm:m≤64):cnt (ctA ws) (64*q+m)=cnt (ctA ws) (64*q)+cnt (λ i=>(wd ws q).testBit i) m:=by
 rw [fkA];congr 1;refine d7A m λ i hi=>?_
 unfold ctA;rw [show (64*q+i) / 64=q by omega,show (64*q+i) % 64=i by omega]
theorem lsA {ws:List Int} {k:Nat} (hk:k<ws.length) (v j:Nat):ctA (ws.set k (v:Int)) j=if j / 64=k then v.testBit (j % 64) else ctA ws j:=by
 unfold ctA;rw [xnA hk];split <;> rfl
theorem vlA (d s i:Nat) (hd:d+s≤64):(18446744073709551615 / 2 ^ (64-d)*2 ^ s % 18446744073709551616).testBit i=(decide (s≤i) && decide (i<s+d)):=by
 rw [show (18446744073709551616:Nat)=2 ^ 64 by rfl,Nat.testBit_mod_two_pow,Nat.mul_comm,Nat.testBit_two_pow_mul,← Nat.shiftRight_eq_div_pow,Nat.testBit_shiftRight,show (18446744073709551615:Nat)=2 ^ 64-1 by rfl,Nat.testBit_two_pow_sub_one]
 by_cases h1:s≤i
 ·rw [decide_eq_true h1,Bool.true_and,Bool.true_and]
  by_cases h2:i<s+d
  ·rw [decide_eq_true h2,decide_eq_true oZ,decide_eq_true oZ];rfl
  ·rw [decide_eq_false h2,decide_eq_false (by omega:¬ 64-d+(i-s)<64),Bool.and_false]
 ·rw [decide_eq_false h1];simp
end Go.LA
end
