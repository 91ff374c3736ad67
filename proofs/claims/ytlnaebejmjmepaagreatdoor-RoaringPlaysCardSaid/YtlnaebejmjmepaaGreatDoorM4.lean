import Derived.Test.YtlnaebejmjmepaaGreatDoorM3
set_option linter.unusedSimpArgs false
set_option linter.unusedVariables false
set_option maxRecDepth 3000
set_option maxHeartbeats 16000000
section
namespace Go.LA
open Go.RowKit Go.ArrP
def Lw (ws:List Int):Prop:=∀ x ∈ ws,0≤x∧x<18446744073709551616
def wd (ws:List Int) (i:Nat):Nat:=(ws.getD i 0).toNat
def cdA (ws:List Int) (i:Nat):Bool:=(wd ws (i / 64)).testBit (i % 64)
theorem Lw.at {ws:List Int} (h:Lw ws) (i:Nat):ws.getD i 0=((wd ws i:Nat):Int)∧wd ws i<18446744073709551616:=by
 unfold wd
 by_cases hi:i<ws.length
 ·have:=h _ (List.getElem_mem hi)
  rw [awA hi];omega
 ·rw [List.getD,List.getElem?_eq_none oZ];decide
theorem x1A {ws:List Int} {i:Nat} (h:ws.length≤i):wd ws i=0:=by
 unfold wd;rw [List.getD,List.getElem?_eq_none h];rfl
theorem piA {ws:List Int} {i:Nat} (h:64*ws.length≤i):cdA ws i=false:=by
 unfold cdA;rw [x1A oZ];simp
theorem o3A (ws:List Int) (k:Nat):cnt (cdA ws) (64*(k+1))=cnt (cdA ws) (64*k)+fbA (wd ws k):=by
 rw [show 64*(k+1)=64*k+64 by omega,eyA];congr 1;unfold fbA;refine cnA 64 λ i hi=>?_
 unfold cdA;rw [show (64*k+i) / 64=k by omega,show (64*k+i) % 64=i by omega]
theorem j6A (a j i:Nat):(a ||| 2 ^ j).testBit i=(a.testBit i || decide (i=j)):=by
 rw [Nat.testBit_or,Nat.testBit_two_pow];congr 1;rw [decide_eq_decide];exact ⟨λ h=>h.symm,λ h=>h.symm⟩
theorem w4A {ws:List Int} {i:Nat} (hi:i<ws.length) (v:Nat) (j:Nat):wd (ws.set i (v:Int)) j=if j=i then v else wd ws j:=by
 unfold wd
 by_cases e:j=i
 ·subst e;rw [if_pos rfl];simp [List.getD,List.getElem?_set,hi]
 ·rw [if_neg e];simp [List.getD,List.getElem?_set,show ¬ i=j from λ h=>e h.symm]
theorem Lw.set {ws:List Int} (h:Lw ws) (i:Nat) {v:Nat} (hv:v<18446744073709551616):Lw (ws.set i (v:Int)):=λ x hx=>by
 rcases List.mem_or_eq_of_mem_set hx with h1|h1
 ·exact h x h1
 ·omega
theorem x2A {ws:List Int} {x:Nat} (hx:x / 64<ws.length) (i:Nat):cdA (ws.set (x / 64) ((wd ws (x / 64) ||| 2 ^ (x % 64):Nat):Int)) i=(cdA ws i || decide (i=x)):=by
 unfold cdA;rw [w4A hx]
 by_cases e:i / 64=x / 64
 ·rw [if_pos e,j6A,e]
  congr 1;rw [decide_eq_decide];omega
 ·rw [if_neg e,decide_eq_false oZ,Bool.or_false]
theorem l7A (n i:Nat):cdA (List.replicate n 0) i=false:=by
 unfold cdA wd;have:(List.replicate n (0:Int)).getD (i / 64) 0=0:=by
  by_cases h:i / 64<n
  ·simp [List.getD,List.getElem?_replicate,h]
  ·simp [List.getD,List.getElem?_replicate,h]
 rw [this];simp
theorem muA (n:Nat):Lw (List.replicate n 0):=λ x hx=>by
 rw [List.eq_of_mem_replicate hx];decide
theorem l6A {a b:List Int} (ha:Lw a) (hb:Lw b) (hl:a.length=b.length) (h:∀ i,i<64*a.length→cdA a i=cdA b i):a=b:=by
 refine List.ext_getElem hl λ k h1 h2=>?_
 have e1:=(ha.at k).1;have e2:=(hb.at k).1;rw [awA h1] at e1;rw [awA h2] at e2;rw [e1,e2];congr 1
 apply Nat.eq_of_testBit_eq
 intro i
 by_cases hi:i<64
 ·have:=h (64*k+i) oZ
  unfold cdA at this;rwa [show (64*k+i) / 64=k by omega,show (64*k+i) % 64=i by omega] at this
 ·rw [Nat.testBit_lt_two_pow (Nat.lt_of_lt_of_le (ha.at k).2 (Nat.pow_le_pow_right (n:=2) dZ (by omega:64≤i))),Nat.testBit_lt_two_pow (Nat.lt_of_lt_of_le (hb.at k).2 (Nat.pow_le_pow_right (n:=2) dZ (by omega:64≤i)))]
def k5A (p:Nat→Bool) (k:Nat):Nat→Nat
 | 0=>0
 | j+1=>k5A p k j ||| (if p (64*k+j) then 2 ^ j else 0)
theorem lhA (p:Nat→Bool) (k i:Nat):∀ j,(k5A p k j).testBit i=(decide (i<j) && p (64*k+i))
 | 0=>by simp [k5A]
 | j+1=>by
   rw [k5A,Nat.testBit_or,lhA p k i j]
   by_cases e:i=j
   ·subst e
    cases h:p (64*k+i) <;> simp [h,Nat.testBit_two_pow]
   ·have h1:(if p (64*k+j)=true then 2 ^ j else 0).testBit i=false:=by
     split
     ·rw [Nat.testBit_two_pow];simpa using λ h=>e h.symm
     ·simp
    rw [h1,Bool.or_false,show decide (i<j+1)=decide (i<j) by rw [decide_eq_decide];omega]
theorem niA (p:Nat→Bool) (k:Nat):∀ j,k5A p k j<2 ^ j
 | 0=>by simp [k5A]
 | j+1=>by
   rw [k5A];have ih:=niA p k j;have h2:2 ^ j<2 ^ (j+1):=Nat.pow_lt_pow_right dZ oZ;refine Nat.or_lt_two_pow oZ ?_
   split
   ·exact h2
   ·exact Nat.pow_pos dZ
def wordsOf (p:Nat→Bool):List Int:=(List.range 1024).map (λ k=>((k5A p k 64:Nat):Int))
theorem boA (p:Nat→Bool):(wordsOf p).length=1024:=by rw [wordsOf,List.length_map,List.length_range]
theorem bqA (p:Nat→Bool):Lw (wordsOf p):=λ x hx=>by
 rw [wordsOf,List.mem_map] at hx;obtain ⟨k,_,rfl⟩:=hx;have:=niA p k 64;omega
theorem ceA (p:Nat→Bool) {i:Nat} (hi:i<65536):cdA (wordsOf p) i=p i:=by
 unfold cdA wd;have h1:(wordsOf p).getD (i / 64) 0=((k5A p (i / 64) 64:Nat):Int):=by
  rw [List.getD,wordsOf,List.getElem?_map,List.getElem?_range oZ];rfl
 rw [h1,Int.toNat_natCast,lhA,decide_eq_true oZ,Bool.true_and,show 64*(i / 64)+i % 64=i by omega]
theorem jrA {ws:List Int} (h:Lw ws) (hl:ws.length=1024):ws=wordsOf (cdA ws) :=
 l6A h (bqA _) (by rw [hl,boA]) (λ i hi=>by rw [ceA _ oZ])
theorem byA {p q:Nat→Bool} (h:∀ i,i<65536→p i=q i):wordsOf p=wordsOf q :=
 l6A (bqA _) (bqA _) (by rw [boA,boA]) (λ i hi=>by
  rw [boA] at hi;rw [ceA p oZ,ceA q oZ,h i oZ])
theorem igA {x:Nat} (h0:x≠0) (hx:x<18446744073709551616):∃ m,x=2 ^ (Lib.ctz 64 x+1)*m+2 ^ Lib.ctz 64 x∧Lib.ctz 64 x<64:=by
 obtain ⟨m,hm,hk⟩:=Lib.ctzFrom_spec 64 x oZ hx;have e:Lib.ctz 64 x=Lib.ctzFrom 64 x:=by simp [Lib.ctz,h0]
 rw [e];refine ⟨m,?_,hk⟩;rw [Nat.pow_succ]
 conv=>lhs;rw [hm]
 rw [Nat.mul_add,Nat.mul_one,Nat.mul_assoc]
theorem qxA {x:Nat} (h0:x≠0) (hx:x<18446744073709551616) (j:Nat):(x.testBit (Lib.ctz 64 x)=true∧(j<Lib.ctz 64 x→x.testBit j=false))∧(x &&& (x-1)).testBit j=(x.testBit j && decide (j≠Lib.ctz 64 x)):=by
 obtain ⟨m,hm,hk⟩:=igA h0 hx;obtain ⟨c,hc⟩:∃ c,c=Lib.ctz 64 x:=⟨_,rfl⟩;rw [← hc] at hm hk ⊢;have hp:0<2 ^ c:=Nat.pow_pos dZ;have hlt:2 ^ c<2 ^ (c+1):=Nat.pow_lt_pow_right dZ oZ;have hx1:x-1=2 ^ (c+1)*m+(2 ^ c-1):=oZ;have tb:∀ j,x.testBit j=if j<c+1 then decide (j=c) else m.testBit (j-(c+1)):=λ j=>by
  rw [hm,Nat.testBit_two_pow_mul_add _ hlt,Nat.testBit_two_pow]
  split
  ·rw [decide_eq_decide];exact ⟨λ h=>h.symm,λ h=>h.symm⟩
  ·rfl
 have tb1:∀ j,(x-1).testBit j=if j<c+1 then decide (j<c) else m.testBit (j-(c+1)):=λ j=>by
  rw [hx1,Nat.testBit_two_pow_mul_add _ oZ,Nat.testBit_two_pow_sub_one]
 refine ⟨⟨by rw [tb];simp,λ h=>by rw [tb,if_pos oZ,decide_eq_false oZ]⟩,?_⟩;rw [Nat.testBit_and,tb,tb1]
 by_cases h:j<c+1
 ·rw [if_pos h,if_pos h]
  by_cases e:j=c
  ·subst e;simp
  ·rw [decide_eq_false e];simp
 ·rw [if_neg h,if_neg h,decide_eq_true oZ];simp
theorem dgA (p:Nat→Bool) {a:Nat}:∀ b,a≤b→(∀ i,a≤i→i<b→p i=false)→adA p b=adA p a
 | 0,h,_=>by obtain rfl:a=0:=oZ
             rfl
 | b+1,h,hf=>by
   rcases Nat.lt_or_ge b a with h1|h1
   ·obtain rfl:a=b+1:=oZ
    rfl
   ·rw [adA,dgA p b h1 (λ i g1 g2=>hf i g1 oZ),hf b h1 oZ];simp
theorem x0A {ws:List Int} {q k:Nat} (h:k<q):wd (ws.take q) k=wd ws k:=by
 unfold wd;simp [List.getD,List.getElem?_take,h]
theorem phA {ws:List Int} {q i:Nat} (h:i<64*q):cdA (ws.take q) i=cdA ws i:=by
 unfold cdA;rw [x0A oZ]
theorem Lw.take {ws:List Int} (h:Lw ws) (q:Nat):Lw (ws.take q):=λ x hx=>h x (List.mem_of_mem_take hx)
theorem y2A (x m:Nat) (hm:m≤64):fbA (x*2 ^ (64-m) % 18446744073709551616)=cnt (λ i=>x.testBit i) m:=by
 unfold fbA;have hb:∀ i,i<64→(x*2 ^ (64-m) % 18446744073709551616).testBit i=(decide (64-m≤i) && x.testBit (i-(64-m))):=λ i hi=>by
  rw [show (18446744073709551616:Nat)=2 ^ 64 by rfl,Nat.testBit_mod_two_pow,decide_eq_true hi,Bool.true_and,Nat.mul_comm,Nat.testBit_two_pow_mul]
 rw [cnA 64 hb,show cnt (λ i=>decide (64-m≤i) && x.testBit (i-(64-m))) 64=cnt (λ i=>decide (64-m≤i) && x.testBit (i-(64-m))) ((64-m)+m) by rw [show 64-m+m=64 by omega],eyA,dyA (64-m) (λ i hi=>by simp;omega),Nat.zero_add];exact cnA m λ i hi=>by simp
theorem o5A (ws:List Int) (q m:Nat) (hm:m≤64):cnt (cdA ws) (64*q+m)=cnt (cdA ws) (64*q)+cnt (λ i=>(wd ws q).testBit i) m:=by
 rw [eyA];congr 1;refine cnA m λ i hi=>?_
 unfold cdA;rw [show (64*q+i) / 64=q by omega,show (64*q+i) % 64=i by omega]
theorem l8A {ws:List Int} {k:Nat} (hk:k<ws.length) (v j:Nat):cdA (ws.set k (v:Int)) j=if j / 64=k then v.testBit (j % 64) else cdA ws j:=by
 unfold cdA;rw [w4A hk];split <;> rfl
theorem u8A (d s i:Nat) (hd:d+s≤64):(18446744073709551615 / 2 ^ (64-d)*2 ^ s % 18446744073709551616).testBit i=(decide (s≤i) && decide (i<s+d)):=by
 rw [show (18446744073709551616:Nat)=2 ^ 64 by rfl,Nat.testBit_mod_two_pow,Nat.mul_comm,Nat.testBit_two_pow_mul,← Nat.shiftRight_eq_div_pow,Nat.testBit_shiftRight,show (18446744073709551615:Nat)=2 ^ 64-1 by rfl,Nat.testBit_two_pow_sub_one]
 by_cases h1:s≤i
 ·rw [decide_eq_true h1,Bool.true_and,Bool.true_and]
  by_cases h2:i<s+d
  ·rw [decide_eq_true h2,decide_eq_true oZ,decide_eq_true oZ];rfl
  ·rw [decide_eq_false h2,decide_eq_false (by omega:¬ 64-d+(i-s)<64),Bool.and_false]
 ·rw [decide_eq_false h1];simp
end Go.LA
end
