import Derived.Test.YtbokphkfojijoaaGreatDoorJ4
set_option linter.unusedSimpArgs false
set_option linter.unusedVariables false
set_option maxRecDepth 3000
set_option maxHeartbeats 16000000
section
namespace Go.LA
open Go.RowKit Go.ArrP
def Lw (ws:List Int):Prop:=∀ x ∈ ws,0≤x∧x<18446744073709551616
def wd (ws:List Int) (i:Nat):Nat:=(ws.getD i 0).toNat
def d6A (ws:List Int) (i:Nat):Bool:=(wd ws (i / 64)).testBit (i % 64)
theorem Lw.at {ws:List Int} (h:Lw ws) (i:Nat):ws.getD i 0=((wd ws i:Nat):Int)∧wd ws i<18446744073709551616:=by
 unfold wd
 by_cases hi:i<ws.length
 ·have:=h _ (List.getElem_mem hi)
  rw [bbA hi];omega
 ·rw [List.getD,List.getElem?_eq_none oZ];decide
theorem u7A (ws:List Int) (k:Nat):cnt (d6A ws) (64*(k+1))=cnt (d6A ws) (64*k)+hhA (wd ws k):=by
 rw [show 64*(k+1)=64*k+64 by omega,gnA];congr 1;unfold hhA;refine e3A 64 λ i hi=>?_
 unfold d6A;rw [show (64*k+i) / 64=k by omega,show (64*k+i) % 64=i by omega]
theorem j9A (a j i:Nat):(a ||| 2 ^ j).testBit i=(a.testBit i || decide (i=j)):=by
 rw [Nat.testBit_or,Nat.testBit_two_pow];congr 1;rw [decide_eq_decide];exact ⟨λ h=>h.symm,λ h=>h.symm⟩
theorem vaA {ws:List Int} {i:Nat} (hi:i<ws.length) (v:Nat) (j:Nat):wd (ws.set i (v:Int)) j=if j=i then v else wd ws j:=by
 unfold wd
 by_cases e:j=i
 ·subst e;rw [if_pos rfl];simp [List.getD,List.getElem?_set,hi]
 ·rw [if_neg e];simp [List.getD,List.getElem?_set,show ¬ i=j from λ h=>e h.symm]
theorem Lw.set {ws:List Int} (h:Lw ws) (i:Nat) {v:Nat} (hv:v<18446744073709551616):Lw (ws.set i (v:Int)):=λ x hx=>by
 rcases List.mem_or_eq_of_mem_set hx with h1|h1
 ·exact h x h1
 ·omega
theorem phA {ws:List Int} {x:Nat} (hx:x / 64<ws.length) (i:Nat):d6A (ws.set (x / 64) ((wd ws (x / 64) ||| 2 ^ (x % 64):Nat):Int)) i=(d6A ws i || decide (i=x)):=by
 unfold d6A;rw [vaA hx]
 by_cases e:i / 64=x / 64
 ·rw [if_pos e,j9A,e]
  congr 1;rw [decide_eq_decide];omega
 ·rw [if_neg e,decide_eq_false oZ,Bool.or_false]
theorem hzA (n i:Nat):d6A (List.replicate n 0) i=false:=by
 unfold d6A wd;have:(List.replicate n (0:Int)).getD (i / 64) 0=0:=by
  by_cases h:i / 64<n
  ·simp [List.getD,List.getElem?_replicate,h]
  ·simp [List.getD,List.getElem?_replicate,h]
 rw [this];simp
theorem kqA (n:Nat):Lw (List.replicate n 0):=λ x hx=>by
 rw [List.eq_of_mem_replicate hx];decide
theorem hyA {a b:List Int} (ha:Lw a) (hb:Lw b) (hl:a.length=b.length) (h:∀ i,i<64*a.length→d6A a i=d6A b i):a=b:=by
 refine List.ext_getElem hl λ k h1 h2=>?_
 have e1:=(ha.at k).1;have e2:=(hb.at k).1;rw [bbA h1] at e1;rw [bbA h2] at e2;rw [e1,e2];congr 1
 apply Nat.eq_of_testBit_eq
 intro i
 by_cases hi:i<64
 ·have:=h (64*k+i) oZ
  unfold d6A at this;rwa [show (64*k+i) / 64=k by omega,show (64*k+i) % 64=i by omega] at this
 ·rw [Nat.testBit_lt_two_pow (Nat.lt_of_lt_of_le (ha.at k).2 (Nat.pow_le_pow_right (n:=2) dZ (by omega:64≤i))),Nat.testBit_lt_two_pow (Nat.lt_of_lt_of_le (hb.at k).2 (Nat.pow_le_pow_right (n:=2) dZ (by omega:64≤i)))]
def k7A (p:Nat→Bool) (k:Nat):Nat→Nat
 | 0=>0
 | j+1=>k7A p k j ||| (if p (64*k+j) then 2 ^ j else 0)
theorem l5A (p:Nat→Bool) (k i:Nat):∀ j,(k7A p k j).testBit i=(decide (i<j) && p (64*k+i))
 | 0=>by simp [k7A]
 | j+1=>by
   rw [k7A,Nat.testBit_or,l5A p k i j]
   by_cases e:i=j
   ·subst e
    cases h:p (64*k+i) <;> simp [h,Nat.testBit_two_pow]
   ·have h1:(if p (64*k+j)=true then 2 ^ j else 0).testBit i=false:=by
     split
     ·rw [Nat.testBit_two_pow];simpa using λ h=>e h.symm
     ·simp
    rw [h1,Bool.or_false,show decide (i<j+1)=decide (i<j) by rw [decide_eq_decide];omega]
theorem nhA (p:Nat→Bool) (k:Nat):∀ j,k7A p k j<2 ^ j
 | 0=>by simp [k7A]
 | j+1=>by
   rw [k7A];have ih:=nhA p k j;have h2:2 ^ j<2 ^ (j+1):=Nat.pow_lt_pow_right dZ oZ;refine Nat.or_lt_two_pow oZ ?_
   split
   ·exact h2
   ·exact Nat.pow_pos dZ
def wordsOf (p:Nat→Bool):List Int:=(List.range 1024).map (λ k=>((k7A p k 64:Nat):Int))
theorem aqA (p:Nat→Bool):(wordsOf p).length=1024:=by rw [wordsOf,List.length_map,List.length_range]
theorem bnA (p:Nat→Bool):Lw (wordsOf p):=λ x hx=>by
 rw [wordsOf,List.mem_map] at hx;obtain ⟨k,_,rfl⟩:=hx;have:=nhA p k 64;omega
theorem bpA (p:Nat→Bool) {i:Nat} (hi:i<65536):d6A (wordsOf p) i=p i:=by
 unfold d6A wd;have h1:(wordsOf p).getD (i / 64) 0=((k7A p (i / 64) 64:Nat):Int):=by
  rw [List.getD,wordsOf,List.getElem?_map,List.getElem?_range oZ];rfl
 rw [h1,Int.toNat_natCast,l5A,decide_eq_true oZ,Bool.true_and,show 64*(i / 64)+i % 64=i by omega]
theorem hiA {ws:List Int} (h:Lw ws) (hl:ws.length=1024):ws=wordsOf (d6A ws) :=
 hyA h (bnA _) (by rw [hl,aqA]) (λ i hi=>by rw [bpA _ oZ])
theorem b0A {p q:Nat→Bool} (h:∀ i,i<65536→p i=q i):wordsOf p=wordsOf q :=
 hyA (bnA _) (bnA _) (by rw [aqA,aqA]) (λ i hi=>by
  rw [aqA] at hi;rw [bpA p oZ,bpA q oZ,h i oZ])
theorem laA {x:Nat} (h0:x≠0) (hx:x<18446744073709551616):∃ m,x=2 ^ (Lib.ctz 64 x+1)*m+2 ^ Lib.ctz 64 x∧Lib.ctz 64 x<64:=by
 obtain ⟨m,hm,hk⟩:=Lib.ctzFrom_spec 64 x oZ hx;have e:Lib.ctz 64 x=Lib.ctzFrom 64 x:=by simp [Lib.ctz,h0]
 rw [e];refine ⟨m,?_,hk⟩;rw [Nat.pow_succ]
 conv=>lhs;rw [hm]
 rw [Nat.mul_add,Nat.mul_one,Nat.mul_assoc]
theorem x3A {x:Nat} (h0:x≠0) (hx:x<18446744073709551616) (j:Nat):(x.testBit (Lib.ctz 64 x)=true∧(j<Lib.ctz 64 x→x.testBit j=false))∧(x &&& (x-1)).testBit j=(x.testBit j && decide (j≠Lib.ctz 64 x)):=by
 obtain ⟨m,hm,hk⟩:=laA h0 hx;obtain ⟨c,hc⟩:∃ c,c=Lib.ctz 64 x:=⟨_,rfl⟩;rw [← hc] at hm hk ⊢;have hp:0<2 ^ c:=Nat.pow_pos dZ;have hlt:2 ^ c<2 ^ (c+1):=Nat.pow_lt_pow_right dZ oZ;have hx1:x-1=2 ^ (c+1)*m+(2 ^ c-1):=oZ;have tb:∀ j,x.testBit j=if j<c+1 then decide (j=c) else m.testBit (j-(c+1)):=λ j=>by
  rw [hm,Nat.testBit_two_pow_mul_add _ hlt,Nat.testBit_two_pow]
  split
  ·rw [decide_eq_decide];exact ⟨λ h=>h.symm,λ h=>h.symm⟩
  ·rfl
 have tb1:∀ j,(x-1).testBit j=if j<c+1 then decide (j<c) else m.testBit (j-(c+1)):=λ j=>by
  rw [hx1,Nat.testBit_two_pow_mul_add _ oZ,Nat.testBit_two_pow_sub_one]
 refine ⟨⟨by rw [tb];simp,λ h=>by rw [tb,if_pos oZ,decide_eq_false oZ]⟩,?_⟩;rw [Nat.testBit_and,tb,tb1]
 by_cases h:j<c+1
 ·rw [if_pos h,if_pos h]
  by_cases e:j=c
  ·subst e;simp
  ·rw [decide_eq_false e];simp
 ·rw [if_neg h,if_neg h,decide_eq_true oZ];simp
theorem d7A (p:Nat→Bool) {a:Nat}:∀ b,a≤b→(∀ i,a≤i→i<b→p i=false)→aeA p b=aeA p a
 | 0,h,_=>by obtain rfl:a=0:=oZ
             rfl
 | b+1,h,hf=>by
   rcases Nat.lt_or_ge b a with h1|h1
   ·obtain rfl:a=b+1:=oZ
    rfl
   ·rw [aeA,d7A p b h1 (λ i g1 g2=>hf i g1 oZ),hf b h1 oZ];simp
theorem kyA {ws:List Int} {k:Nat} (hk:k<ws.length) (v j:Nat):d6A (ws.set k (v:Int)) j=if j / 64=k then v.testBit (j % 64) else d6A ws j:=by
 unfold d6A;rw [vaA hk];split <;> rfl
theorem tmA (d s i:Nat) (hd:d+s≤64):(18446744073709551615 / 2 ^ (64-d)*2 ^ s % 18446744073709551616).testBit i=(decide (s≤i) && decide (i<s+d)):=by
 rw [show (18446744073709551616:Nat)=2 ^ 64 by rfl,Nat.testBit_mod_two_pow,Nat.mul_comm,Nat.testBit_two_pow_mul,← Nat.shiftRight_eq_div_pow,Nat.testBit_shiftRight,show (18446744073709551615:Nat)=2 ^ 64-1 by rfl,Nat.testBit_two_pow_sub_one]
 by_cases h1:s≤i
 ·rw [decide_eq_true h1,Bool.true_and,Bool.true_and]
  by_cases h2:i<s+d
  ·rw [decide_eq_true h2,decide_eq_true oZ,decide_eq_true oZ];rfl
  ·rw [decide_eq_false h2,decide_eq_false (by omega:¬ 64-d+(i-s)<64),Bool.and_false]
 ·rw [decide_eq_false h1];simp
end Go.LA
end
