import Derived.Test.YtbokphkfojijoaaGreatDoorM4
section
set_option linter.unusedSimpArgs false
set_option linter.unusedVariables false
namespace Go.LA
open Go.RowKit Go.ArrP
def Lw (ws:List Int):Prop:=∀ x ∈ ws,0 ≤ x ∧ x < 18446744073709551616
def wd (ws:List Int) (i:Nat):Nat:=(ws.getD i 0).toNat
def coA (ws:List Int) (i:Nat):Bool:=(wd ws (i / 64)).testBit (i % 64)
theorem Lw.at {ws:List Int} (h:Lw ws) (i:Nat):ws.getD i 0=((wd ws i:Nat):Int) ∧ wd ws i < 18446744073709551616:=by
  unfold wd
  by_cases hi:i < ws.length
  · have:=h _ (List.getElem_mem hi)
    rw [b1A hi];omega
  · rw [List.getD,List.getElem?_eq_none (by omega)];decide
theorem wrA {ws:List Int} {i:Nat} (h:ws.length ≤ i):wd ws i=0:=by
  unfold wd;rw [List.getD,List.getElem?_eq_none h];rfl
theorem ptA {ws:List Int} {i:Nat} (h:64 * ws.length ≤ i):coA ws i=false:=by
  unfold coA;rw [wrA (by omega)];simp
theorem ugA (ws:List Int) (k:Nat):cnt (coA ws) (64 * (k + 1))=cnt (coA ws) (64 * k) + geA (wd ws k):=by
  rw [show 64 * (k + 1)=64 * k + 64 by omega,eyA]
  congr 1
  unfold geA
  refine cvA 64 fun i hi=>?_
  unfold coA
  rw [show (64 * k + i) / 64=k by omega,show (64 * k + i) % 64=i by omega]
theorem j1A (a j i:Nat):(a ||| 2 ^ j).testBit i=(a.testBit i || decide (i=j)):=by
  rw [Nat.testBit_or,Nat.testBit_two_pow]
  congr 1
  rw [decide_eq_decide];exact ⟨fun h=>h.symm,fun h=>h.symm⟩
theorem voA {ws:List Int} {i:Nat} (hi:i < ws.length) (v:Nat) (j:Nat):wd (ws.set i (v:Int)) j=if j=i then v else wd ws j:=by
  unfold wd
  by_cases e:j=i
  · subst e;rw [if_pos rfl];simp [List.getD,List.getElem?_set,hi]
  · rw [if_neg e];simp [List.getD,List.getElem?_set,show ¬ i=j from fun h=>e h.symm]
theorem Lw.set {ws:List Int} (h:Lw ws) (i:Nat) {v:Nat} (hv:v < 18446744073709551616):Lw (ws.set i (v:Int)):=fun x hx=>by
  rcases List.mem_or_eq_of_mem_set hx with h1 | h1
  · exact h x h1
  · omega
theorem wsA {ws:List Int} {x:Nat} (hx:x / 64 < ws.length) (i:Nat):coA (ws.set (x / 64) ((wd ws (x / 64) ||| 2 ^ (x % 64):Nat):Int)) i=(coA ws i || decide (i=x)):=by
  unfold coA
  rw [voA hx]
  by_cases e:i / 64=x / 64
  · rw [if_pos e,j1A,e]
    congr 1
    rw [decide_eq_decide];omega
  · rw [if_neg e,decide_eq_false (by omega),Bool.or_false]
theorem kxA (n i:Nat):coA (List.replicate n 0) i=false:=by
  unfold coA wd
  have:(List.replicate n (0:Int)).getD (i / 64) 0=0:=by
    by_cases h:i / 64 < n
    · simp [List.getD,List.getElem?_replicate,h]
    · simp [List.getD,List.getElem?_replicate,h]
  rw [this];simp
theorem mzA (n:Nat):Lw (List.replicate n 0):=fun x hx=>by
  rw [List.eq_of_mem_replicate hx];decide
theorem kwA {a b:List Int} (ha:Lw a) (hb:Lw b) (hl:a.length=b.length) (h:∀ i,i < 64 * a.length → coA a i=coA b i):a=b:=by
  refine List.ext_getElem hl fun k h1 h2=>?_
  have e1:=(ha.at k).1;have e2:=(hb.at k).1
  rw [b1A h1] at e1;rw [b1A h2] at e2
  rw [e1,e2]
  congr 1
  apply Nat.eq_of_testBit_eq
  intro i
  by_cases hi:i < 64
  · have:=h (64 * k + i) (by omega)
    unfold coA at this
    rwa [show (64 * k + i) / 64=k by omega,show (64 * k + i) % 64=i by omega] at this
  · rw [Nat.testBit_lt_two_pow (Nat.lt_of_lt_of_le (ha.at k).2 (Nat.pow_le_pow_right (n:=2) (by decide) (by omega:64 ≤ i))),Nat.testBit_lt_two_pow (Nat.lt_of_lt_of_le (hb.at k).2 (Nat.pow_le_pow_right (n:=2) (by decide) (by omega:64 ≤ i)))]
def k1A (p:Nat → Bool) (k:Nat):Nat → Nat
  | 0=>0
  | j + 1=>k1A p k j ||| (if p (64 * k + j) then 2 ^ j else 0)
theorem l5A (p:Nat → Bool) (k i:Nat):∀ j,(k1A p k j).testBit i=(decide (i < j) && p (64 * k + i))
  | 0=>by simp [k1A]
  | j + 1=>by
    rw [k1A,Nat.testBit_or,l5A p k i j]
    by_cases e:i=j
    · subst e
      cases h:p (64 * k + i) <;> simp [h,Nat.testBit_two_pow]
    · have h1:(if p (64 * k + j)=true then 2 ^ j else 0).testBit i=false:=by
        split
        · rw [Nat.testBit_two_pow];simpa using fun h=>e h.symm
        · simp
      rw [h1,Bool.or_false,show decide (i < j + 1)=decide (i < j) by rw [decide_eq_decide];omega]
theorem nsA (p:Nat → Bool) (k:Nat):∀ j,k1A p k j < 2 ^ j
  | 0=>by simp [k1A]
  | j + 1=>by
    rw [k1A]
    have ih:=nsA p k j
    have h2:2 ^ j < 2 ^ (j + 1):=Nat.pow_lt_pow_right (by decide) (by omega)
    refine Nat.or_lt_two_pow (by omega) ?_
    split
    · exact h2
    · exact Nat.pow_pos (by decide)
def wordsOf (p:Nat → Bool):List Int:=(List.range 1024).map (fun k=>((k1A p k 64:Nat):Int))
theorem b6A (p:Nat → Bool):(wordsOf p).length=1024:=by rw [wordsOf,List.length_map,List.length_range]
theorem c0A (p:Nat → Bool):Lw (wordsOf p):=fun x hx=>by
  rw [wordsOf,List.mem_map] at hx
  obtain ⟨k,_,rfl⟩:=hx
  have:=nsA p k 64
  omega
theorem cfA (p:Nat → Bool) {i:Nat} (hi:i < 65536):coA (wordsOf p) i=p i:=by
  unfold coA wd
  have h1:(wordsOf p).getD (i / 64) 0=((k1A p (i / 64) 64:Nat):Int):=by
    rw [List.getD,wordsOf,List.getElem?_map,List.getElem?_range (by omega)];rfl
  rw [h1,Int.toNat_natCast,l5A,decide_eq_true (by omega),Bool.true_and,show 64 * (i / 64) + i % 64=i by omega]
theorem joA {ws:List Int} (h:Lw ws) (hl:ws.length=1024):ws=wordsOf (coA ws) :=
  kwA h (c0A _) (by rw [hl,b6A]) (fun i hi=>by rw [cfA _ (by omega)])
theorem c1A {p q:Nat → Bool} (h:∀ i,i < 65536 → p i=q i):wordsOf p=wordsOf q :=
  kwA (c0A _) (c0A _) (by rw [b6A,b6A]) (fun i hi=>by
    rw [b6A] at hi
    rw [cfA p (by omega),cfA q (by omega),h i (by omega)])
theorem laA {x:Nat} (h0:x ≠ 0) (hx:x < 18446744073709551616):∃ m,x=2 ^ (Lib.ctz 64 x + 1) * m + 2 ^ Lib.ctz 64 x ∧ Lib.ctz 64 x < 64:=by
  obtain ⟨m,hm,hk⟩:=Lib.ctzFrom_spec 64 x (by omega) hx
  have e:Lib.ctz 64 x=Lib.ctzFrom 64 x:=by simp [Lib.ctz,h0]
  rw [e]
  refine ⟨m,?_,hk⟩
  rw [Nat.pow_succ]
  conv=>lhs;rw [hm]
  rw [Nat.mul_add,Nat.mul_one,Nat.mul_assoc]
theorem xqA {x:Nat} (h0:x ≠ 0) (hx:x < 18446744073709551616) (j:Nat):(x.testBit (Lib.ctz 64 x)=true ∧ (j < Lib.ctz 64 x → x.testBit j=false)) ∧ (x &&& (x - 1)).testBit j=(x.testBit j && decide (j ≠ Lib.ctz 64 x)):=by
  obtain ⟨m,hm,hk⟩:=laA h0 hx
  obtain ⟨c,hc⟩:∃ c,c=Lib.ctz 64 x:=⟨_,rfl⟩
  rw [← hc] at hm hk ⊢
  have hp:0 < 2 ^ c:=Nat.pow_pos (by decide)
  have hlt:2 ^ c < 2 ^ (c + 1):=Nat.pow_lt_pow_right (by decide) (by omega)
  have hx1:x - 1=2 ^ (c + 1) * m + (2 ^ c - 1):=by omega
  have tb:∀ j,x.testBit j=if j < c + 1 then decide (j=c) else m.testBit (j - (c + 1)):=fun j=>by
    rw [hm,Nat.testBit_two_pow_mul_add _ hlt,Nat.testBit_two_pow]
    split
    · rw [decide_eq_decide];exact ⟨fun h=>h.symm,fun h=>h.symm⟩
    · rfl
  have tb1:∀ j,(x - 1).testBit j=if j < c + 1 then decide (j < c) else m.testBit (j - (c + 1)):=fun j=>by
    rw [hx1,Nat.testBit_two_pow_mul_add _ (by omega),Nat.testBit_two_pow_sub_one]
  refine ⟨⟨by rw [tb];simp,fun h=>by rw [tb,if_pos (by omega),decide_eq_false (by omega)]⟩,?_⟩
  rw [Nat.testBit_and,tb,tb1]
  by_cases h:j < c + 1
  · rw [if_pos h,if_pos h]
    by_cases e:j=c
    · subst e;simp
    · rw [decide_eq_false e];simp
  · rw [if_neg h,if_neg h,decide_eq_true (by omega)];simp
theorem gpA (p:Nat → Bool) {a:Nat}:∀ b,a ≤ b → (∀ i,a ≤ i → i < b → p i=false) → ahA p b=ahA p a
  | 0,h,_=>by obtain rfl:a=0:=by omega
              rfl
  | b + 1,h,hf=>by
    rcases Nat.lt_or_ge b a with h1 | h1
    · obtain rfl:a=b + 1:=by omega
      rfl
    · rw [ahA,gpA p b h1 (fun i g1 g2=>hf i g1 (by omega)),hf b h1 (by omega)];simp
theorem wqA {ws:List Int} {q k:Nat} (h:k < q):wd (ws.take q) k=wd ws k:=by
  unfold wd;simp [List.getD,List.getElem?_take,h]
theorem psA {ws:List Int} {q i:Nat} (h:i < 64 * q):coA (ws.take q) i=coA ws i:=by
  unfold coA;rw [wqA (by omega)]
theorem Lw.take {ws:List Int} (h:Lw ws) (q:Nat):Lw (ws.take q):=fun x hx=>h x (List.mem_of_mem_take hx)
theorem xeA (x m:Nat) (hm:m ≤ 64):geA (x * 2 ^ (64 - m) % 18446744073709551616)=cnt (fun i=>x.testBit i) m:=by
  unfold geA
  have hb:∀ i,i < 64 → (x * 2 ^ (64 - m) % 18446744073709551616).testBit i=(decide (64 - m ≤ i) && x.testBit (i - (64 - m))):=fun i hi=>by
    rw [show (18446744073709551616:Nat)=2 ^ 64 by rfl,Nat.testBit_mod_two_pow,decide_eq_true hi,Bool.true_and,Nat.mul_comm,Nat.testBit_two_pow_mul]
  rw [cvA 64 hb,show cnt (fun i=>decide (64 - m ≤ i) && x.testBit (i - (64 - m))) 64=cnt (fun i=>decide (64 - m ≤ i) && x.testBit (i - (64 - m))) ((64 - m) + m) by rw [show 64 - m + m=64 by omega],eyA,dzA (64 - m) (fun i hi=>by simp;omega),Nat.zero_add]
  exact cvA m fun i hi=>by simp
theorem uhA (ws:List Int) (q m:Nat) (hm:m ≤ 64):cnt (coA ws) (64 * q + m)=cnt (coA ws) (64 * q) + cnt (fun i=>(wd ws q).testBit i) m:=by
  rw [eyA]
  congr 1
  refine cvA m fun i hi=>?_
  unfold coA
  rw [show (64 * q + i) / 64=q by omega,show (64 * q + i) % 64=i by omega]
theorem kyA {ws:List Int} {k:Nat} (hk:k < ws.length) (v j:Nat):coA (ws.set k (v:Int)) j=if j / 64=k then v.testBit (j % 64) else coA ws j:=by
  unfold coA;rw [voA hk];split <;> rfl
theorem tsA (d s i:Nat) (hd:d + s ≤ 64):(18446744073709551615 / 2 ^ (64 - d) * 2 ^ s % 18446744073709551616).testBit i=(decide (s ≤ i) && decide (i < s + d)):=by
  rw [show (18446744073709551616:Nat)=2 ^ 64 by rfl,Nat.testBit_mod_two_pow,Nat.mul_comm,Nat.testBit_two_pow_mul,← Nat.shiftRight_eq_div_pow,Nat.testBit_shiftRight,show (18446744073709551615:Nat)=2 ^ 64 - 1 by rfl,Nat.testBit_two_pow_sub_one]
  by_cases h1:s ≤ i
  · rw [decide_eq_true h1,Bool.true_and,Bool.true_and]
    by_cases h2:i < s + d
    · rw [decide_eq_true h2,decide_eq_true (by omega),decide_eq_true (by omega)];rfl
    · rw [decide_eq_false h2,decide_eq_false (by omega:¬ 64 - d + (i - s) < 64),Bool.and_false]
  · rw [decide_eq_false h1];simp
end Go.LA
end
