import Derived.Laws.Tables
import Derived.Lib.TrailingZeros
import Derived.Test.YtbokphkfojijoaaGreatDoorM3
set_option linter.unusedSimpArgs false
set_option linter.unusedVariables false
set_option maxRecDepth 3000
set_option maxHeartbeats 16000000
section
namespace Go.LA
open Go.RowKit Go.ArrP
def cnt (p:Nat→Bool):Nat→Nat
 | 0=>0
 | n+1=>cnt p n+if p n then 1 else 0
def ahA (p:Nat→Bool):Nat→List Int
 | 0=>[]
 | n+1=>ahA p n++if p n then [(n:Int)] else []
theorem cnt_le (p:Nat→Bool):∀ n,cnt p n≤n
 | 0=>Nat.le_refl _
 | n+1=>by have:=cnt_le p n;simp only [cnt];split <;> omega
theorem cnt_mono (p:Nat→Bool) {m:Nat}:∀ n,m≤n→cnt p m≤cnt p n
 | 0,h=>by obtain rfl:m=0:=oZ
           exact Nat.le_refl _
 | n+1,h=>by
   rcases Nat.lt_or_ge n m with h1|h1
   ·obtain rfl:m=n+1:=oZ
    exact Nat.le_refl _
   ·have:=cnt_mono p n h1;simp only [cnt];omega
theorem b1A (p:Nat→Bool):∀ n,(ahA p n).length=cnt p n
 | 0=>rfl
 | n+1=>by simp only [ahA,cnt,List.length_append,b1A p n];split <;> rfl
theorem c7A (p:Nat→Bool) (z:Int):∀ n,z ∈ ahA p n↔∃ i:Nat,i<n∧p i=true∧z=i
 | 0=>by simp [ahA]
 | n+1=>by
   simp only [ahA,List.mem_append,c7A p z n]
   constructor
   ·rintro (⟨i,h1,h2,h3⟩|h)
    ·exact ⟨i,by omega,h2,h3⟩
    ·split at h
     ·rename_i hp;simp at h;exact ⟨n,by omega,hp,h⟩
     ·simp at h
   ·rintro ⟨i,h1,h2,h3⟩
    by_cases e:i=n
    ·subst e;right;simp [h2,h3]
    ·left;exact ⟨i,by omega,h2,h3⟩
theorem c9A (p:Nat→Bool):∀ n,Inc (ahA p n)
 | 0=>nhA
 | n+1=>by
   have ih:=c9A p n;simp only [ahA]
   split
   ·refine List.pairwise_append.2 ⟨ih,List.pairwise_singleton _ _,λ a ha b hb=>?_⟩
    obtain ⟨i,h1,h2,h3⟩:=(c7A p a n).1 ha;simp at hb;omega
   ·simpa using ih
theorem d7A {p q:Nat→Bool}:∀ n,(∀ i,i<n→p i=q i)→cnt p n=cnt q n
 | 0,_=>rfl
 | n+1,h=>by simp only [cnt,d7A n (λ i hi=>h i oZ),h n oZ]
theorem edA {p q:Nat→Bool}:∀ n,(∀ i,i<n→p i=q i)→ahA p n=ahA q n
 | 0,_=>rfl
 | n+1,h=>by simp only [ahA,edA n (λ i hi=>h i oZ),h n oZ]
theorem t4A {p q r:Nat→Bool}:∀ n,(∀ i,i<n→(if p i then 1 else 0:Nat)=(if q i then 1 else 0)+if r i then 1 else 0)→cnt p n=cnt q n+cnt r n
 | 0,_=>rfl
 | n+1,h=>by simp only [cnt,t4A n (λ i hi=>h i oZ),h n oZ];omega
theorem ejA {p:Nat→Bool}:∀ n,(∀ i,i<n→p i=false)→cnt p n=0
 | 0,_=>rfl
 | n+1,h=>by simp [cnt,ejA n (λ i hi=>h i oZ),h n oZ]
def cdA (xs:List Int) (i:Nat):Bool:=decide ((i:Int) ∈ xs)
def Low (xs:List Int):Prop:=∀ x ∈ xs,0≤x∧x<65536
theorem kdA {xs:List Int} (h:Inc xs) (hl:Low xs):ahA (cdA xs) 65536=xs:=by
 refine htA (c9A _ _) h λ z=>?_
 rw [c7A]
 constructor
 ·rintro ⟨i,h1,h2,rfl⟩;simpa [cdA] using h2
 ·intro hz
  have:=hl z hz;exact ⟨z.toNat,by omega,by simp only [cdA];rw [show ((z.toNat:Nat):Int)=z by omega];simpa using hz,by omega⟩
theorem d8A (p:Nat→Bool) {i:Nat} (hi:i<65536):cdA (ahA p 65536) i=p i:=by
 simp only [cdA];rw [Bool.eq_iff_iff,decide_eq_true_eq,c7A]
 constructor
 ·rintro ⟨j,h1,h2,h3⟩
  obtain rfl:i=j:=oZ;exact h2
 ·exact λ h=>⟨i,hi,h,rfl⟩
theorem enA (p:Nat→Bool):Low (ahA p 65536):=λ x hx=>by
 obtain ⟨i,h1,_,h3⟩:=(c7A p x _).1 hx;omega
def bbA (p:Nat→Bool) (i:Nat):Bool:=p i && (i == 0 || !p (i-1))
theorem gkA (p:Nat→Bool):∀ (n i:Nat),i<n→p i=true→(ahA p n).getD (cnt p i) 0=i
 | 0,i,h,_=>by omega
 | n+1,i,h,hp=>by
   simp only [ahA]
   rcases Nat.lt_or_ge i n with h1|h1
   ·have ih:=gkA p n i h1 hp
    have hlt:cnt p i<(ahA p n).length:=by
     rw [b1A];have:=cnt_mono p (m:=i+1) n oZ;simp only [cnt,hp,if_true] at this;omega
    rw [List.getD,List.getElem?_append_left hlt];exact ih
   ·obtain rfl:i=n:=oZ
    rw [List.getD,List.getElem?_append_right (by rw [b1A];exact Nat.le_refl _),b1A,hp];simp
theorem ffA (p:Nat→Bool):∀ (n k:Nat),k<cnt p n→∃ i:Nat,i<n∧p i=true∧cnt p i=k∧(ahA p n).getD k 0=i
 | 0,k,h=>by simp [cnt] at h
 | n+1,k,h=>by
   by_cases h1:k<cnt p n
   ·obtain ⟨i,h2,h3,h4,h5⟩:=ffA p n k h1
    exact ⟨i,by omega,h3,h4,by rw [← h4];exact gkA p (n+1) i oZ h3⟩
   ·cases hp:p n
    ·simp [cnt,hp] at h;omega
    ·simp only [cnt,hp,if_true] at h
     have:cnt p n=k:=oZ;exact ⟨n,by omega,hp,this,by rw [← this];exact gkA p (n+1) n oZ hp⟩
theorem wjA {xs:List Int} (x:Int) (h:Inc xs) {i:Nat} (hi:i≤xs.length) (h1:∀ k,k<i→xs.getD k 0<x) (h2:∀ k,i≤k→k<xs.length→x≤xs.getD k 0):bsS xs x=i:=by
 obtain ⟨g1,g2⟩:=imA x h;have g3:=pnA xs x
 rcases Nat.lt_trichotomy (bsS xs x) i with h3|h3|h3
 ·have a:=h1 (bsS xs x) h3;have b:=g2 (bsS xs x) (Nat.le_refl _) oZ;omega
 ·exact h3
 ·have a:=g1 i h3;have b:=h2 i (Nat.le_refl _) oZ;omega
theorem kfA (p:Nat→Bool) {n k:Nat} (h:k<cnt p n):∃ i:Nat,i<n∧p i=true∧cnt p i=k∧(ahA p n).getD k 0=i:=ffA p n k h
theorem jkA (p:Nat→Bool) (x:Nat) (hx:x≤65536):bsS (ahA p 65536) x=cnt p x:=by
 refine wjA x (c9A _ _) (by rw [b1A];exact cnt_mono p _ hx) (λ k hk=>?_) (λ k h1 h2=>?_)
 ·obtain ⟨i,g1,g2,g3,g4⟩:=ffA p 65536 k (Nat.lt_of_lt_of_le hk (cnt_mono p _ hx))
  rw [g4]
  rcases Nat.lt_or_ge i x with h|h
  ·omega
  ·have:=cnt_mono p (m:=x) i h;omega
 ·rw [b1A] at h2
  obtain ⟨i,g1,g2,g3,g4⟩:=ffA p 65536 k h2;rw [g4]
  rcases Nat.lt_or_ge i x with h|h
  ·have:=cnt_mono p (m:=i+1) x h
   simp only [cnt,g2,if_true] at this;omega
  ·omega
def marks (p:Nat→Bool):Array Value:=((List.range 65536).map (λ i=>Value.bool (p i))).toArray
theorem ezA (p:Nat→Bool):(marks p).size=65536:=by simp [marks]
theorem emA (p:Nat→Bool) {i:Nat} (h:i<65536):(marks p)[i]?=some (.bool (p i)):=by
 simp [marks,List.getElem?_range h]
theorem j8A {p q:Nat→Bool} (h:∀ i,i<65536→p i=q i):marks p=marks q:=by
 have h1:∀ i ∈ List.range 65536,Value.bool (p i)=Value.bool (q i):=λ i hi=>by rw [h i (List.mem_range.1 hi)]
 exact congrArg List.toArray (List.map_congr_left h1)
theorem s8A (p:Nat→Bool) {i:Nat} (b:Bool) (h:i<65536):(marks p).setIfInBounds i (.bool b)=marks (λ j=>if j=i then b else p j):=by
 refine Array.ext (by rw [Array.size_setIfInBounds,ezA,ezA]) λ j h1 h2=>?_
 have hj:j<65536:=by rw [ezA] at h2;exact h2
 have e1:(marks (λ j=>if j=i then b else p j))[j]?=some (.bool (if j=i then b else p j)):=emA _ hj;have e2:((marks p).setIfInBounds i (.bool b))[j]?=some (.bool (if j=i then b else p j)):=by
  by_cases e:j=i
  ·subst e;simp [ezA,h]
  ·rw [Array.getElem?_setIfInBounds_ne oZ,emA p hj];simp [e]
 rw [Array.getElem?_eq_getElem h1] at e2;rw [Array.getElem?_eq_getElem h2] at e1;exact Option.some.inj (e2.trans e1.symm)
def fl0:List Value:=[.bool false,.bool false,.bool false,.bool false,.bool false,.bool false,.bool false,.bool false,.bool false,.bool false,.bool false,.bool false,.bool false,.bool false,.bool false,.bool false,.bool false,.bool false,.bool false,.bool false,.bool false,.bool false,.bool false,.bool false,.bool false,.bool false,.bool false,.bool false,.bool false,.bool false,.bool false,.bool false,.bool false,.bool false,.bool false,.bool false,.bool false,.bool false,.bool false,.bool false,.bool false,.bool false,.bool false,.bool false,.bool false,.bool false,.bool false,.bool false,.bool false,.bool false,.bool false,.bool false,.bool false,.bool false,.bool false,.bool false,.bool false,.bool false,.bool false,.bool false,.bool false,.bool false,.bool false,.bool false]
def fl1:List Value:=List.append fl0 fl0
def fl2:List Value:=List.append fl1 fl1
def fl3:List Value:=List.append fl2 fl2
def fl4:List Value:=List.append fl3 fl3
def fl5:List Value:=List.append fl4 fl4
def fl6:List Value:=List.append fl5 fl5
def fl7:List Value:=List.append fl6 fl6
def fl8:List Value:=List.append fl7 fl7
def fl9:List Value:=List.append fl8 fl8
def fl10:List Value:=List.append fl9 fl9
theorem ugA {l:List Value} {n m:Nat} {a:Value} (h:l=List.replicate n a) (hm:n+n=m):List.append l l=List.replicate m a:=by
 subst h;subst hm;show List.replicate n a++List.replicate n a=_;rw [List.replicate_append_replicate]
theorem abB:fl10=List.replicate 65536 (.bool false):=by
 have h0:fl0=List.replicate 64 (.bool false):=rfl;exact ugA (ugA (ugA (ugA (ugA (ugA (ugA (ugA (ugA (ugA h0 rfl) rfl) rfl) rfl) rfl) rfl) rfl) rfl) rfl) rfl
theorem roA (n:Nat) (a:Value):(List.range n).map (λ _=>a)=List.replicate n a:=by
 refine List.ext_getElem (by simp) λ i h1 h2=>by simp
theorem q7A:marks (λ _=>false)=fl10.toArray:=by
 rw [abB,← roA];rfl
def MkI (base e:Nat) (w:World) (v:Value) (p:Nat→Bool):Prop:=∃ b,v=.pointer (some ⟨b,0,none⟩)∧base≤b∧w.heap[b]?=some (.cells (marks p) e (0,0))
theorem MkI.ext {base e:Nat} {w w':World} {v:Value} {p:Nat→Bool} (h:MkI base e w v p) (x:Ext w w'):MkI base e w' v p:=by
 obtain ⟨b,h1,h2,h3⟩:=h;exact ⟨b,h1,h2,x.block h3⟩
theorem MkI.base {base base' e:Nat} {w:World} {v:Value} {p:Nat→Bool} (h:MkI base e w v p) (hb:base'≤base):MkI base' e w v p:=by
 obtain ⟨b,h1,h2,h3⟩:=h;exact ⟨b,h1,Nat.le_trans hb h2,h3⟩
def mkI (base e:Nat) (p:Nat→Bool):AV:=⟨λ v w=>MkI base e w v p,λ _ _ _ x h=>h.ext x⟩
structure Fr (R:Nat→Prop) (w w':World):Prop where
 os:w'.os=w.os
 tape:w'.tape=w.tape
 output:w'.output=w.output
 size:w.heap.size≤w'.heap.size
 block:∀ k,k<w.heap.size→¬ R k→w'.heap[k]?=w.heap[k]?
theorem Fr.of {R:Nat→Prop} {w w':World} (e:Ext w w'):Fr R w w':=⟨e.os,e.tape,e.output,e.size,λ k hk _=>Below.block e k hk⟩
theorem Fr.trans {R:Nat→Prop} {w w' w'':World} (h:Fr R w w') (h':Fr R w' w''):Fr R w w'' :=
 ⟨h'.os.trans h.os,h'.tape.trans h.tape,h'.output.trans h.output,Nat.le_trans h.size h'.size,λ k hk hn=>(h'.block k (Nat.lt_of_lt_of_le hk h.size) hn).trans (h.block k hk hn)⟩
theorem Fr.mono {R R':Nat→Prop} {w w':World} (h:Fr R w w') (hr:∀ k,R k→R' k):Fr R' w w':=⟨h.os,h.tape,h.output,h.size,λ k hk hn=>h.block k hk (λ h'=>hn (hr k h'))⟩
theorem Fr.setRow {R:Nat→Prop} {w w':World} (h:Fr R w w') {b:Nat} (hb:R b) (cs:Array Value):Fr R w (w'.setRow b cs) :=
 ⟨h.os,h.tape,h.output,by simpa using h.size,λ k hk hn=>(setRow_other w' b k cs (λ e=>hn (e▸hb))).trans (h.block k hk hn)⟩
theorem Fr.ext {R:Nat→Prop} {w0 w w':World} (e:Ext w0 w) (h:Fr R w w') (hr:∀ k,R k→w0.heap.size≤k):Ext w0 w' :=
 ⟨h.os.trans e.os,h.tape.trans e.tape,h.output.trans e.output,Nat.le_trans e.size h.size,λ k hk=>(h.block k (Nat.lt_of_lt_of_le hk e.size) (λ h'=>by have:=hr k h';omega)).trans (Below.block e k hk)⟩
theorem Fr.at {R:Nat→Prop} {w w':World} (h:Fr R w w') {b:Nat} {o:Obj} (hb:w.heap[b]?=some o) (hn:¬ R b):w'.heap[b]?=some o :=
 (h.block b (Array.getElem?_eq_some_iff.1 hb).1 hn).trans hb
theorem Fr.own {R:Nat→Prop} {w w':World} (h:Fr R w w') {base e s n:Nat} {v:Value} {cs:List Value} (ho:Own base e s w v n cs) (hn:∀ k,v.ownBlock=some k→¬ R k):Own base e s w' v n cs:=by
 refine ⟨ho.1,?_⟩
 rcases ho.2 with h0|⟨g,cap,cur,rfl,hb,hg,r⟩
 ·exact .inl h0
 ·exact .inr ⟨g,cap,cur,rfl,hb,h.at hg (hn g rfl),r⟩
theorem ojA {k:IntKind} {cur:Array Value} {xs:List Int} (h:cur.toList.take xs.length=xs.map (Value.int k)) {i:Nat} (hi:i<xs.length):cur[i]?=some (.int k (xs.getD i 0)):=by
 have h1:=congrArg (λ l=>l[i]?) h;simp only [List.getElem?_take,if_pos hi,List.getElem?_map,List.getElem?_eq_getElem hi,Option.map_some] at h1;rw [← Array.getElem?_toList,h1];simp [List.getD,List.getElem?_eq_getElem hi]
end Go.LA
attribute [irreducible] Go.LA.marks
end
section
namespace Go.LA
open Go.RowKit
theorem qcA (k a b c d:Nat) (ha:a<2 ^ k) (hc:c<2 ^ k):(a+2 ^ k*b) &&& (c+2 ^ k*d)=(a &&& c)+2 ^ k*(b &&& d):=by
 have hac:a &&& c<2 ^ k:=Nat.lt_of_le_of_lt Nat.and_le_left ha
 apply Nat.eq_of_testBit_eq
 intro i;rw [Nat.testBit_and,Nat.add_comm a,Nat.add_comm c,Nat.add_comm (a &&& c),Nat.testBit_two_pow_mul_add _ ha,Nat.testBit_two_pow_mul_add _ hc,Nat.testBit_two_pow_mul_add _ hac]
 by_cases h:i<k
 ·simp [h,Nat.testBit_and]
 ·simp [h,Nat.testBit_and]
theorem f2A (a b c d:Nat) (ha:a<256) (hc:c<256):(a+256*b) &&& (c+256*d)=(a &&& c)+256*(b &&& d):=qcA 8 a b c d ha hc
def y1 (m x:Nat):Nat:=(x / 2 &&& m)+(x &&& m)
def y2 (m x:Nat):Nat:=(x / 4 &&& m)+(x &&& m)
def y3 (m x:Nat):Nat:=(x / 16+x) &&& m
theorem ukA (a b m:Nat) (ha:a<256):y1 (85+256*m) (a+256*b)=y1 85 a+256*y1 m b:=by
 have e:(a+256*b) / 2=(a / 2+128*(b % 2))+256*(b / 2):=oZ;have f:∀ c,c<128→∀ t,t<2→(c+128*t) &&& 85=c &&& 85:=by decide +kernel
 unfold y1;rw [e,f2A _ _ _ _ oZ oZ,f2A _ _ _ _ ha oZ,f _ oZ _ oZ];omega
theorem ujA (a b m:Nat) (ha:a<256):y2 (51+256*m) (a+256*b)=y2 51 a+256*y2 m b:=by
 have e:(a+256*b) / 4=(a / 4+64*(b % 4))+256*(b / 4):=oZ;have f:∀ c,c<64→∀ t,t<4→(c+64*t) &&& 51=c &&& 51:=by decide +kernel
 unfold y2;rw [e,f2A _ _ _ _ oZ oZ,f2A _ _ _ _ ha oZ,f _ oZ _ oZ];omega
theorem uiA (a b m:Nat) (ha:a≤68) (hb:b % 16≤4):y3 (15+256*m) (a+256*b)=y3 15 a+256*y3 m b:=by
 have e:(a+256*b) / 16+(a+256*b)=(a / 16+a+16*(b % 16))+256*(b / 16+b):=oZ;have f:∀ c,c≤72→∀ t,t≤4→(c+16*t) &&& 15=c &&& 15:=by decide +kernel
 unfold y3;rw [e,f2A _ _ _ _ oZ oZ,f _ oZ _ oZ]
def pop8 (a:Nat):Nat:=cnt (λ i=>a.testBit i) 8
theorem tbA:∀ a,a<256→y1 85 a<256∧y2 51 (y1 85 a)≤68∧y2 51 (y1 85 a) % 16≤4∧y3 15 (y2 51 (y1 85 a))=pop8 a:=by decide +kernel
def mk8 (c:Nat):Nat→Nat
 | 0=>0
 | n+1=>c+256*mk8 c n
def popB:Nat→Nat→Nat
 | 0,_=>0
 | n+1,x=>pop8 (x % 256)+256*popB n (x / 256)
theorem swar:∀ n x,x<256 ^ n→y3 (mk8 15 n) (y2 (mk8 51 n) (y1 (mk8 85 n) x))=popB n x∧y2 (mk8 51 n) (y1 (mk8 85 n) x) % 16≤4
 | 0,x,h=>by
   have:x=0:=by simpa using h
   subst this;exact ⟨rfl,by decide⟩
 | n+1,x,h=>by
   have hx:x / 256<256 ^ n:=by rw [Nat.pow_succ] at h;omega
   obtain ⟨h1,h2⟩:=swar n (x / 256) hx;obtain ⟨g1,g2,g3,g4⟩:=tbA (x % 256) oZ;have ex:x=x % 256+256*(x / 256):=oZ;have s1:y1 (mk8 85 (n+1)) x=y1 85 (x % 256)+256*y1 (mk8 85 n) (x / 256):=by
    conv=>lhs;rw [ex]
    exact ukA _ _ _ oZ
   have s2:y2 (mk8 51 (n+1)) (y1 (mk8 85 (n+1)) x)=y2 51 (y1 85 (x % 256))+256*y2 (mk8 51 n) (y1 (mk8 85 n) (x / 256)):=by
    rw [s1];exact ujA _ _ _ g1
   rw [s2];refine ⟨?_,by omega⟩;have s3:=uiA (y2 51 (y1 85 (x % 256))) (y2 (mk8 51 n) (y1 (mk8 85 n) (x / 256))) (mk8 15 n) g2 h2;simp only [popB];rw [← g4,← h1];exact s3
theorem g5A (a:Nat):pop8 a≤8:=cnt_le _ _
theorem fkA (p:Nat→Bool) (m:Nat):∀ n,cnt p (m+n)=cnt p m+cnt (λ i=>p (m+i)) n
 | 0=>rfl
 | n+1=>by rw [← Nat.add_assoc];simp only [cnt,fkA p m n];omega
def hbA (x:Nat):Nat:=cnt (λ i=>x.testBit i) 64
theorem f9A (x n:Nat):cnt (λ i=>x.testBit i) (8+n)=pop8 (x % 256)+cnt (λ i=>(x / 256).testBit i) n:=by
 rw [fkA];congr 1
 ·refine d7A 8 λ i hi=>?_
  rw [show (256:Nat)=2 ^ 8 by rfl,Nat.testBit_mod_two_pow];simp [hi]
 ·refine d7A n λ i hi=>?_
  rw [show x / 256=x >>> 8 by rw [Nat.shiftRight_eq_div_pow],Nat.testBit_shiftRight]
theorem zfA (x:Nat):hbA x=pop8 (x % 256)+(pop8 (x / 256 % 256)+(pop8 (x / 256 / 256 % 256)+(pop8 (x / 256 / 256 / 256 % 256)+(pop8 (x / 256 / 256 / 256 / 256 % 256)+(pop8 (x / 256 / 256 / 256 / 256 / 256 % 256)+(pop8 (x / 256 / 256 / 256 / 256 / 256 / 256 % 256)+pop8 (x / 256 / 256 / 256 / 256 / 256 / 256 / 256 % 256))))))):=by
 unfold hbA;rw [show 64=8+56 by rfl,f9A,show 56=8+48 by rfl,f9A,show 48=8+40 by rfl,f9A,show 40=8+32 by rfl,f9A,show 32=8+24 by rfl,f9A,show 24=8+16 by rfl,f9A,show 16=8+8 by rfl,f9A,show cnt (λ i=>(x / 256 / 256 / 256 / 256 / 256 / 256 / 256).testBit i) 8=cnt (λ i=>(x / 256 / 256 / 256 / 256 / 256 / 256 / 256).testBit i) (8+0) by rfl,f9A];rfl
theorem dv1 (a q:Nat) (h:a<256):(a+256*q) / 256=q:=oZ
theorem dv2 (a q:Nat) (h:a<65536):(a+65536*q) / 65536=q:=oZ
theorem dv3 (a q:Nat) (h:a<4294967296):(a+4294967296*q) / 4294967296=q:=oZ
theorem lt1 {p0:Nat} (h0:p0≤8):p0<256:=oZ
theorem lt2 {p0 p1 p2:Nat} (h0:p0≤8) (h1:p1≤8) (h2:p2≤8):(p0+p1)+256*(p1+p2)<65536:=oZ
theorem lt3 {p0 p1 p2 p3 p4 p5 p6:Nat} (h0:p0≤8) (h1:p1≤8) (h2:p2≤8) (h3:p3≤8) (h4:p4≤8) (h5:p5≤8) (h6:p6≤8):(p0+p1+p2+p3)+256*(p1+p2+p3+p4)+65536*(p2+p3+p4+p5)+16777216*(p3+p4+p5+p6)<4294967296:=oZ
theorem fin8 (p0 p1 p2 p3 p4 p5 p6 p7 q1 q2 q3 q4 q5 q6 z:Nat) (h0:p0≤8) (h1:p1≤8) (h2:p2≤8) (h3:p3≤8) (h4:p4≤8) (h5:p5≤8) (h6:p6≤8) (h7:p7≤8)
 (e6:q6=p6+256*p7) (e5:q5=p5+256*q6) (e4:q4=p4+256*q5) (e3:q3=p3+256*q4) (e2:q2=p2+256*q3) (e1:q1=p1+256*q2) (ez:z=p0+256*q1):(z+q1+(q2+q3)+(q4+q5+q6+p7)) % 128=p0+(p1+(p2+(p3+(p4+(p5+(p6+p7)))))):=oZ
theorem bnd8 (p0 p1 p2 p3 p4 p5 p6 p7 q1 q2 q3 q4 q5 q6 z:Nat) (h0:p0≤8) (h1:p1≤8) (h2:p2≤8) (h3:p3≤8) (h4:p4≤8) (h5:p5≤8) (h6:p6≤8) (h7:p7≤8)
 (e6:q6=p6+256*p7) (e5:q5=p5+256*q6) (e4:q4=p4+256*q5) (e3:q3=p3+256*q4) (e2:q2=p2+256*q3) (e1:q1=p1+256*q2) (ez:z=p0+256*q1):q6≤2056∧q5≤526344∧q4≤134744072∧q3≤34494482440∧q2≤8830587504648∧q1≤2260630401189896∧z≤578721382704613384:=by
 have b6:q6≤2056:=oZ;have b5:q5≤526344:=oZ;have b4:q4≤134744072:=oZ;have b3:q3≤34494482440:=oZ;have b2:q2≤8830587504648:=oZ;have b1:q1≤2260630401189896:=oZ;have bz:z≤578721382704613384:=oZ;exact ⟨b6,b5,b4,b3,b2,b1,bz⟩
theorem bnd2 {z:Nat} (bz:z≤578721382704613384):z<18446744073709551616:=oZ
theorem bnd3 {z q1:Nat} (bz:z≤578721382704613384) (b1:q1≤2260630401189896):z+q1<18446744073709551616:=oZ
theorem bnd4 {z q1 q2 q3:Nat} (bz:z≤578721382704613384) (b1:q1≤2260630401189896) (b2:q2≤8830587504648) (b3:q3≤34494482440):z+q1+(q2+q3)<18446744073709551616:=oZ
theorem bnd5 {z q1 q2 q3 q4 q5 q6 p7:Nat} (bz:z≤578721382704613384) (b1:q1≤2260630401189896) (b2:q2≤8830587504648) (b3:q3≤34494482440) (b4:q4≤134744072) (b5:q5≤526344) (b6:q6≤2056) (h7:p7≤8):z+q1+(q2+q3)+(q4+q5+q6+p7)<9223372036854775808:=oZ
theorem id2 (p0 p1 p2 q3:Nat):p0+256*(p1+256*(p2+256*q3))+(p1+256*(p2+256*q3))=((p0+p1)+256*(p1+p2))+65536*((p2+256*q3)+q3):=oZ
theorem id5 (p2 p3 p4 q5:Nat):(p2+256*(p3+256*(p4+256*q5)))+(p3+256*(p4+256*q5))=(p2+p3)+256*(p3+p4)+65536*((p4+256*q5)+q5):=oZ
theorem id6 (p0 p1 p2 p3 p4 p5 p6 u:Nat):((p0+p1)+256*(p1+p2))+65536*((p2+p3)+256*(p3+p4)+65536*((p4+p5)+256*(p5+p6)+65536*u))+((p2+p3)+256*(p3+p4)+65536*((p4+p5)+256*(p5+p6)+65536*u)) =
 ((p0+p1+p2+p3)+256*(p1+p2+p3+p4)+65536*(p2+p3+p4+p5)+16777216*(p3+p4+p5+p6))+4294967296*((p4+p5)+256*(p5+p6)+65536*u+u):=oZ
theorem sums (p0 p1 p2 p3 p4 p5 p6 p7 q1 q2 q3 q4 q5 q6 z:Nat) (h0:p0≤8) (h1:p1≤8) (h2:p2≤8) (h3:p3≤8) (h4:p4≤8) (h5:p5≤8) (h6:p6≤8) (h7:p7≤8)
 (e6:q6=p6+256*p7) (e5:q5=p5+256*q6) (e4:q4=p4+256*q5) (e3:q3=p3+256*q4) (e2:q2=p2+256*q3) (e1:q1=p1+256*q2) (ez:z=p0+256*q1) :
 z<18446744073709551616∧z+z / 256<18446744073709551616∧(z+z / 256)+(z+z / 256) / 65536<18446744073709551616∧((z+z / 256)+(z+z / 256) / 65536)+((z+z / 256)+(z+z / 256) / 65536) / 4294967296<9223372036854775808 ∧
 (((z+z / 256)+(z+z / 256) / 65536)+((z+z / 256)+(z+z / 256) / 65536) / 4294967296) % 128=p0+(p1+(p2+(p3+(p4+(p5+(p6+p7)))))):=by
 obtain ⟨b6,b5,b4,b3,b2,b1,bz⟩:=bnd8 p0 p1 p2 p3 p4 p5 p6 p7 q1 q2 q3 q4 q5 q6 z h0 h1 h2 h3 h4 h5 h6 h7 e6 e5 e4 e3 e2 e1 ez;have s1:z / 256=q1:=by rw [ez];exact dv1 _ _ (lt1 h0)
 rw [s1];have i2:z+q1=((p0+p1)+256*(p1+p2))+65536*(q2+q3):=by rw [ez,e1,e2];exact id2 _ _ _ _
 have s2:(z+q1) / 65536=q2+q3:=by rw [i2];exact dv2 _ _ (lt2 h0 h1 h2)
 rw [s2];have j1:q2+q3=(p2+p3)+256*(p3+p4)+65536*(q4+q5):=by rw [e2,e3,e4];exact id5 _ _ _ _
 have j2:q4+q5=(p4+p5)+256*(p5+p6)+65536*(q6+p7):=by rw [e4,e5,e6];exact id5 _ _ _ _
 have i3:z+q1+(q2+q3)=((p0+p1+p2+p3)+256*(p1+p2+p3+p4)+65536*(p2+p3+p4+p5)+16777216*(p3+p4+p5+p6))+4294967296*(q4+q5+q6+p7):=by
  rw [i2,j1,show q4+q5+q6+p7=(q4+q5)+(q6+p7) by rw [Nat.add_assoc],j2];exact id6 _ _ _ _ _ _ _ _
 have s3:(z+q1+(q2+q3)) / 4294967296=q4+q5+q6+p7:=by rw [i3];exact dv3 _ _ (lt3 h0 h1 h2 h3 h4 h5 h6)
 rw [s3];exact ⟨bnd2 bz,bnd3 bz b1,bnd4 bz b1 b2 b3,bnd5 bz b1 b2 b3 b4 b5 b6 h7,fin8 p0 p1 p2 p3 p4 p5 p6 p7 q1 q2 q3 q4 q5 q6 z h0 h1 h2 h3 h4 h5 h6 h7 e6 e5 e4 e3 e2 e1 ez⟩
theorem q6A (x:Nat) (hx:x<18446744073709551616) {z:Nat} (hz:z=y3 1085102592571150095 (y2 3689348814741910323 (y1 6148914691236517205 x))) :
 z<18446744073709551616∧z+z / 256<18446744073709551616∧(z+z / 256)+(z+z / 256) / 65536<18446744073709551616∧((z+z / 256)+(z+z / 256) / 65536)+((z+z / 256)+(z+z / 256) / 65536) / 4294967296<9223372036854775808 ∧
 (((z+z / 256)+(z+z / 256) / 65536)+((z+z / 256)+(z+z / 256) / 65536) / 4294967296) % 128=hbA x:=by
 have h:=(swar 8 x oZ).1;have m1:mk8 15 8=1085102592571150095:=by decide +kernel
 have m2:mk8 51 8=3689348814741910323:=by decide +kernel
 have m3:mk8 85 8=6148914691236517205:=by decide +kernel
 rw [m1,m2,m3] at h;rw [h] at hz;simp only [popB,Nat.mul_zero,Nat.add_zero] at hz;have:=sums _ _ _ _ _ _ _ _ _ _ _ _ _ _ z (g5A (x % 256)) (g5A (x / 256 % 256)) (g5A (x / 256 / 256 % 256)) (g5A (x / 256 / 256 / 256 % 256)) (g5A (x / 256 / 256 / 256 / 256 % 256)) (g5A (x / 256 / 256 / 256 / 256 / 256 % 256)) (g5A (x / 256 / 256 / 256 / 256 / 256 / 256 % 256)) (g5A (x / 256 / 256 / 256 / 256 / 256 / 256 / 256 % 256)) rfl rfl rfl rfl rfl rfl hz;rw [zfA];exact this
end Go.LA
end
