import Derived.ChangeSame
import Derived.ChangeSlices
import Derived.Test.YtlnaebejmjmepaaGreatDoorM2
import Derived.Test.YtlnaebejmjmepaaGreatDoorM3
set_option linter.unusedSimpArgs false
set_option linter.unusedVariables false
set_option maxRecDepth 3000
set_option maxHeartbeats 16000000
section
namespace Go.LA
open Go.RowKit Go.ArrP
abbrev Rn:=Int × Int
def bel (p:Nat→Bool):Nat→Bool
 | 0=>false
 | n+1=>p n
def frm (p:Nat→Bool):Nat→Nat
 | 0=>0
 | n+1=>if p n && !bel p n then n else frm p n
def rnC (p:Nat→Bool):Nat→List Rn
 | 0=>[]
 | n+1=>rnC p n++if !p n && bel p n then [((frm p n:Int),(n:Int)-frm p n-1)] else []
def opn (p:Nat→Bool) (T:Nat):List Rn:=rnC p T++if bel p T then [((frm p T:Int),(T:Int)-frm p T-1)] else []
def avA (p:Nat→Bool):List Rn:=opn p 65536
theorem frA (p:Nat→Bool):∀ T,bel p T=true→frm p T<T
 | 0,h=>by cases h
 | T+1,h=>by
   have hp:p T=true:=h;simp only [frm,hp,Bool.true_and];cases hb:bel p T
   ·simp
   ·have:=frA p T hb
    simp;omega
theorem elA {p:Nat→Bool} {T:Nat} (h:p T=true) (hb:bel p T=true):opn p (T+1)=rnC p T++[((frm p T:Int),(T:Int)-frm p T)]:=by
 have h1:bel p (T+1)=true:=h;have h2:frm p (T+1)=frm p T:=by simp [frm,h,hb]
 have h3:rnC p (T+1)=rnC p T:=by simp [rnC,h]
 unfold opn;rw [h1,h2,h3,if_pos rfl];congr 3;omega
theorem euA {p:Nat→Bool} {T:Nat} (hb:bel p T=true):opn p T=rnC p T++[((frm p T:Int),(T:Int)-frm p T-1)]:=by
 unfold opn;rw [hb,if_pos rfl]
theorem fkA {p:Nat→Bool} {T:Nat} (hb:bel p T=false):opn p T=rnC p T:=by
 unfold opn;rw [hb];simp
theorem flA {p:Nat→Bool} {T:Nat} (h:p T=true) (hb:bel p T=false):opn p (T+1)=opn p T++[((T:Int),0)]:=by
 have h1:bel p (T+1)=true:=h;have h2:frm p (T+1)=T:=by simp [frm,h,hb]
 have h3:rnC p (T+1)=rnC p T:=by simp [rnC,h]
 rw [fkA hb,euA h1,h2,h3];congr 3;omega
theorem g6A {p:Nat→Bool} {T:Nat} (h:p T=false):opn p (T+1)=opn p T:=by
 have h1:bel p (T+1)=false:=h;rw [fkA h1,rnC,h];cases hb:bel p T
 ·rw [fkA hb];simp
 ·rw [euA hb];simp
theorem iyA {p q:Nat→Bool}:∀ T,(∀ i,i<T→p i=q i)→bel p T=bel q T
 | 0,_=>rfl
 | T+1,h=>h T oZ
theorem irA {p q:Nat→Bool}:∀ T,(∀ i,i<T→p i=q i)→frm p T=frm q T
 | 0,_=>rfl
 | T+1,h=>by
   simp only [frm,h T oZ,iyA T (λ i hi=>h i oZ),irA T (λ i hi=>h i oZ)]
theorem leA {p q:Nat→Bool}:∀ T,(∀ i,i<T→p i=q i)→rnC p T=rnC q T
 | 0,_=>rfl
 | T+1,h=>by
   simp only [rnC,h T oZ,iyA T (λ i hi=>h i oZ),irA T (λ i hi=>h i oZ),leA T (λ i hi=>h i oZ)]
theorem ljA {p q:Nat→Bool} (T:Nat) (h:∀ i,i<T→p i=q i):opn p T=opn q T:=by
 unfold opn;rw [iyA T h,irA T h,leA T h]
theorem f2A {p q:Nat→Bool} (h:∀ i,i<65536→p i=q i):avA p=avA q:=ljA 65536 h
def j7A (g:Rn→Int):List Rn→Int
 | []=>0
 | x::r=>g x+j7A g r
theorem diA (g:Rn→Int):∀ a b,j7A g (a++b)=j7A g a+j7A g b
 | [],b=>by simp [j7A]
 | x::a,b=>by simp only [List.cons_append,j7A,diA g a b];omega
def jcA (rs:List Rn):Int:=j7A (λ x=>x.2+1) rs
def j9A (rs:List Rn) (x:Int):Int:=j7A (λ y=>min (max (x-y.1) 0) (y.2+1)) rs
theorem mdA (p:Nat→Bool):∀ T,jcA (opn p T)=cnt p T
 | 0=>rfl
 | T+1=>by
   have ih:=mdA p T;unfold jcA at ih ⊢;simp only [cnt];cases h:p T
   ·rw [g6A h];simpa using ih
   ·cases hb:bel p T
    ·rw [flA h hb,diA,ih];simp [j7A]
    ·rw [euA hb,diA] at ih
     rw [elA h hb,diA];simp only [j7A,if_true] at ih ⊢;omega
theorem nfA (p:Nat→Bool) (x:Int):∀ T:Nat,j9A (opn p T) x=cnt p (min (max x 0) T).toNat
 | 0=>by rw [show (min (max x 0) ((0:Nat):Int)).toNat=0 by omega];rfl
 | T+1=>by
   have ih:=nfA p x T;unfold j9A at ih ⊢
   by_cases hx:x≤T
   ·rw [show (min (max x 0) ((T+1:Nat):Int)).toNat=(min (max x 0) (T:Int)).toNat by omega,← ih]
    cases h:p T
    ·rw [g6A h]
    ·cases hb:bel p T
     ·rw [flA h hb,diA];simp only [j7A];omega
     ·have:=frA p T hb
      rw [elA h hb,euA hb,diA,diA];simp only [j7A];omega
   ·rw [show (min (max x 0) ((T+1:Nat):Int)).toNat=T+1 by omega]
    rw [show (min (max x 0) (T:Int)).toNat=T by omega] at ih;simp only [cnt];cases h:p T
    ·rw [g6A h,ih];simp
    ·cases hb:bel p T
     ·rw [flA h hb,diA,ih];simp only [j7A,if_true];omega
     ·have:=frA p T hb
      rw [euA hb,diA] at ih;rw [elA h hb,diA];simp only [j7A,if_true] at ih ⊢;omega
theorem hsA (p:Nat→Bool):∀ T,(opn p T).length=cnt (bcA p) T
 | 0=>rfl
 | T+1=>by
   have ih:=hsA p T;have hs:bcA p T=(p T && !bel p T):=by cases T <;> rfl
   simp only [cnt,hs];cases h:p T
   ·rw [g6A h,ih];simp
   ·cases hb:bel p T
    ·rw [flA h hb,List.length_append,ih];rfl
    ·rw [euA hb] at ih
     rw [elA h hb];simpa using ih
def ncA (f m:Int):List Int:=(List.range (m+1).toNat).map (λ j=>f+((j:Nat):Int))
def ecA:List Rn→List Int
 | []=>[]
 | x::r=>ncA x.1 x.2++ecA r
theorem fqA:∀ a b,ecA (a++b)=ecA a++ecA b
 | [],b=>rfl
 | x::a,b=>by simp only [List.cons_append,ecA,fqA a b,List.append_assoc]
theorem glA (f m:Int):(ncA f m).length=(m+1).toNat:=by simp [ncA]
theorem ldA (f:Int) (j:Nat):ncA f j=ncA f ((j:Int)-1)++[f+j]:=by
 unfold ncA;rw [show ((j:Int)+1).toNat=j+1 by omega,show ((j:Int)-1+1).toNat=j by omega,List.range_succ,List.map_append];rfl
theorem iiA:∀ rs:List Rn,(∀ x ∈ rs,0≤x.2)→((ecA rs).length:Int)=jcA rs
 | [],_=>rfl
 | x::r,h=>by
   have ih:=iiA r (λ y hy=>h y (List.mem_cons_of_mem _ hy));have:=h x (List.mem_cons_self ..);unfold jcA at ih ⊢;simp only [ecA,j7A,List.length_append,glA];omega
theorem keA (p:Nat→Bool):∀ T,ecA (opn p T)=adA p T
 | 0=>rfl
 | T+1=>by
   have ih:=keA p T;simp only [adA];cases h:p T
   ·rw [g6A h,ih];simp
   ·cases hb:bel p T
    ·rw [flA h hb,fqA,ih];simp [ecA,ncA]
    ·have:=frA p T hb
     rw [euA hb,fqA] at ih;rw [elA h hb,fqA,if_pos rfl,← ih];simp only [ecA,List.append_nil];rw [List.append_assoc];congr 1;obtain ⟨j,hj⟩:∃ j:Nat,(T:Int)-frm p T=j:=⟨T-frm p T,by omega⟩;rw [show (T:Int)-frm p T-1=(j:Int)-1 by omega,hj,ldA];congr 2;omega
theorem tdA:∀ (f m:Int) (k:Nat),(k:Int)≤m→(ncA f m).getD k 0=f+k:=by
 intro f m k hk;unfold ncA;rw [List.getD,List.getElem?_map,List.getElem?_range oZ];rfl
def osA:List Rn→Int→Int × Bool
 | [],_=>(0,false)
 | x::r,k=>if k≤x.2 then (if k<0 then (0,false) else (x.1+k,true)) else osA r (k-(x.2+1))
theorem pwA:∀ (rs:List Rn) (k:Int),(∀ x ∈ rs,0≤x.2)→osA rs k=if 0≤k∧k<jcA rs then ((ecA rs).getD k.toNat 0,true) else (0,false)
 | [],k,_=>by
   have hL:jcA []=0:=rfl;rw [if_neg (by rw [hL];omega)];rfl
 | x::r,k,h=>by
   have h0:=h x (List.mem_cons_self ..);have hr:∀ y ∈ r,0≤y.2:=λ y hy=>h y (List.mem_cons_of_mem _ hy)
   have hl:=iiA r hr;have ih:=pwA r (k-(x.2+1)) hr;have hL:jcA (x::r)=x.2+1+jcA r:=rfl;simp only [osA]
   by_cases h1:k≤x.2
   ·rw [if_pos h1]
    by_cases h2:k<0
    ·rw [if_pos h2,if_neg oZ]
    ·rw [if_neg h2,if_pos oZ]
     have hg:=tdA x.1 x.2 k.toNat oZ;simp only [ecA];rw [List.getD,List.getElem?_append_left (by rw [glA];omega)];rw [List.getD] at hg;rw [hg];congr 1;omega
   ·rw [if_neg h1,ih]
    by_cases h3:k-(x.2+1)<jcA r
    ·rw [if_pos oZ,if_pos oZ]
     congr 1;simp only [ecA]
     conv=>rhs;rw [List.getD,List.getElem?_append_right (by rw [glA];omega),glA]
     rw [List.getD];congr 2;omega
    ·rw [if_neg oZ,if_neg oZ]
def fst (rs:List Rn) (k:Nat):Int:=(rs.getD k (0,0)).1
def mor (rs:List Rn) (k:Nat):Int:=(rs.getD k (0,0)).2
def lst (rs:List Rn):Nat→Int
 | 0=>0
 | k+1=>fst rs k+mor rs k+2
def Right (rs:List Rn):Prop:=∀ k,k<rs.length→lst rs k≤fst rs k∧fst rs k+mor rs k+1≤65536
def U16 (rs:List Rn):Prop:=∀ x ∈ rs,0≤x.1∧x.1<65536∧0≤x.2∧x.2<65536
def inR (rs:List Rn) (i:Nat):Bool:=rs.any (λ x=>decide (x.1≤i) && decide ((i:Int)≤x.1+x.2))
noncomputable instance (rs:List Rn):Decidable (Right rs):=Classical.propDecidable _
theorem U16.at {rs:List Rn} (h:U16 rs) (k:Nat):0≤fst rs k∧fst rs k<65536∧0≤mor rs k∧mor rs k<65536:=by
 unfold fst mor
 by_cases hk:k<rs.length
 ·have:rs.getD k (0,0)=rs[k]:=by simp [List.getD,hk]
  rw [this];exact h _ (List.getElem_mem hk)
 ·have:rs.getD k (0,0)=(0,0):=by simp [List.getD,List.getElem?_eq_none (by omega:rs.length≤k)]
  rw [this];decide
theorem gjA {rs:List Rn} {k:Nat} (hk:k<rs.length):rs.take (k+1)=rs.take k++[(fst rs k,mor rs k)]:=by
 rw [List.take_succ_eq_append_getElem hk];have:rs.getD k (0,0)=rs[k]:=by simp [List.getD,hk]
 unfold fst mor;rw [this]
theorem ioA (a b:List Rn) (i:Nat):inR (a++b) i=(inR a i || inR b i):=by unfold inR;rw [List.any_append]
theorem inA (f m:Int) (i:Nat):inR [(f,m)] i=(decide (f≤i) && decide ((i:Int)≤f+m)):=by simp [inR]
theorem fyA {p:Nat→Bool} {a:Nat}:∀ T,a≤T→(∀ i,a≤i→i<T→p i=false)→opn p T=opn p a
 | 0,h,_=>by obtain rfl:a=0:=oZ
             rfl
 | T+1,h,hf=>by
   rcases Nat.lt_or_ge T a with h1|h1
   ·obtain rfl:a=T+1:=oZ
    rfl
   ·rw [g6A (hf T h1 oZ),fyA T h1 (λ i g1 g2=>hf i g1 oZ)]
theorem lfA {rs:List Rn} (hr:Right rs) (hu:U16 rs):∀ k,k≤rs.length→(∀ i:Nat,lst rs k≤(i:Int)+1→inR (rs.take k) i=false)∧(∀ T:Nat,lst rs k≤(T:Int)+1→opn (inR (rs.take k)) T=rs.take k)
 | 0,_=>⟨λ i _=>rfl,λ T _=>by
  rw [List.take_zero];exact fyA (a:=0) T (Nat.zero_le _) (λ i _ _=>rfl)⟩
 | k+1,hk=>by
   obtain ⟨ih1,ih2⟩:=lfA hr hu k oZ;obtain ⟨g1,g2⟩:=hr k oZ;obtain ⟨u1,u2,u3,u4⟩:=hu.at k;obtain ⟨f,hf⟩:=Int.eq_ofNat_of_zero_le u1;obtain ⟨m,hm⟩:=Int.eq_ofNat_of_zero_le u3;have hl:lst rs (k+1)=(f:Int)+m+2:=by rw [← hf,← hm];rfl
   rw [hl,gjA oZ,hf,hm];rw [hf] at g1;have hq:∀ i:Nat,inR (rs.take k++[((f:Int),(m:Int))]) i=(inR (rs.take k) i || (decide ((f:Int)≤i) && decide ((i:Int)≤f+m))):=λ i=>by rw [ioA,inA]
   obtain ⟨q,hqd⟩:∃ q,q=inR (rs.take k++[((f:Int),(m:Int))]):=⟨_,rfl⟩;rw [← hqd] at hq ⊢;have hlow:∀ i,i<f→q i=inR (rs.take k) i:=λ i hi=>by rw [hq,decide_eq_false (by omega:¬ ((f:Int)≤i))];simp
   have hin:∀ i,f≤i→i≤f+m→q i=true:=λ i h1 h2=>by rw [hq,decide_eq_true (by omega:(f:Int)≤i),decide_eq_true (by omega:(i:Int)≤f+m)];simp
   have hhi:∀ i,f+m<i→q i=false:=λ i h1=>by rw [hq,ih1 i oZ,decide_eq_false (by omega:¬ (i:Int)≤f+m)];simp
   have hof:opn q f=rs.take k:=by rw [ljA f hlow];exact ih2 f oZ
   have hbf:bel q f=false:=by
    cases f with
    | zero=>rfl
    | succ f' =>
      show q f'=false
      rw [hlow f' oZ];exact ih1 f' oZ
   have key:∀ j,j≤m→rnC q (f+1+j)=rs.take k∧frm q (f+1+j)=f∧bel q (f+1+j)=true:=by
    intro j
    induction j with
    | zero =>
      intro _;have hqf:=hin f (Nat.le_refl _) oZ;refine ⟨?_,by simp [frm,hqf,hbf],hqf⟩;rw [fkA hbf] at hof;simp [rnC,hqf,hof]
    | succ j ih =>
      intro hj;obtain ⟨a1,a2,a3⟩:=ih oZ;have hqf:=hin (f+1+j) oZ oZ;refine ⟨?_,?_,hqf⟩
      ·show rnC q (f+1+j+1)=_
       simp [rnC,hqf,a1]
      ·show frm q (f+1+j+1)=_
       simp [frm,hqf,a3,a2]
   refine ⟨λ i hi=>hhi i oZ,λ T hT=>?_⟩;rw [fyA (a:=f+1+m) T oZ (λ i h1 h2=>hhi i oZ)];obtain ⟨a1,a2,a3⟩:=key m (Nat.le_refl _);rw [euA a3,a1,a2];congr 3;omega
theorem msA {a:List Rn} {x:Rn} (k:Nat):(a++[x]).getD k (0,0)=if k<a.length then a.getD k (0,0) else if k=a.length then x else (0,0):=by
 by_cases h:k<a.length
 ·rw [if_pos h,List.getD,List.getElem?_append_left h];rfl
 ·rw [if_neg h,List.getD,List.getElem?_append_right oZ]
  by_cases e:k=a.length
  ·subst e;simp
  ·rw [if_neg e,List.getElem?_eq_none (by simp;omega)];rfl
theorem Right.snoc {a:List Rn} {f m:Int} (h:Right a) (h1:lst a a.length≤f) (h2:f+m+1≤65536):Right (a++[(f,m)]):=by
 have hl:∀ k,k≤a.length→lst (a++[(f,m)]) k=lst a k:=λ k hk=>by
  cases k with
  | zero=>rfl
  | succ k=>simp only [lst,fst,mor];rw [msA,if_pos oZ]
 intro k hk;rw [List.length_append] at hk;have hk:k<a.length+1:=hk;rw [hl k oZ];unfold fst mor;rw [msA]
 by_cases e:k<a.length
 ·rw [if_pos e];exact h k e
 ·obtain rfl:k=a.length:=oZ
  rw [if_neg e,if_pos rfl];exact ⟨h1,h2⟩
theorem U16.app {a b:List Rn} (ha:U16 a) (hb:U16 b):U16 (a++b):=λ x hx=>(List.mem_append.1 hx).elim (ha x) (hb x)
theorem U16.one {f m:Int} (h1:0≤f) (h2:f<65536) (h3:0≤m) (h4:m<65536):U16 [(f,m)]:=λ x hx=>by
 rw [List.mem_singleton] at hx;subst hx;exact ⟨h1,h2,h3,h4⟩
theorem hnA (p:Nat→Bool):∀ T,T≤65536→(Right (rnC p T)∧U16 (rnC p T)∧lst (rnC p T) (rnC p T).length≤(if bel p T then (frm p T:Int) else (T:Int)+1))∧(Right (opn p T)∧U16 (opn p T))
 | 0,_=>⟨⟨λ k hk=>by simp [rnC] at hk,λ x hx=>by simp [rnC] at hx,by simp [rnC,lst,bel]⟩,λ k hk=>by simp [opn,rnC,bel] at hk,λ x hx=>by simp [opn,rnC,bel] at hx⟩
 | T+1,hT=>by
   obtain ⟨⟨i1,i2,i3⟩,i4,i5⟩:=hnA p T oZ;have lastA:∀ (a:List Rn) (f m:Int),lst (a++[(f,m)]) (a++[(f,m)]).length=f+m+2:=λ a f m=>by
    rw [List.length_append];show fst (a++[(f,m)]) a.length+mor (a++[(f,m)]) a.length+2=_;unfold fst mor;rw [msA,if_neg oZ,if_pos rfl]
   have A:Right (rnC p (T+1))∧U16 (rnC p (T+1))∧lst (rnC p (T+1)) (rnC p (T+1)).length≤(if bel p (T+1) then (frm p (T+1):Int) else ((T+1:Nat):Int)+1):=by
    have hb1:bel p (T+1)=p T:=rfl;rw [hb1];cases h:p T
    ·cases hb:bel p T
     ·have e:rnC p (T+1)=rnC p T:=by simp [rnC,h,hb]
      rw [e];rw [hb] at i3;refine ⟨i1,i2,?_⟩;simp only [Bool.false_eq_true,if_false] at i3 ⊢;omega
     ·have e:rnC p (T+1)=rnC p T++[((frm p T:Int),(T:Int)-frm p T-1)]:=by simp [rnC,h,hb]
      have:=frA p T hb;rw [hb,if_pos rfl] at i3;rw [e];refine ⟨i1.snoc i3 oZ,i2.app (U16.one oZ oZ oZ oZ),?_⟩;rw [lastA];simp only [Bool.false_eq_true,if_false];omega
    ·have e:rnC p (T+1)=rnC p T:=by simp [rnC,h]
     rw [e,if_pos rfl];refine ⟨i1,i2,?_⟩;cases hb:bel p T
     ·have e2:frm p (T+1)=T:=by simp [frm,h,hb]
      rw [hb] at i3;simp only [Bool.false_eq_true,if_false] at i3;rw [e2]
      -- the run ahead ended below T
      have hlt:lst (rnC p T) (rnC p T).length≤(T:Int):=by
       cases T with
       | zero=>simp [rnC,lst]
       | succ T' =>
         have hp':p T'=false:=hb;obtain ⟨⟨j1,j2,j3⟩,-,-⟩:=hnA p T' oZ;cases hb':bel p T'
         ·have e3:rnC p (T'+1)=rnC p T':=by simp [rnC,hp',hb']
          rw [hb'] at j3;simp only [Bool.false_eq_true,if_false] at j3;rw [e3];omega
         ·have e3:rnC p (T'+1)=rnC p T'++[((frm p T':Int),(T':Int)-frm p T'-1)]:=by simp [rnC,hp',hb']
          rw [e3,lastA];omega
      exact hlt
     ·have e2:frm p (T+1)=frm p T:=by simp [frm,h,hb]
      rw [hb,if_pos rfl] at i3;rw [e2];exact i3
   refine ⟨A,?_⟩;obtain ⟨a1,a2,a3⟩:=A;cases hb:bel p (T+1)
   ·rw [fkA hb];exact ⟨a1,a2⟩
   ·have:=frA p (T+1) hb
    rw [hb,if_pos rfl] at a3;rw [euA hb];exact ⟨a1.snoc a3 oZ,a2.app (U16.one oZ oZ oZ oZ)⟩
theorem dsA (p:Nat→Bool):Right (avA p):=(hnA p 65536 (Nat.le_refl _)).2.1
theorem dkA (p:Nat→Bool):U16 (avA p):=(hnA p 65536 (Nat.le_refl _)).2.2
theorem rbA (p:Nat→Bool):∀ (T i:Nat),inR (opn p T) i=(decide (i<T) && p i)
 | 0,i=>by simp [opn,rnC,bel,inR]
 | T+1,i=>by
   have ih:=rbA p T i;cases h:p T
   ·rw [g6A h,ih]
    by_cases e:i=T
    ·subst e;simp [h]
    ·rw [show decide (i<T+1)=decide (i<T) by rw [decide_eq_decide];omega]
   ·cases hb:bel p T
    ·rw [flA h hb,ioA,ih,inA]
     by_cases e:i=T
     ·subst e;simp [h]
     ·rw [show decide (i<T+1)=decide (i<T) by rw [decide_eq_decide];omega]
      rcases Nat.lt_or_ge i T with h1|h1
      ·rw [decide_eq_false (by omega:¬ ((T:Nat):Int)≤i)];simp
      ·rw [decide_eq_false (by omega:¬ (i:Int)≤((T:Nat):Int)+0)];simp
    ·have:=frA p T hb
     rw [euA hb,ioA,inA] at ih;rw [elA h hb,ioA,inA]
     by_cases e:i=T
     ·subst e
      rw [decide_eq_true (by omega:((frm p i:Nat):Int)≤i),decide_eq_true (by omega:(i:Int)≤(frm p i:Int)+((i:Int)-frm p i))];simp [h]
     ·rw [show decide (i<T+1)=decide (i<T) by rw [decide_eq_decide];omega,← ih]
      congr 2;rw [decide_eq_decide];omega
theorem huA (p:Nat→Bool) {i:Nat} (hi:i<65536):inR (avA p) i=p i:=by
 unfold avA;rw [rbA];simp [hi]
def chg (p:Nat→Bool) (x:Nat):Bool:=p x != bel p x
def naA:List Rn→List Int
 | []=>[]
 | x::r=>x.1::(x.1+x.2+1)::naA r
theorem jzA:∀ a b,naA (a++b)=naA a++naA b
 | [],b=>rfl
 | x::a,b=>by simp only [List.cons_append,naA,jzA a b]
theorem n9A:∀ a,(naA a).length=2*a.length
 | []=>rfl
 | x::a=>by simp only [naA,List.length_cons,n9A a];omega
theorem w9A (p:Nat→Bool):∀ T,naA (rnC p T)++(if bel p T then [(frm p T:Int)] else [])=adA (chg p) T
 | 0=>rfl
 | T+1=>by
   have ih:=w9A p T;have hc:chg p T=(p T != bel p T):=rfl;have hb1:bel p (T+1)=p T:=rfl;simp only [adA,← ih];cases h:p T
   ·rw [h] at hc hb1
    rw [hb1];cases hb:bel p T
    ·rw [hb] at hc
     rw [hc];simp [rnC,h,hb]
    ·rw [hb] at hc
     have e:rnC p (T+1)=rnC p T++[((frm p T:Int),(T:Int)-frm p T-1)]:=by simp [rnC,h,hb]
     rw [hc,e,jzA];simp only [naA,if_true,Bool.false_eq_true,if_false,List.append_nil,Bool.false_bne];rw [show (frm p T:Int)+((T:Int)-frm p T-1)+1=T by omega];simp
   ·rw [h] at hc hb1
    rw [hb1];cases hb:bel p T
    ·rw [hb] at hc
     rw [hc];simp [rnC,frm,h,hb]
    ·rw [hb] at hc
     rw [hc];simp [rnC,frm,h,hb]
theorem tkA {p:Nat→Bool} (hp:p 65536=false):naA (avA p)=adA (chg p) 65537:=by
 have h:=w9A p 65537;have hb:bel p 65537=false:=hp;rw [hb] at h;unfold avA;rw [← g6A hp,fkA hb,← h];simp
theorem aoB {p:Nat→Bool} (hp:p 65536=false):avA p=rnC p 65537:=by
 have hb:bel p 65537=false:=hp;unfold avA;rw [← g6A hp,fkA hb]
theorem mcA (p:Nat→Bool):∀ T,cnt (chg p) T % 2=if bel p T then 1 else 0
 | 0=>rfl
 | T+1=>by
   have ih:=mcA p T;have hc:chg p T=(p T != bel p T):=rfl;have hb1:bel p (T+1)=p T:=rfl;simp only [cnt];cases h:p T <;> rw [h] at hc hb1 <;> rw [hb1] <;> cases hb:bel p T <;> rw [hb] at hc ih <;> rw [hc] <;> simp at ih ⊢ <;> omega
theorem still {p:Nat→Bool} {T:Nat}:∀ t,T≤t→(∀ x,T≤x→x<t→chg p x=false)→rnC p t=rnC p T∧bel p t=bel p T∧frm p t=frm p T
 | 0,h,_=>by obtain rfl:T=0:=oZ
             exact ⟨rfl,rfl,rfl⟩
 | t+1,h,hc=>by
   rcases Nat.lt_or_ge t T with h1|h1
   ·obtain rfl:T=t+1:=oZ
    exact ⟨rfl,rfl,rfl⟩
   ·obtain ⟨a1,a2,a3⟩:=still t h1 (λ x g1 g2=>hc x g1 oZ)
    have hx:=hc t h1 oZ;have hpb:p t=bel p t:=by simpa [chg] using hx
    refine ⟨?_,?_,?_⟩
    ·rw [← a1];simp only [rnC,hpb];cases bel p t <;> simp
    ·rw [← a2];exact hpb
    ·rw [← a3];simp only [frm,hpb];cases bel p t <;> simp
def two (F:Bool→Bool→Bool) (p q:Nat→Bool) (i:Nat):Bool:=F (p i) (q i)
theorem zgA {F:Bool→Bool→Bool} (hF:F false false=false) (p q:Nat→Bool):∀ T,bel (two F p q) T=F (bel p T) (bel q T)
 | 0=>hF.symm
 | _+1=>rfl
theorem zaA {F:Bool→Bool→Bool} (hF:F false false=false) {p q:Nat→Bool} {x:Nat} (hp:chg p x=false) (hq:chg q x=false):chg (two F p q) x=false:=by
 have h1:p x=bel p x:=by simpa [chg] using hp
 have h2:q x=bel q x:=by simpa [chg] using hq
 simp [chg,zgA hF,two,h1,h2]
theorem rhA (P:Nat→Bool) {n i t:Nat} (hi:i<cnt P n):∃ x:Nat,x<n∧P x=true∧cnt P x=i∧(adA P n).getD i 0=x∧(x≤t↔i<cnt P (t+1)):=by
 obtain ⟨x,h1,h2,h3,h4⟩:=e1A P n i hi;refine ⟨x,h1,h2,h3,h4,λ h=>?_,λ h=>?_⟩
 ·have:=cnt_mono P (m:=x+1) (t+1) oZ
  simp only [cnt,h2,if_true] at this ⊢;omega
 ·rcases Nat.lt_or_ge t x with h5|h5
  ·have:=cnt_mono P (m:=t+1) x oZ;omega
  ·exact h5
theorem o4A (P:Nat→Bool) {T:Nat}:∀ t,T≤t→cnt P t=cnt P T→∀ x,T≤x→x<t→P x=false:=by
 intro t ht hc x h1 h2;cases h:P x
 ·rfl
 ·have a:=cnt_mono P (m:=T) x h1
  have b:=cnt_mono P (m:=x+1) t oZ;simp only [cnt,h,if_true] at b;omega
theorem fxA {rs:List Rn} (hr:Right rs) (hu:U16 rs) (j:Nat):∀ k,j<k→k<rs.length→fst rs j+mor rs j+2≤fst rs k
 | 0,h,_=>by omega
 | k+1,h,hk=>by
   have h1:=(hr (k+1) hk).1;simp only [lst] at h1
   by_cases e:j=k
   ·subst e;exact h1
   ·have:=fxA hr hu j k oZ oZ
    have:=hu.at k;omega
theorem h1A {rs:List Rn} {k:Nat} (hk:k<rs.length):(rs.map Prod.fst).getD k 0=fst rs k:=by
 simp [fst,List.getD,hk]
theorem yvA {rs:List Rn} (hr:Right rs) (hu:U16 rs):Inc (rs.map Prod.fst):=by
 unfold Inc;rw [List.pairwise_iff_getElem];intro i j hi hj hij;rw [List.length_map] at hi hj;have h1:=h1A hi;have h2:=h1A hj;rw [awA (by rw [List.length_map];exact hi)] at h1;rw [awA (by rw [List.length_map];exact hj)] at h2;rw [h1,h2];have:=fxA hr hu i j hij hj;have:=hu.at i;omega
theorem kiA (rs:List Rn) (i:Nat):inR rs i=true↔∃ k,k<rs.length∧fst rs k≤i∧(i:Int)≤fst rs k+mor rs k:=by
 unfold inR;rw [List.any_eq_true]
 constructor
 ·rintro ⟨x,hx,h⟩
  obtain ⟨k,hk,rfl⟩:=List.getElem_of_mem hx;have:rs.getD k (0,0)=rs[k]:=by simp [List.getD,hk]
  refine ⟨k,hk,?_⟩;unfold fst mor;rw [this];simpa using h
 ·rintro ⟨k,hk,h⟩
  have:rs.getD k (0,0)=rs[k]:=by simp [List.getD,hk]
  refine ⟨rs[k],List.getElem_mem hk,?_⟩;unfold fst mor at h;rw [this] at h;simpa using h
def hasR (rs:List Rn) (x:Int):Bool:=dcA (rs.map Prod.fst) x || (decide (0<bsS (rs.map Prod.fst) x) && decide (x<fst rs (bsS (rs.map Prod.fst) x-1)+mor rs (bsS (rs.map Prod.fst) x-1)+1))
theorem has_eq {rs:List Rn} (hr:Right rs) (hu:U16 rs) (x:Nat):hasR rs x=inR rs x:=by
 have hi:=yvA hr hu;obtain ⟨g1,g2⟩:=hxA (x:Int) hi;have g3:=oaA (rs.map Prod.fst) (x:Int);rw [List.length_map] at g2 g3;have hf:=exA (x:Int) hi;unfold hasR;obtain ⟨i,hid⟩:∃ i,i=bsS (rs.map Prod.fst) (x:Int):=⟨_,rfl⟩;rw [← hid] at g1 g2 g3 ⊢;rw [hf,Bool.eq_iff_iff,kiA,Bool.or_eq_true,Bool.and_eq_true,decide_eq_true_eq,decide_eq_true_eq,decide_eq_true_eq]
 constructor
 ·rintro (h|⟨h1,h2⟩)
  ·rw [List.mem_map] at h
   obtain ⟨y,hy,he⟩:=h;obtain ⟨k,hk,rfl⟩:=List.getElem_of_mem hy;have e1:rs.getD k (0,0)=rs[k]:=by simp [List.getD,hk]
   have e2:fst rs k=x:=by unfold fst;rw [e1];exact he
   have:=hu.at k;exact ⟨k,hk,by omega,by omega⟩
  ·have a:=g1 (i-1) oZ
   rw [h1A oZ] at a;exact ⟨i-1,by omega,by omega,by omega⟩
 ·rintro ⟨k,hk,h1,h2⟩
  rcases Nat.lt_or_ge k i with h3|h3
  ·right
   by_cases e:k=i-1
   ·subst e;exact ⟨by omega,by omega⟩
   ·have a:=fxA hr hu k (i-1) oZ oZ
    have b:=g1 (i-1) oZ;rw [h1A oZ] at b;omega
  ·left
   have a:=g2 k h3 hk;rw [h1A hk] at a;rw [List.mem_map];have e1:rs.getD k (0,0)=rs[k]:=by simp [List.getD,hk]
   refine ⟨rs[k],List.getElem_mem hk,?_⟩;have:fst rs k=x:=oZ;unfold fst at this;rw [e1] at this;exact this
def ooA (xs:List Int) (x:Int):List Int:=if dcA xs x=true then xs else xs.take (bsS xs x)++[x]++xs.drop (bsS xs x)
theorem pgA {xs:List Int} {x:Int} (h:Inc xs):Inc (ooA xs x):=by
 unfold ooA
 split
 ·exact h
 ·rename_i hf
  rw [exA x h,decide_eq_true_eq] at hf;obtain ⟨g1,g2⟩:=hxA x h;have g3:=oaA xs x;have ht:Inc (xs.take (bsS xs x)):=h.sublist (List.take_sublist _ _);have hd:Inc (xs.drop (bsS xs x)):=h.sublist (List.drop_sublist _ _);have hlt:∀ z ∈ xs.take (bsS xs x),z<x:=λ z hz=>by
   obtain ⟨k,hk,rfl⟩:=List.getElem_of_mem hz;rw [List.length_take] at hk;have:=g1 k oZ;rw [awA oZ] at this;rw [List.getElem_take];exact this
  have hgt:∀ z ∈ xs.drop (bsS xs x),x<z:=λ z hz=>by
   obtain ⟨k,hk,rfl⟩:=List.getElem_of_mem hz;rw [List.length_drop] at hk;have:=g2 (bsS xs x+k) oZ oZ;rw [awA oZ] at this;rw [List.getElem_drop];have hne:x≠xs[bsS xs x+k]:=λ e=>hf (by rw [e];exact List.getElem_mem _)
   omega
  refine List.pairwise_append.2 ⟨List.pairwise_append.2 ⟨ht,List.pairwise_singleton _ _,λ a ha b hb=>?_⟩,hd,λ a ha b hb=>?_⟩
  ·simp at hb;subst hb;exact hlt a ha
  ·rcases List.mem_append.1 ha with ha|ha
   ·have:=hlt a ha;have:=hgt b hb;omega
   ·simp at ha;subst ha;exact hgt b hb
theorem pfA {xs:List Int} {x:Int} (h:Inc xs) (z:Int):z ∈ ooA xs x↔z ∈ xs∨z=x:=by
 unfold ooA
 split
 ·rename_i hf
  rw [exA x h,decide_eq_true_eq] at hf;exact ⟨.inl,λ h=>h.elim id (λ e=>e▸hf)⟩
 ·rw [List.mem_append,List.mem_append]
  conv=>rhs;rw [← List.take_append_drop (bsS xs x) xs]
  rw [List.mem_append];simp only [List.mem_singleton]
  constructor
  ·rintro ((h|h)|h)
   ·exact .inl (.inl h)
   ·exact .inr h
   ·exact .inl (.inr h)
  ·rintro ((h|h)|h)
   ·exact .inl (.inl h)
   ·exact .inr h
   ·exact .inl (.inr h)
def m3A (p:Nat→Bool) (x:Nat) (i:Nat):Bool:=p i || decide (i=x)
theorem t4A {xs:List Int} {x:Int} (h:Inc xs) (hl:Low xs) (h0:0≤x) (h1:x<65536):ooA xs x=adA (m3A (buA xs) x.toNat) 65536:=by
 refine gbA (pgA h) (bjA _ _) λ z=>?_
 rw [pfA h,c9A]
 constructor
 ·rintro (hz|rfl)
  ·have:=hl z hz
   exact ⟨z.toNat,by omega,by simp only [m3A,buA,show ((z.toNat:Nat):Int)=z by omega];simp [hz],by omega⟩
  ·exact ⟨z.toNat,by omega,by simp [m3A],by omega⟩
 ·rintro ⟨i,g1,g2,rfl⟩
  simp only [m3A,buA,Bool.or_eq_true,decide_eq_true_eq] at g2
  rcases g2 with g2|g2
  ·exact .inl g2
  ·right;omega
theorem maA (p:Nat→Bool) {m:Nat} (hm:m<65536) (hp:p m=true):i7A (adA p 65536) (cnt p m)=bcA p m:=by
 have hx:=emA p 65536 m hm hp;have hs:bcA p m=(m == 0 || !p (m-1)):=by simp [bcA,hp]
 rw [hs];simp only [i7A,hx]
 by_cases h0:m=0
 ·subst h0;simp [cnt]
 ·have e0:(m == 0)=false:=by simpa using h0
  rw [e0,Bool.false_or];cases hq:p (m-1)
  ·rw [Bool.not_false,decide_eq_true_eq]
   by_cases hk:cnt p m=0
   ·exact .inl hk
   ·right
    obtain ⟨j,g1,g2,g3,g4⟩:=e1A p 65536 (cnt p m-1) (by have:=cnt_mono p (m:=m) 65536 oZ;omega);rw [g4];have:j≠m-1:=λ e=>by rw [e,hq] at g2;cases g2
    have:j<m:=by
     rcases Nat.lt_or_ge j m with h|h
     ·exact h
     ·have:=cnt_mono p (m:=m) j h;omega
    omega
  ·rw [Bool.not_true,decide_eq_false_iff_not]
   have hc:cnt p m=cnt p (m-1)+1:=by
    conv=>lhs;rw [show m=(m-1)+1 by omega]
    simp [cnt,hq]
   have hy:=emA p 65536 (m-1) oZ hq;rintro (h|h)
   ·omega
   ·rw [hc,Nat.add_sub_cancel,hy] at h;omega
theorem hbA (p:Nat→Bool):∀ m,m≤65536→hdA (adA p 65536) (cnt p m)=cnt (bcA p) m
 | 0,_=>rfl
 | m+1,hm=>by
   have ih:=hbA p m oZ;cases hp:p m
   ·have:bcA p m=false:=by simp [bcA,hp]
    simp only [cnt,hp,this,Bool.false_eq_true,if_false,Nat.add_zero];exact ih
   ·simp only [cnt,hp,if_true]
    rw [i4A,ih,maA p oZ hp]
theorem m9A (p:Nat→Bool):xeA (adA p 65536)=cnt (bcA p) 65536:=by
 unfold xeA;rw [baA];exact hbA p 65536 (Nat.le_refl _)
end Go.LA
end
section
namespace Go.LA
open Go.RowKit Go.ArrP
structure Hide (P:Prop):Prop where
 out:P
section
variable {P:Program} {l:List Oper} {N:Nn} {wb:World} {K:List Oper→Env→Prop} {rest:List Oper} {E:Env} {Q:Exit→Act→World→Prop}
variable {d:Tmp} {ty ty' t t':TypeId} {pos pos':String} {after after':Array Edge} {g g':Option (Nat × Bool)} {x y z:Operand} {k k':IntKind}
theorem akA {cs:List Value} (hg:bmA l E g=some true) (ht:∀ w,(isAgg t).run P w=.ok true w) (hs:∀ w,(sizeOf t).run P w=.ok cs.length w) (hx:opE E x=.pred (hpA cs)) (h:LA P l wb K rest ((d,.val (.agg cs.toArray))::E)) :
 LA P l wb K (⟨some d,.load t x,ty,pos,after,g⟩::rest) E :=
 bhA _ hg (bwA λ a w he hh=>by
  have h1:=hh x (by simp [Op.operands]);rw [hx] at h1;obtain ⟨p,hv,hc⟩:=h1;have hl:=run_loadCells_list (P:=P) w p cs hc;simp only [execOp,hv,Instr.loadAt,Instr.sureAddr,loadVar,Sem.run_bind,Sem.run_pure,Result.andThen_ok,ht,if_true,hs,hl]) h
theorem nvA:∀ (l:List Value) (k:Nat) (A:Array Value),k+l.length=A.size→(l.zipIdx k).foldl (λ cs x=>cs.setIfInBounds x.2 x.1) A=(A.toList.take k++l).toArray
 | [],k,A,h=>by
   apply Array.ext'
   simp only [List.zipIdx_nil,List.foldl_nil,List.append_nil];rw [List.take_of_length_le (by simp at h ⊢;omega)]
 | v::l,k,A,h=>by
   simp only [List.zipIdx_cons,List.foldl_cons];rw [nvA l (k+1) _ (by simp at h ⊢;omega)]
   apply Array.ext'
   simp only [Array.toList_setIfInBounds];rw [List.take_set,List.set_eq_take_append_cons_drop,if_pos (by simp at h ⊢;omega)];simp at h ⊢;rw [List.take_take,Nat.min_eq_left oZ]
theorem isA {c:Value} {z:Array Value} {s:Nat} (hc:c.cells.size=s):Instr.fill (λ i=>some (i*s,s)) ((Array.range (1*s)).map (λ j=>z[j % z.size]!)) [(0,c)]=some c.cells:=by
 have e:((Array.range (1*s)).map (λ j=>z[j % z.size]!)).size=s:=by simp
 obtain ⟨A,hA⟩:∃ A,A=(Array.range (1*s)).map (λ j=>z[j % z.size]!):=⟨_,rfl⟩;rw [← hA] at e ⊢;have hf:=nvA c.cells.toList 0 A (by simp [e,hc]);simp only [Instr.fill,Nat.zero_mul,hc];simp;subst hc;refine ⟨by omega,?_⟩;have hz:c.cells.size=c.cells.zipIdx.size:=by simp
 rw [hz,← Array.foldl_toList]
 simpa using hf
theorem e3A {c z:Value} {s b:Nat} {e:TypeId} (hg:bmA l E g=some true) (hel:El P t e z s b) (hx:opE E x=.val c) (hc:c.cells.size=s) (hs1:s≤1000) (h:LA P l wb K rest ((d,.pred (hqA wb.heap.size e s 1 c.cells.toList))::E)) :
 LA P l wb K (⟨some d,.buildSlice t 1 #[(0,x)],ty,pos,after,g⟩::rest) E:=by
 refine bhA (.pred (hqA wb.heap.size e s 1 c.cells.toList)) hg (λ a w he hh=>?_) h;have h1:=hh x (by simp [Op.operands]);rw [hx] at h1;simp only [AD.ok] at h1;have hne:¬ s=0:=by have:=hel.pos;omega
 have hrun:(Instr.buildSlice t 1 #[(0,c)]).run P w=.ok (.slice (some ⟨w.heap.size,0,none⟩) 1 1) (w.alloc (.cells c.cells e)):=by
  have hf:=isA (c:=c) (z:=z.cells) (s:=s) hc;simp only [Instr.buildSlice,Sem.run_bind,run_underlying hel.ht,Result.andThen_ok,hel.sizeOf,Nat.one_mul,gt_iff_lt,show ¬ (2 ^ 24<s) by omega,if_false,hne,Sem.run_pure,hel.zero];simp only [Nat.one_mul] at hf;rw [hf];rfl
 simp only [execOp,List.map_toArray,List.map_cons,List.map_nil,h1,Sem.run_bind,hrun,Result.andThen_ok,Sem.run_pure];refine ⟨Ext.alloc _ _,?_⟩;refine ⟨by simp [hc],.inr ⟨w.heap.size,1,c.cells,rfl,he.size,heap_alloc_new w _,Nat.le_refl _,by decide,by simp [hc],?_⟩⟩;rw [Nat.one_mul,← hc];exact List.take_of_length_le (by simp)
def Cut (N:Nn) (wb:World) (E':Env):Act→World→Prop:=λ a w=>St N wb E' a w
theorem h9A {c c':Code} (E':Env) (h1:CX P N wb c E (Exit.then (Cut N wb E') Q)) (h2:CX P N wb c' E' Q):CX P N wb (.seq c c') E Q:=by
 refine ssA ?_
 unfold CX at *;intro a w s;refine Code.wp_mono ?_ (h1 a w s);intro e a' w' h;cases e with
 | normal=>exact h2 a' w' h
 | exit id=>exact h
 | goto l=>exact h
 | ret=>exact h
 | panic ch=>exact h
 | outgrown=>exact h
theorem caA {E':Env} (hs:Sub wb E E'):PX N wb (Exit.then (Cut N wb E') Q) .normal E:=by
 unfold PX;intro a w s;exact hs.st s
theorem acA {cs:List Value} {f o:Nat} (hg:bmA l E g=some true) (hx:opE E x=.pred (hpA cs)) (hr:∀ (a:Addr) w,(Instr.fieldAt t (.pointer (some a)) f).run P w=.ok (.pointer (some (a.add o))) w)
 (h:LA P l wb K rest ((d,.pred (hpA (cs.drop o)))::E)):LA P l wb K (⟨some d,.fieldAddr t x f,ty,pos,after,g⟩::rest) E :=
 bhA _ hg (λ ac w he hh=>by
  have e1:=hh x (by simp [Op.operands]);rw [hx] at e1;obtain ⟨p,hv,hc⟩:=e1;simp only [execOp,Sem.run_bind,hv,hr,Result.andThen_ok,Sem.run_pure];refine ⟨Ext.refl _,p.add o,rfl,λ j c hj=>?_⟩;rw [List.getElem?_drop] at hj;have:=hc _ _ hj;have ea:(p.add o).add j=p.add (o+j):=by
   unfold Addr.add
   by_cases h1:o=0
   ·subst h1;simp
   ·by_cases h2:j=0
    ·subst h2;simp [h1]
    ·rw [if_neg h1,if_neg h2,if_neg oZ,Nat.add_assoc]
  rw [ea];exact this) h
theorem ayA {cs:List Value} {c:Value} (hg:bmA l E g=some true) (ht:∀ w,(isAgg t).run P w=.ok false w) (hx:opE E x=.pred (hpA cs)) (hc:cs[0]?=some c) (h:LA P l wb K rest ((d,.val c)::E)) :
 LA P l wb K (⟨some d,.load t x,ty,pos,after,g⟩::rest) E :=
 bhA _ hg (bwA λ a w he hh=>by
  have h1:=hh x (by simp [Op.operands]);rw [hx] at h1;obtain ⟨p,hv,hcs⟩:=h1;have hc:=hcs 0 c hc;have e0:p.add 0=p:=Addr.add_zero' p;rw [e0] at hc;simp only [execOp,hv,Instr.loadAt,Instr.sureAddr,loadVar,Sem.run_bind,Sem.run_pure,Result.andThen_ok,ht,Bool.false_eq_true,if_false,run_load,hc]) h
theorem l0A {op:BinOp} {a b:Int} {v:Bool} (hg:bmA l E g=some true) (hx:opE E x=.val (.int k a)) (hy:opE E y=.val (.int k b)) (hc:kgA op=true) (hv:jkA op a b↔v=true)
 (h:LA P l wb K rest ((d,.val (.bool v))::E)):LA P l wb K (⟨some d,.binOp op t x y t',ty,pos,after,g⟩::rest) E:=bhA _ hg (s8A hx hy hc hv) h
theorem urA {c0 c1:Value} {z:Array Value} (h0:c0.cells=#[c0]) (h1:c1.cells=#[c1]):Instr.fill (λ i=>some (i*1,1)) ((Array.range (2*1)).map (λ j=>z[j % z.size]!)) [(0,c0),(1,c1)]=some #[c0,c1]:=by
 have e:Array.range (2*1)=#[0,1]:=rfl;rw [e];simp [Instr.fill,h0,h1]
theorem oiA {c0 c1 z0:Value} {b:Nat} {e:TypeId} (hg:bmA l E g=some true) (hel:El P t e z0 1 b) (hx:opE E x=.val c0) (hy:opE E y=.val c1) (h0:c0.cells=#[c0]) (h1:c1.cells=#[c1]) (h:LA P l wb K rest ((d,.pred (hqA wb.heap.size e 1 2 [c0,c1]))::E)) :
 LA P l wb K (⟨some d,.buildSlice t 2 #[(0,x),(1,y)],ty,pos,after,g⟩::rest) E:=by
 refine bhA (.pred (hqA wb.heap.size e 1 2 [c0,c1])) hg (λ a w he hh=>?_) h;have e1:=hh x (by simp [Op.operands]);have e2:=hh y (by simp [Op.operands]);rw [hx] at e1;rw [hy] at e2;simp only [AD.ok] at e1 e2;have hrun:(Instr.buildSlice t 2 #[(0,c0),(1,c1)]).run P w=.ok (.slice (some ⟨w.heap.size,0,none⟩) 2 2) (w.alloc (.cells #[c0,c1] e)):=by
  simp only [Instr.buildSlice,Sem.run_bind,run_underlying hel.ht,Result.andThen_ok,hel.sizeOf,Nat.reduceMul,Nat.reducePow,gt_iff_lt,Nat.reduceLT,if_false,Sem.run_pure,Nat.reduceEqDiff,hel.zero,urA h0 h1];rfl
 simp only [execOp,List.map_toArray,List.map_cons,List.map_nil,e1,e2,Sem.run_bind,hrun,Result.andThen_ok,Sem.run_pure];exact ⟨Ext.alloc _ _,by simp,.inr ⟨w.heap.size,2,#[c0,c1],rfl,he.size,heap_alloc_new w _,Nat.le_refl _,by decide,by simp,by simp⟩⟩
theorem c5A {e:TypeId} {z0 c:Value} (hg:g=none) (hg':g'=none) (hd:d<N.n) (hz:∀ w,(zeroValue e).run P w=.ok z0 w) (hy:∀ v,opE ((d,.val v)::E) y=.val c)
 (hs:∀ w,(sizeOf t).run P w=.ok c.cells.size w) (hfit:c.cells.size=z0.cells.size) (h1:∀ u ∈ c.cells.toList,u.oneCell'=true)
 (h:∀ b w',Ext wb w'→wb.heap.size≤b→w'.heap[b]?=some (.cells c.cells e (0,0))→LX P N w' l Q rest ((d,.val (.pointer (some ⟨b,0,none⟩)))::E)) :
 LX P N wb l Q (⟨some d,.alloc e,ty,pos,after,g⟩::⟨none,.store t (.tmp d) y,ty',pos',after',g'⟩::rest) E:=by
 unfold LX;intro a w st;have ra:(Instr.alloc e true (.tuple #[])).run P w=.ok (.pointer (some ⟨w.heap.size,0,none⟩)) (w.alloc (.cells z0.cells e)):=by
  simp only [Instr.alloc,Sem.run_bind,hz,Result.andThen_ok];rfl
 refine wpList_plain hg λ Kc hK=>?_
 unfold Oper.wp;simp only [execOp,Sem.run_bind,ra,Result.andThen_ok,Sem.run_pure,Oper.upon];refine hK _ _ ?_
 have st1:St N wb ((d,.val (.pointer (some ⟨w.heap.size,0,none⟩)))::E) (a.put (some d) (.pointer (some ⟨w.heap.size,0,none⟩))) (w.alloc (.cells z0.cells e)) :=
  st.push (Ext.alloc _ _) (dst:=some d) (r:=.val _) (λ d' hd'=>by cases hd';exact hd) (.inr rfl)
 have e1:=st1.opd (.tmp d);have e2:=st1.opd y;rw [hy] at e2;simp only [AD.ok] at e2;have e1':(a.put (some d) (.pointer (some ⟨w.heap.size,0,none⟩))).eval (.tmp d)=.pointer (some ⟨w.heap.size,0,none⟩):=by
  simp only [opE,lkE,beq_self_eq_true,cond_true,AD.ok] at e1;exact e1
 have hb:(w.alloc (.cells z0.cells e)).heap[w.heap.size]?=some (.cells z0.cells e (0,0)):=heap_alloc_new w _;have hrun:(Instr.storeAt t (.pointer (some ⟨w.heap.size,0,none⟩)) c).run P (w.alloc (.cells z0.cells e))=.ok () ((w.alloc (.cells z0.cells e)).setRow w.heap.size c.cells):=by
  have hst:=run_storeCells_at P w.heap.size 0 e c.cells.toList 0 z0.cells _ hb (by simp [hfit]) h1;have e3:(z0.cells.toList.take (0+0)++c.cells.toList++z0.cells.toList.drop (0+0+c.cells.toList.length)).toArray=c.cells:=by
   rw [List.drop_eq_nil_of_le (by simp [hfit])];simp
  rw [e3] at hst;simp only [Instr.storeAt,Instr.sureAddr,storeVar,Sem.run_bind,Sem.run_pure,Result.andThen_ok,hs,ne_eq,not_true_eq_false,if_false,hst]
 refine wpList_plain hg' λ Kc hK=>?_
 unfold Oper.wp;simp only [execOp,Sem.run_bind,e1',e2,hrun,Result.andThen_ok,Sem.run_pure,Oper.upon];refine hK _ _ ?_
 have x2:Ext w ((w.alloc (.cells z0.cells e)).setRow w.heap.size c.cells):=(Ext.alloc _ _).setRow (Nat.le_refl _) _;have h2:=h w.heap.size _ (st.ext.trans x2) st.ext.size (setRow_heap _ w.heap.size _ _ _ (0,0) hb);unfold LX at h2;refine h2 _ _ ?_
 have st2:=st.push (dst:=some d) (r:=.val (.pointer (some ⟨w.heap.size,0,none⟩))) (v:=.pointer (some ⟨w.heap.size,0,none⟩)) x2 (λ d' hd'=>by cases hd';exact hd) (.inr rfl);exact st2.rebase
end
def q0A (f m:Int):Value:=.agg #[.int .u16 f,.int .u16 m]
def d0A:List Rn→List Value
 | []=>[]
 | x::r=>.int .u16 x.1::.int .u16 x.2::d0A r
theorem h4A:∀ a b,d0A (a++b)=d0A a++d0A b
 | [],b=>rfl
 | x::a,b=>by simp only [List.cons_append,d0A,h4A a b]
theorem dtA:∀ a,(d0A a).length=a.length*2
 | []=>rfl
 | x::a=>by simp only [d0A,List.length_cons,dtA a];omega
theorem h3A:∀ a,∀ u ∈ d0A a,u.oneCell'=true
 | [],u,h=>by cases h
 | x::a,u,h=>by
   simp only [d0A,List.mem_cons] at h
   rcases h with rfl|rfl|h
   ·rfl
   ·rfl
   ·exact h3A a u h
theorem luA:∀ (a:List Rn) (j:Nat),j<a.length→((d0A a).drop (j*2)).take 2=[.int .u16 (fst a j),.int .u16 (mor a j)]
 | [],j,h=>by simp at h
 | x::a,0,_=>rfl
 | x::a,j+1,h=>by
   have ih:=luA a j (by simpa using h);rw [show (j+1)*2=j*2+2 by omega];simp only [d0A,List.drop_succ_cons];rw [ih];rfl
def SlR (w:World) (v:Value) (rs:List Rn):Prop:=SlC w v rs.length 2 (d0A rs)
theorem SlR.ext {w w':World} {v:Value} {rs:List Rn} (h:SlR w v rs) (e:Ext w w'):SlR w' v rs:=SlC.ext h e
theorem SlR.len {w:World} {v:Value} {rs:List Rn} (h:SlR w v rs):rs.length≤9223372036854775807:=SlC.len h
theorem SlR.isSlice {w:World} {v:Value} {rs:List Rn} (h:SlR w v rs):∃ a c,v=.slice a rs.length c:=SlC.isSlice h
def OwnR (base e:Nat) (w:World) (v:Value) (rs:List Rn):Prop:=Own base e 2 w v rs.length (d0A rs)
theorem OwnR.ext {base e:Nat} {w w':World} {v:Value} {rs:List Rn} (h:OwnR base e w v rs) (x:Ext w w'):OwnR base e w' v rs:=Own.ext h x
theorem OwnR.slR {base e:Nat} {w:World} {v:Value} {rs:List Rn} (h:OwnR base e w v rs):SlR w v rs:=Own.slC h
theorem OwnR.nil {base e:Nat} {w:World}:OwnR base e w (.slice none 0 0) []:=Own.nil
def erA (base e:Nat) (rs:List Rn):AV:=⟨λ v w=>OwnR base e w v rs,λ _ _ _ x h=>h.ext x⟩
theorem b1A {w:World} {base base' e:Nat} {rs rs':List Rn} (hb:base'≤base) (hr:rs=rs') (en:Ending) (w':World) (h:Ret w (.pred (erA base e rs)) en w'):Ret w (.pred (erA base' e rs')) en w':=by
 obtain ⟨v,h1,h2,h3⟩:=h;subst hr;exact ⟨v,h1,h2,Own.base h3 hb⟩
def HasR (wb:World) (r:AD) (rs:List Rn):Prop:=HasC wb r rs.length 2 (d0A rs)
theorem HasR.val {wb:World} {u:Value} {rs:List Rn} (h:SlR wb u rs):HasR wb (.val u) rs:=HasC.val h
theorem HasR.ownV {wb:World} {base e:Nat} {u:Value} {rs:List Rn} (h:OwnR base e wb u rs):HasR wb (.val u) rs:=HasC.val h.slR
theorem HasR.own {wb:World} {base e:Nat} {rs:List Rn}:HasR wb (.pred (erA base e rs)) rs:=λ _ _ _ hv=>OwnR.slR hv
section
variable {P:Program} {l:List Oper} {N:Nn} {wb:World} {K:List Oper→Env→Prop} {rest:List Oper} {E:Env} {Q:Exit→Act→World→Prop}
variable {d:Tmp} {ty t t':TypeId} {pos:String} {after:Array Edge} {g:Option (Nat × Bool)} {x y z:Operand} {k k':IntKind}
theorem btA {rs:List Rn} (hg:bmA l E g=some true) (e:TypeId) (ht:P.underlying t=some (.slice e)) {r:AD} (hr:opE E x=r) (hx:HasR wb r rs)
 (h:LA P l wb K rest ((d,.val (.int .i64 (rs.length:Int)))::E)):LA P l wb K (⟨some d,.call ⟨.builtin .len,#[x],#[t]⟩,ty,pos,after,g⟩::rest) E:=asA hg e ht hr hx h
theorem azA {rs:List Rn} {j:Nat} (hg:bmA l E g=some true) (e:TypeId) (ht:P.underlying t=some (.slice e)) (hs:∀ w,(sizeOf e).run P w=.ok 2 w)
 {r:AD} (hr:opE E x=r) (hx:HasR wb r rs) (hi:opE E y=.val (.int k ((j:Nat):Int))) (hn:j<rs.length)
 (h:LA P l wb K rest ((d,.pred (hpA [.int .u16 (fst rs j),.int .u16 (mor rs j)]))::E)):LA P l wb K (⟨some d,.indexAddr t x y,ty,pos,after,g⟩::rest) E :=
 c3A hg e ht hs hr hx hi j rfl hn (by rw [luA rs j hn];exact h)
theorem h7A {w0:World} {e b r0:Nat} {v z:Value} {f m:Int} {cs:List Rn} (hg:g=none) (hd:d<N.n) (hel:El P t e z 2 b) (hx:opE E x=.val v) (hown:OwnR w0.heap.size e wb v cs) (hy:opE E y=.pred (hqA r0 e 2 1 (q0A f m).cells.toList))
 (h63:cs.length+1≤9223372036854775807) (hbytes:(cs.length+1)*b≤140737488355328) (hbase:Ext w0 wb)
 (h:∀ v' w',Ext w0 w'→OwnR w0.heap.size e w' v' (cs++[(f,m)])→LX P N w' l Q rest ((d,.val v')::vals E)) :
 LX P N wb l Q (⟨some d,.call ⟨.builtin .append,#[x,y],#[t,t]⟩,ty,pos,after,g⟩::rest) E :=
 cpA hg hd hel hx hown hy HasC.own (by simp [q0A,Value.cells,Value.oneCell']) (by unfold maxLen;omega) hbytes hbase.size (λ v' w w' he ho hgr=>by
  refine h v' w' ((hbase.trans he).grown hgr (λ k hk=>(Own.lt hown k hk).1)) ?_
  unfold OwnR;rw [h4A,List.length_append];exact ho)
end
section
variable {P:Program} {l:List Oper} {N:Nn} {wb:World} {K:List Oper→Env→Prop} {rest:List Oper} {E:Env} {Q:Exit→Act→World→Prop}
variable {d:Tmp} {ty t t':TypeId} {pos:String} {after:Array Edge} {g:Option (Nat × Bool)} {x y z:Operand} {k k':IntKind}
theorem d3A {n s:Nat} {cs:Array Value} {e:TypeId} {i:Int} {c:Value} (j:Nat) (hg:bmA l E g=some true) (ht:P.underlying t=some (.array n e)) (hs:∀ w,(sizeOf e).run P w=.ok s w) (hx:opE E x=.val (.agg cs)) (hy:opE E y=.val (.int k i)) (hj:i=j) (hn:j<n)
 (hp:∀ w,(part e cs (j*s)).run P w=.ok c w) (h:LA P l wb K rest ((d,.val c)::E)):LA P l wb K (⟨some d,.index t x y,ty,pos,after,g⟩::rest) E :=
 bhA _ hg (bwA λ a w he hh=>by
  have e1:=hh x (by simp [Op.operands]);have e2:=hh y (by simp [Op.operands]);rw [hx] at e1;rw [hy] at e2;simp only [AD.ok] at e1 e2;subst hj;have hrun:(Instr.index t (.agg cs) (.int k (j:Int))).run P w=.ok c w:=by
   simp [Instr.index,run_underlying ht,asIntOf,hs,hn,hp]
  simp only [execOp,e1,e2,Sem.run_bind,hrun,Result.andThen_ok,Sem.run_pure]) h
end
theorem OwnR.row {base e:Nat} {w:World} {v:Value} {rs:List Rn} (h:OwnR base e w v rs) (hp:0<rs.length) :
 ∃ b cap cur,v=.slice (some ⟨b,0,none⟩) rs.length cap∧base≤b∧w.heap[b]?=some (.cells cur e (0,0))∧rs.length≤cap∧cap≤maxLen∧cur.size=cap*2∧cur.toList.take (rs.length*2)=d0A rs:=by
 rcases h.2 with ⟨_,h0⟩|⟨gb,cap,cur,h1,hb,hg,hnc,hm,hsz,htake⟩
 ·omega
 ·exact ⟨gb,cap,cur,h1,hb,hg,hnc,hm,hsz,htake⟩
end Go.LA
namespace Go
open Go.LA
theorem jZ {p:Prop} (h:p:=by first|exact HasR.val (by assumption)|exact HasR.own|exact HasR.ownV (by assumption)):p:=h
end Go
end
section
namespace Go.LA
open Go.RowKit
def Clb (P:Program) (fv:Value) (args:List Value) (w:World) (R:Ending→World→Prop):Prop :=
 ∃ f first captured,fv=.func (.func f) first captured∧Fc P f (first++args.toArray++captured) w R
theorem Clb.of {P:Program} {f:FuncId} {args:List Value} {w:World} {R:Ending→World→Prop} (h:Fc P f args.toArray w R):Clb P (.func (.func f) #[] #[]) args w R :=
 ⟨f,#[],#[],rfl,by simpa using h⟩
theorem Clb.of1 {P:Program} {f:FuncId} {x c:Value} {w:World} {R:Ending→World→Prop} (h:Fc P f #[x,c] w R):Clb P (.func (.func f) #[] #[c]) [x] w R :=
 ⟨f,#[],#[c],rfl,h⟩
theorem Clb.bound1 {P:Program} {f:FuncId} {x c:Value} {w:World} {R:Ending→World→Prop} (h:Fc P f #[c,x] w R):Clb P (.func (.func f) #[c] #[]) [x] w R :=
 ⟨f,#[c],#[],rfl,h⟩
section
variable {P:Program} {l:List Oper} {N:Nn} {wb:World} {K:List Oper→Env→Prop} {rest:List Oper} {E:Env} {Q:Exit→Act→World→Prop}
variable {d:Tmp} {ty t t':TypeId} {pos:String} {after:Array Edge} {g:Option (Nat × Bool)} {x y z:Operand} {k k':IntKind}
theorem hfA {f:FuncId} {first cap:Array Value} {args:Array Operand} {ats:Array TypeId} {w:World} {ρ:Operand→Value} {fv:Operand} (hfv:ρ fv=.func (.func f) first cap) (hf:(callFunc f (first++args.map ρ++cap)).run P w=.ok (.enter f (first++args.map ρ++cap)) w) :
 (execOp ρ ⟨some d,.call ⟨.value fv,args,ats⟩,ty,pos,after,g⟩).run P w=.ok (.enter f (first++args.map ρ++cap)) w:=by
 simp only [execOp,resolve,Deferred.ofValue,hfv,Sem.run_bind,Sem.run_pure,Result.andThen_ok,invoke]
 simpa using hf
theorem fwA {ats:Array TypeId} {fv:Operand} {rf r1:AD} (hg:bmA l E g=some true) (hfv:opE E fv=rf) (hu1:opE E x=r1) (r:AD)
 (hc:∀ vf u1 w,Ext wb w→rf.ok vf w→r1.ok u1 w→Clb P vf [u1] w (Ret w r))
 (h:LA P l wb K rest ((d,r)::E)):LA P l wb K (⟨some d,.call ⟨.value fv,#[x],ats⟩,ty,pos,after,g⟩::rest) E :=
 bhA r hg (λ a w he hh=>by
  have h1:=hh fv (by simp [Op.operands,Call.operands]);rw [hfv] at h1;have eu1:=hh x (by simp [Op.operands,Call.operands]);rw [hu1] at eu1;obtain ⟨f,first,cap,hf,hcall⟩:=hc _ _ w he h1 eu1;rw [hfA hf (hcall.run _ _)];refine ⟨rfl,?_⟩;simp only [List.map_toArray,List.map_cons,List.map_nil];exact hcall.calls) h
theorem m0A {ats:Array TypeId} {fv:Operand} {rf r1 r2:AD} (hg:bmA l E g=some true) (hfv:opE E fv=rf) (hu1:opE E x=r1) (hu2:opE E y=r2) (r:AD)
 (hc:∀ vf u1 u2 w,Ext wb w→rf.ok vf w→r1.ok u1 w→r2.ok u2 w→Clb P vf [u1,u2] w (Ret w r))
 (h:LA P l wb K rest ((d,r)::E)):LA P l wb K (⟨some d,.call ⟨.value fv,#[x,y],ats⟩,ty,pos,after,g⟩::rest) E :=
 bhA r hg (λ a w he hh=>by
  have h1:=hh fv (by simp [Op.operands,Call.operands]);rw [hfv] at h1;have eu1:=hh x (by simp [Op.operands,Call.operands]);rw [hu1] at eu1;have eu2:=hh y (by simp [Op.operands,Call.operands]);rw [hu2] at eu2;obtain ⟨f,first,cap,hf,hcall⟩:=hc _ _ _ w he h1 eu1 eu2;rw [hfA hf (hcall.run _ _)];refine ⟨rfl,?_⟩;simp only [List.map_toArray,List.map_cons,List.map_nil];exact hcall.calls) h
def holds (f:FuncId) (r:AD):AV:=⟨λ v w=>∃ c,v=.func (.func f) #[] #[c]∧r.ok c w,λ _ _ _ e ⟨c,h1,h2⟩=>⟨c,h1,r.mono e h2⟩⟩
theorem kzA {f:FuncId} {r:AD} (hg:bmA l E g=some true) (hx:opE E x=r) (h:LA P l wb K rest ((d,.pred (holds f r))::E)):LA P l wb K (⟨some d,.makeFunc (.func f) #[] #[x],ty,pos,after,g⟩::rest) E :=
 bhA _ hg (λ a w he hh=>by
  have h1:=hh x (by simp [Op.operands]);rw [hx] at h1;simp only [execOp,Instr.makeFunc,List.map_toArray,List.map_cons,List.map_nil,Sem.run_bind,Sem.run_pure,Result.andThen_ok];exact ⟨Ext.refl _,_,rfl,h1⟩) h
theorem l2A {f:FuncId} {c:Value} (hg:bmA l E g=some true) (hx:opE E x=.val c) (h:LA P l wb K rest ((d,.val (.func (.func f) #[c] #[]))::E)):LA P l wb K (⟨some d,.makeFunc (.func f) #[x] #[],ty,pos,after,g⟩::rest) E :=
 bhA _ hg (bwA λ a w he hh=>by
  have h1:=hh x (by simp [Op.operands]);rw [hx] at h1;simp only [AD.ok] at h1;simp only [execOp,Instr.makeFunc,List.map_toArray,List.map_cons,List.map_nil,Sem.run_bind,Sem.run_pure,Result.andThen_ok,h1]) h
theorem myA {e:TypeId} {c:Value} (hg:bmA l E g=some true) (hx:opE E x=.val c) (h:LA P l wb K rest ((d,.pred (hpA c.cells.toList))::E)) :
 LA P l wb K (⟨some d,.box e x,ty,pos,after,g⟩::rest) E :=
 bhA _ hg (λ a w he hh=>by
  have h0:=hh x (by simp [Op.operands]);rw [hx] at h0;simp only [AD.ok] at h0;have hrun:(Instr.box e c).run P w=.ok (.pointer (some ⟨w.heap.size,0,none⟩)) (w.alloc (.cells c.cells e)):=rfl;simp only [execOp,h0,Sem.run_bind,hrun,Result.andThen_ok,Sem.run_pure];refine ⟨Ext.alloc _ _,_,rfl,λ j u hu=>?_⟩;rw [Addr.add_lit,cell_of_row _ w.heap.size _ c.cells e (0,0) (heap_alloc_new w _)]
  simpa using hu) h
theorem snA {e:TypeId} {c0 c1 c2 c3:Value} (hg:bmA l E g=some true) (hx:opE E x=.val (.agg #[c0,c1,c2,c3])) (h:LA P l wb K rest ((d,.pred (hpA [c0,c1,c2,c3]))::E)) :
 LA P l wb K (⟨some d,.box e x,ty,pos,after,g⟩::rest) E:=myA hg hx h
theorem zvA {e:TypeId} {c0 c1 c2:Value} (hg:bmA l E g=some true) (hx:opE E x=.val (.agg #[c0,c1,c2])) (h:LA P l wb K rest ((d,.pred (hpA [c0,c1,c2]))::E)) :
 LA P l wb K (⟨some d,.box e x,ty,pos,after,g⟩::rest) E:=myA hg hx h
theorem okA {c0 c1 c2 c3:Value} (hg:bmA l E g=some true) (ht:∀ w,(isAgg t).run P w=.ok true w) (hs:∀ w,(sizeOf t).run P w=.ok 4 w) (hx:opE E x=.pred (hpA [c0,c1,c2,c3])) (h:LA P l wb K rest ((d,.val (.agg #[c0,c1,c2,c3]))::E)) :
 LA P l wb K (⟨some d,.load t x,ty,pos,after,g⟩::rest) E:=akA (cs:=[c0,c1,c2,c3]) hg ht hs hx h
theorem gtA {c0 c1 c2 c3:Value} (f:Nat) (hg:bmA l E g=some true) (hx:opE E x=.pred (hpA [c0,c1,c2,c3])) (hr:∀ (a:Addr) w,(Instr.fieldAt t (.pointer (some a)) f).run P w=.ok (.pointer (some (a.add f))) w)
 (h:LA P l wb K rest ((d,.pred (hpA [([c0,c1,c2,c3]:List Value).getD f undef]))::E)) (hf:f<4):LA P l wb K (⟨some d,.fieldAddr t x f,ty,pos,after,g⟩::rest) E :=
 bhA _ hg (λ ac w he hh=>by
  have e1:=hh x (by simp [Op.operands]);rw [hx] at e1;obtain ⟨p,hv,hc⟩:=e1;simp only [execOp,Sem.run_bind,hv,hr,Result.andThen_ok,Sem.run_pure];refine ⟨Ext.refl _,_,rfl,λ j c hj=>?_⟩;have h0:j=0:=by
   rcases j with _|j
   ·rfl
   ·simp at hj
  subst h0;have e0:(p.add f).add 0=p.add f:=Addr.add_zero' _;rw [e0];refine hc f c ?_
  simp only [List.getElem?_cons_zero,Option.some.injEq] at hj;rw [← hj,List.getD_eq_getElem?_getD,List.getElem?_eq_getElem (by simpa using hf)];rfl) h
theorem oBx {e:TypeId} (h:LA P l wb K (⟨some d,.box e x,ty,pos,after,g⟩::rest) E):LA P l wb K (⟨some d,.box e x,ty,pos,after,g⟩::rest) E:=h
theorem oFa {f:Nat} (h:LA P l wb K (⟨some d,.fieldAddr t x f,ty,pos,after,g⟩::rest) E):LA P l wb K (⟨some d,.fieldAddr t x f,ty,pos,after,g⟩::rest) E:=h
theorem oLd (h:LA P l wb K (⟨some d,.load t x,ty,pos,after,g⟩::rest) E):LA P l wb K (⟨some d,.load t x,ty,pos,after,g⟩::rest) E:=h
theorem d9A {G' G:Prop} (g:G') (h:G'→G:=by
 intro h
 first
 | (refine oBx ?_;first|exact snA rfl rfl h|exact zvA rfl rfl h)
 | (refine oFa ?_;first|exact gtA 0 rfl rfl (λ _ _=>rfl) h dZ|exact gtA 1 rfl rfl (λ _ _=>rfl) h dZ|exact gtA 2 rfl rfl (λ _ _=>rfl) h dZ|exact gtA 3 rfl rfl (λ _ _=>rfl) h dZ)
 | (refine oLd ?_;exact okA rfl (λ _=>rfl) (λ _=>rfl) rfl h)):G:=h g
def mapA (c:Value→Value) (φ:AV):AV:=⟨λ v w=>∃ u,v=c u∧φ.p u w,λ _ _ _ e ⟨u,h1,h2⟩=>⟨u,h1,φ.mono _ _ _ e h2⟩⟩
theorem aeA {x0 x1:Operand} {v0:Value} {φ:AV} {j0 j1:Nat} {c:Value→Value} (hg:bmA l E g=some true) (h0:opE E x0=.val v0) (h1:opE E x1=.pred φ) (hr:∀ v1 w,φ.p v1 w→(Instr.build t #[(j0,v0),(j1,v1)]).run P w=.ok (c v1) w)
 (h:LA P l wb K rest ((d,.pred (mapA c φ))::E)):LA P l wb K (⟨some d,.build t #[(j0,x0),(j1,x1)],ty,pos,after,g⟩::rest) E :=
 bhA _ hg (λ a w he hh=>by
  have e0:=hh x0 (by simp [Op.operands]);have e1:=hh x1 (by simp [Op.operands]);rw [h0] at e0;rw [h1] at e1;simp only [AD.ok] at e0 e1;simp only [execOp,List.map_toArray,List.map_cons,List.map_nil,e0,Sem.run_bind,hr _ _ e1,Result.andThen_ok,Sem.run_pure];exact ⟨Ext.refl _,_,rfl,e1⟩) h
end
def v5A (n:Nat) (e:TypeId) (φ:AV):AV:=⟨λ v w=>∃ b cs,v=.pointer (some ⟨b,0,none⟩)∧w.heap[b]?=some (.cells cs e (0,0))∧cs.size=n∧φ.p (.agg cs) w,
 λ _ _ _ x ⟨b,cs,h1,h2,h3,h4⟩=>⟨b,cs,h1,x.block h2,h3,φ.mono _ _ _ x h4⟩⟩
structure Lays (φ:AV) (n:Nat) (e:TypeId):Prop where
 shape:∀ v w,φ.p v w→∃ cs,v=.agg cs∧cs.size=n∧∀ u ∈ cs.toList,u.oneCell'=true
 stays:∀ v w b cur j cs,φ.p v w→w.heap[b]?=some (.cells cur e j)→φ.p v (w.setRow b cs)
section
variable {P:Program} {l:List Oper} {N:Nn} {wb:World} {K:List Oper→Env→Prop} {rest:List Oper} {E:Env} {Q:Exit→Act→World→Prop}
variable {d:Tmp} {ty t t':TypeId} {pos:String} {after:Array Edge} {g:Option (Nat × Bool)} {x y z:Operand} {k k':IntKind}
theorem bsA {φ:AV} {r:AD} {q:Tmp} {w0:World} {cs0:Array Value} {e:TypeId} {n:Nat} (hg:g=none) (hx:opE E (.tmp q)=.pred (weA w0.heap.size cs0 e)) (hy:opE E y=r) (hl:Lays φ n e) (hr:∀ v w,Ext wb w→r.ok v w→φ.p v w) (hn:cs0.size=n)
 (hs:∀ w,(sizeOf t).run P w=.ok n w) (he:Ext w0 wb) (h:∀ w',Ext w0 w'→LX P N w' l Q rest ((q,.pred (v5A n e φ))::vals E)):LX P N wb l Q (⟨none,.store t (.tmp q) y,ty,pos,after,g⟩::rest) E:=by
 unfold LX;intro a w st;have e1:=st.opd (.tmp q);rw [hx] at e1;have e2:=st.opd y;rw [hy] at e2;obtain ⟨b,hb0,hv,hb⟩:=e1;have hp:=hr _ _ st.ext e2;obtain ⟨cs,hc,hcn,h1⟩:=hl.shape _ _ hp;rw [hc] at hp;have hfit:cs.size=cs0.size:=by rw [hcn,hn]
 have hrun:(Instr.storeAt t (.pointer (some ⟨b,0,none⟩)) (.agg cs)).run P w=.ok () (w.setRow b cs):=by
  have hst:=run_storeCells_at P b 0 e cs.toList 0 cs0 w hb (by simp [hfit]) h1;have e3:(cs0.toList.take (0+0)++cs.toList++cs0.toList.drop (0+0+cs.toList.length)).toArray=cs:=by
   rw [List.drop_eq_nil_of_le (by simp [hfit])];simp
  rw [e3] at hst;have hs':∀ w,(sizeOf t).run P w=.ok cs.size w:=λ w=>by rw [hcn];exact hs w
  simp only [Instr.storeAt,Instr.sureAddr,storeVar,Sem.run_bind,Sem.run_pure,Result.andThen_ok,Value.cells,hs',ne_eq,not_true_eq_false,if_false,hst]
 refine wpList_plain hg λ Kc hK=>?_
 unfold Oper.wp;simp only [execOp,Sem.run_bind,hv,hc,hrun,Result.andThen_ok,Sem.run_pure,Oper.upon];refine hK _ _ ?_
 have x2:Ext w0 (w.setRow b cs):=(he.trans st.ext).setRow hb0 _;have h2:=h _ x2;unfold LX at h2;refine h2 _ _ ?_
 have sv:=st.vals (w':=w.setRow b cs);refine ⟨sv.sz,sv.df,Ext.refl _,λ u=>?_⟩;rw [cgA]
 split
 ·rename_i hu
  subst hu;exact ⟨b,cs,hv,setRow_heap w b _ _ _ (0,0) hb,hcn,hl.stays _ _ b _ _ cs hp hb⟩
 ·exact sv.sat u
theorem ohA {b o m c:Nat} {cur:Array Value} {e e':TypeId} {z:Value} (hg:g=none) (ht:P.underlying t=some (.slice e')) (hz:∀ w,(zeroValue e').run P w=.ok z w) (hz1:z.cells=#[z]) (hz2:z.oneCell'=true) (hx:opE E x=.val (.slice (some ⟨b,o,none⟩) m c))
 (hb:wb.heap[b]?=some (.cells cur e (0,0))) (hle:o+m≤cur.size) (h:∀ w cur',Ext wb w→cur'.size=cur.size→cur'.toList.take o=cur.toList.take o→LX P N (w.setRow b cur') l Q rest (vals E)) :
 LX P N wb l Q (⟨none,.call ⟨.builtin .clear,#[x],#[t]⟩,ty,pos,after,g⟩::rest) E:=by
 unfold LX;intro a w st;have e1:=st.opd x;rw [hx] at e1;simp only [AD.ok] at e1;have hbw:=st.ext.block hb;refine wpList_plain hg λ Kc hK=>?_
 unfold Oper.wp
 by_cases hm:m=0
 ·subst hm
  have hrun:(Builtin.clear_ #[t] ty #[.slice (some ⟨b,o,none⟩) 0 c]).run P w=.ok (.tuple #[]) w:=by
   simp [Builtin.clear_,run_underlying ht]
  simp only [execOp,resolve,invoke,builtin,Sem.run_bind,Sem.run_pure,Result.andThen_ok,List.map_toArray,List.map_cons,List.map_nil,e1,hrun,Oper.upon];refine hK _ _ ?_
  have h2:=h w cur st.ext rfl rfl;rw [setRow_self w b cur e (0,0) hbw] at h2;unfold LX at h2;exact h2 _ _ (st.vals (w':=w))
 ·have hzl:∀ u ∈ (Builtin.zeroCells z.cells m).toList,u.oneCell'=true:=λ u hu=>by
   rw [hz1] at hu;simp only [Builtin.zeroCells,Array.toList_map,List.mem_map] at hu;obtain ⟨i,_,rfl⟩:=hu;simp [Nat.mod_one,hz2]
  have hzn:(Builtin.zeroCells z.cells m).toList.length=m:=by rw [hz1];simp [Builtin.zeroCells]
  have hst:=run_storeCells_at P b o e (Builtin.zeroCells z.cells m).toList 0 cur w hbw (by rw [hzn];omega) hzl;have hrun:(Builtin.clear_ #[t] ty #[.slice (some ⟨b,o,none⟩) m c]).run P w=.ok (.tuple #[]) (w.setRow b (cur.toList.take (o+0)++(Builtin.zeroCells z.cells m).toList++cur.toList.drop (o+0+(Builtin.zeroCells z.cells m).toList.length)).toArray):=by
   obtain ⟨m',rfl⟩:∃ m',m=m'+1:=⟨m-1,by omega⟩;simp [Builtin.clear_,run_underlying ht,hz,hst]
  simp only [execOp,resolve,invoke,builtin,Sem.run_bind,Sem.run_pure,Result.andThen_ok,List.map_toArray,List.map_cons,List.map_nil,e1,hrun,Oper.upon];refine hK _ _ ?_
  have hlen:o≤cur.toList.length:=by simp;omega
  have h2:=h w (cur.toList.take (o+0)++(Builtin.zeroCells z.cells m).toList++cur.toList.drop (o+0+(Builtin.zeroCells z.cells m).toList.length)).toArray st.ext
   (by rw [hzn];simp only [List.size_toArray,List.length_append,List.length_take,List.length_drop,hzn,Array.length_toList];simp at hlen;omega)
   (by simp only [Nat.add_zero,List.append_assoc];rw [List.take_append_of_le_length (by simp;simp at hlen;omega),List.take_take,Nat.min_self])
  unfold LX at h2;exact h2 _ _ (st.vals (w':=_))
theorem zmA {φ:AV} {r:AD} {q:Tmp} {w0:World} {cs0:Array Value} {b e:Nat} {n:Nat} (hg:g=none) (hx:opE E (.tmp q)=.val (.pointer (some ⟨b,0,none⟩))) (hb0:w0.heap.size≤b) (hb:wb.heap[b]?=some (.cells cs0 e (0,0))) (hy:opE E y=r) (hl:Lays φ n e) (hr:∀ v w,Ext wb w→r.ok v w→φ.p v w) (hn:cs0.size=n)
 (hs:∀ w,(sizeOf t).run P w=.ok n w) (he:Ext w0 wb) (h:∀ w',Ext w0 w'→LX P N w' l Q rest ((q,.pred (v5A n e φ))::vals E)):LX P N wb l Q (⟨none,.store t (.tmp q) y,ty,pos,after,g⟩::rest) E:=by
 unfold LX;intro a w st;have e1:=st.opd (.tmp q);rw [hx] at e1;simp only [AD.ok] at e1;have e2:=st.opd y;rw [hy] at e2;have hp:=hr _ _ st.ext e2;have hbw:=st.ext.block hb;obtain ⟨cs,hc,hcn,h1⟩:=hl.shape _ _ hp;rw [hc] at hp;have hfit:cs.size=cs0.size:=by rw [hcn,hn]
 have hrun:(Instr.storeAt t (.pointer (some ⟨b,0,none⟩)) (.agg cs)).run P w=.ok () (w.setRow b cs):=by
  have hst:=run_storeCells_at P b 0 e cs.toList 0 cs0 w hbw (by simp [hfit]) h1;have e3:(cs0.toList.take (0+0)++cs.toList++cs0.toList.drop (0+0+cs.toList.length)).toArray=cs:=by
   rw [List.drop_eq_nil_of_le (by simp [hfit])];simp
  rw [e3] at hst;have hs':∀ w,(sizeOf t).run P w=.ok cs.size w:=λ w=>by rw [hcn];exact hs w
  simp only [Instr.storeAt,Instr.sureAddr,storeVar,Sem.run_bind,Sem.run_pure,Result.andThen_ok,Value.cells,hs',ne_eq,not_true_eq_false,if_false,hst]
 refine wpList_plain hg λ Kc hK=>?_
 unfold Oper.wp;simp only [execOp,Sem.run_bind,e1,hc,hrun,Result.andThen_ok,Sem.run_pure,Oper.upon];refine hK _ _ ?_
 have h2:=h (w.setRow b cs) ((he.trans st.ext).setRow hb0 _);unfold LX at h2;refine h2 _ _ ?_
 have sv:=st.vals (w':=w.setRow b cs);refine ⟨sv.sz,sv.df,Ext.refl _,λ u=>?_⟩;rw [cgA]
 split
 ·rename_i hu
  subst hu;exact ⟨b,cs,e1,setRow_heap w b _ _ _ (0,0) hbw,hcn,hl.stays _ _ b _ _ cs hp hbw⟩
 ·exact sv.sat u
theorem c1A {kN:Nat} {fn:Func} {w0:World} {φ:AV} {p n:Nat} {e:TypeId} {dsc:TypeDesc} (hr:fn.results=#[.cell p t]) (hl:lkE E p=.pred (v5A n e φ))
 (hu:P.underlying t=some dsc) (hd:(match dsc with|.struct _|.array _ _=>true|_=>false)=true) (hi:(P.info? t).map (·.size)=some n) (he:Ext w0 wb) :
 PX ⟨kN,[]⟩ wb (bodyPost P fn (Ret w0 (.pred φ))) .ret E:=by
 unfold PX;intro a w st;have h1:=st.sat p;rw [hl] at h1;obtain ⟨b,cs,hv,hb,hn,hp⟩:=h1;exact ⟨st.df,_,results_cell_row hr _ _ b e cs (0,0) dsc hv hb hu hd (by rw [hn];exact hi),_,rfl,he.trans st.ext,hp⟩
theorem f4A {kN:Nat} {fn:Func} {w0:World} {φ:AV} {r:AD} {p u n:Nat} {e:TypeId} {dsc:TypeDesc} (hr:fn.results=#[.cell p t,.tmp u]) (hl:lkE E p=.pred (v5A n e φ)) (hl':lkE E u=r)
 (hu:P.underlying t=some dsc) (hd:(match dsc with|.struct _|.array _ _=>true|_=>false)=true) (hi:(P.info? t).map (·.size)=some n) (he:Ext w0 wb) :
 PX ⟨kN,[]⟩ wb (bodyPost P fn (Ret w0 (.tup2 (.pred φ) r))) .ret E:=by
 unfold PX;intro a w st;have h1:=st.sat p;have h2:=st.sat u;rw [hl] at h1;rw [hl'] at h2;obtain ⟨b,cs,hv,hb,hn,hp⟩:=h1;have hrun:(results fn a.tmps).run P w=.ok (.tuple #[.agg cs,a.tmps.getD u undef]) w:=by
  rw [results_cell_tmp hr,hv];simp only [asAddr,Sem.run_pure,Result.andThen_ok,run_loadVar_row w b e t cs (0,0) dsc hb hu hd (by rw [hn];exact hi)]
 exact ⟨st.df,_,hrun,_,rfl,he.trans st.ext,_,_,rfl,hp,h2⟩
end
theorem Own.apart {base e e' s n b:Nat} {w:World} {v:Value} {cs:List Value} {cur:Array Value} {j:Nat × Nat} (h:Own base e s w v n cs) (hb:w.heap[b]?=some (.cells cur e' j)) (hne:e≠e'):v.ownBlock≠some b:=by
 rcases h.2 with ⟨h0,_⟩|⟨gb,cap,cur',rfl,_,hg,_⟩
 ·rw [h0];intro h;cases h
 ·intro hq
  have:gb=b:=by simpa [Value.ownBlock] using hq
  subst this;rw [hg] at hb;simp only [Option.some.injEq,Obj.cells.injEq] at hb;exact hne hb.2.1
end Go.LA
end
section
namespace Go.LA
open Go.RowKit
section
variable {P:Program} {l:List Oper} {N:Nn} {wb:World} {K:List Oper→Env→Prop} {rest:List Oper} {E:Env} {Q:Exit→Act→World→Prop}
variable {d:Tmp} {ty ty' t t':TypeId} {pos pos':String} {after after':Array Edge} {g g':Option (Nat × Bool)} {x y z:Operand} {k k':IntKind}
theorem oAl {e:TypeId} (h:LA P l wb K (⟨some d,.alloc e,ty,pos,after,g⟩::rest) E):LA P l wb K (⟨some d,.alloc e,ty,pos,after,g⟩::rest) E:=h
theorem oSt (h:LA P l wb K (⟨none,.store t x y,ty,pos,after,g⟩::rest) E):LA P l wb K (⟨none,.store t x y,ty,pos,after,g⟩::rest) E:=h
theorem egA {e:TypeId} {z0:Value} {φ:AV} {q:Tmp} {n:Nat} (hg:g=none) (hg':g'=none) (hd:d<N.n) (hq:lkE E q=.pred φ) (hne:(q == d)=false) (hl:Lays φ n e) (hz:∀ w,(zeroValue e).run P w=.ok z0 w) (hz0:z0.cells.size=n)
 (hs:∀ w,(sizeOf t).run P w=.ok n w)
 (h:∀ b cs w',Ext wb w'→wb.heap.size≤b→w'.heap[b]?=some (.cells cs e (0,0))→cs.size=n→φ.p (.agg cs) w'→LX P N w' l Q rest ((d,.val (.pointer (some ⟨b,0,none⟩)))::(q,.val (.agg cs))::E)) :
 LX P N wb l Q (⟨some d,.alloc e,ty,pos,after,g⟩::⟨none,.store t (.tmp d) (.tmp q),ty',pos',after',g'⟩::rest) E:=by
 refine bkA q hq (λ v w1 e1 h1=>?_);obtain ⟨cs,rfl,hcn,hone⟩:=hl.shape _ _ h1;refine c5A (c:=.agg cs) hg hg' hd hz (λ v=>?_) (λ w=>by show _=Result.ok cs.size w;rw [hcn];exact hs w) (by show cs.size=_;rw [hcn,hz0]) hone (λ b w' e hb hh=>h b cs w' (e1.trans e) (Nat.le_trans e1.size hb) hh hcn (φ.mono _ _ _ e h1));simp only [opE,lkE,hne,cond_false,beq_self_eq_true,cond_true]
theorem lzA {e:TypeId} {φ:AV} {q:Tmp} {b n:Nat} {cur:Array Value} (hg:g=none) (hx:opE ((q,.any)::E) x=.val (.pointer (some ⟨b,0,none⟩))) (hq:lkE E q=.pred φ) (hb:wb.heap[b]?=some (.cells cur e (0,0))) (hcur:cur.size=n) (hl:Lays φ n e)
 (hs:∀ w,(sizeOf t).run P w=.ok n w)
 (h:∀ cs w',Ext wb w'→cs.size=n→φ.p (.agg cs) w'→w'.heap[b]?=some (.cells cur e (0,0))→LX P N (w'.setRow b cs) l Q rest ((q,.val (.agg cs))::vals E)) :
 LX P N wb l Q (⟨none,.store t x (.tmp q),ty,pos,after,g⟩::rest) E:=by
 refine bkA q hq (λ v w1 e1 h1=>?_);obtain ⟨cs,rfl,hcn,hone⟩:=hl.shape _ _ h1;refine ggA (c:=.agg cs) hg ?_ (by simp only [opE,lkE,beq_self_eq_true,cond_true]) (e1.block hb) (λ w=>by show _=Result.ok cs.size w;rw [hcn];exact hs w) (by show cs.size=_;rw [hcn,hcur]) hone (λ w' e'=>h cs w' (e1.trans e') hcn (φ.mono _ _ _ e' h1) (e'.block (e1.block hb)));cases x with
 | tmp u =>
   simp only [opE,lkE] at hx ⊢;cases hu:(u == q)
   ·rw [hu] at hx;exact hx
   ·rw [hu] at hx;cases hx
 | _=>exact hx
theorem bzA {b n:Nat} {cs:Array Value} {e:TypeId} (hg:bmA l E g=some true) (hb:wb.heap[b]?=some (.cells cs e (0,0))) (hn:cs.size=n) (hx:opE E x=.val (.pointer (some ⟨b,0,none⟩))) (ht:∀ w,(isAgg t).run P w=.ok true w) (hs:∀ w,(sizeOf t).run P w=.ok n w)
 (h:LA P l wb K rest ((d,.val (.agg cs))::E)):LA P l wb K (⟨some d,.load t x,ty,pos,after,g⟩::rest) E :=
 b2A hg ht (λ w=>by rw [hn];exact hs w) hx hb h
theorem seA {a b:Int} (hg:bmA l E g=some true) (hx:opE E x=.val (.int k a)) (hy:opE E y=.val (.int k b)) (hb:b≠0) (h:LA P l wb K rest ((d,.val (.int k (k.wrap (a.tdiv b))))::E)) :
 LA P l wb K (⟨some d,.binOp .quo t x y t',ty,pos,after,g⟩::rest) E :=
 bhA _ hg (bwA λ ac w he hh=>by
  have e1:=hh x (by simp [Op.operands]);have e2:=hh y (by simp [Op.operands]);rw [hx] at e1;rw [hy] at e2;simp only [AD.ok] at e1 e2;simp [execOp,e1,e2,eqGuard_quo,binOp_quo,Op.intDiv,hb]) h
theorem m8A {w:World} {b b':Nat} {o:Obj} (cs:Array Value) (h:w.heap[b']?=some o) (hne:b'≠b):(w.setRow b cs).heap[b']?=some o:=by
 rw [setRow_other w b b' cs hne];exact h
end
end Go.LA
end
