import Init
import Derived.Laws.Tables
import Derived.Lib.TrailingZeros
import Derived.Test.YtlnaebejmjmepaaGreatDoorM2
set_option linter.unusedSimpArgs false
set_option linter.unusedVariables false
set_option maxRecDepth 3000
set_option maxHeartbeats 16000000
section
namespace Go.LA
open Go.RowKit
theorem yO {G' G:Prop} (g:G') (h:G'→G:=by
 intro h
 first
 | (refine oM ?_;first|exact ddA rfl rfl h|exact vuA rfl rfl h|exact vtA rfl rfl h|exact LA_moveU rfl rfl h)
 | (refine oA ?_;first|exact jpA rfl rfl h|exact p8A rfl rfl h|exact LA_assignT rfl rfl h)
 | (refine oP ?_;first|exact sfA rfl rfl rfl h|exact sgA rfl rfl rfl h)
 | (refine oN ?_;first|exact zqA rfl rfl h|exact zrA rfl rfl h|exact shA rfl rfl h)
 | (refine oX ?_;first|exact zuA rfl rfl h|exact ztA rfl rfl h|exact LA_ext30 rfl rfl h|exact LA_ext31 rfl rfl h|exact LA_ext32 rfl rfl h)
 | (refine oB .add ?_;first|exact stAdd rfl rfl rfl h|exact l3A rfl rfl rfl h)
 | (refine oB .sub ?_;first|exact stSub rfl rfl rfl h|exact LA_subW rfl rfl rfl h)
 | (refine oB .mul ?_;first|exact stMul rfl rfl rfl h|exact sjA rfl rfl rfl h)
 | (refine oB .quo ?_;exact stQuo rfl rfl rfl h)
 | (refine oB .rem ?_;exact stRem rfl rfl rfl h)
 | (refine oB .shr ?_;exact stShr rfl rfl rfl (by (try dsimp only [Int.reduceToNat,Int.reducePow]);exact h))
 | (refine oB .shl ?_;exact stShl rfl rfl rfl (by (try dsimp only [Int.reduceToNat,Int.reducePow]);exact h))
 | (refine oB _ ?_;first|exact stT rfl rfl rfl rfl h|exact stF rfl rfl rfl rfl h|exact stBET rfl rfl rfl rfl h|exact stBEF rfl rfl rfl rfl h|exact j5A rfl rfl rfl rfl h|exact stBNT rfl rfl rfl rfl h|exact stBNF rfl rfl rfl rfl h|exact j4A rfl rfl rfl rfl h)
 | (refine oI ?_;exact stIN rfl _ rfl (λ _=>rfl) rfl rfl h)
 | (refine oL ?_;exact esA rfl (λ _=>rfl) rfl h)
 | (refine oV ?_;first|exact stCnv rfl rfl rfl rfl h|exact dwA rfl rfl rfl rfl h)
 | (refine c7A ?_;exact stLen rfl _ rfl rfl h)
 | (refine oI ?_;exact stII rfl _ rfl (λ _=>rfl) rfl rfl (by (try dsimp only [Int.reduceToNat,Int.toNat_natCast]);exact h))
 | (refine oS ?_;first
   | exact stSL rfl _ rfl rfl rfl (λ _=>rfl) (by (try dsimp only [Int.reduceToNat,Int.toNat_natCast]);exact h)
   | exact stSH rfl _ rfl rfl rfl (λ _=>rfl) (by (try dsimp only [Int.reduceToNat,Int.toNat_natCast]);exact h)
   | exact stSLH rfl _ rfl rfl rfl rfl (λ _=>rfl) (by (try dsimp only [Int.reduceToNat,Int.toNat_natCast]);exact h))):G:=h g
theorem yC {G1 G2 G:Prop} (g1:G1) (g2:G2) (h:G1→G2→G:=by
 intro a b;exact c4B rfl rfl rfl rfl (by intro hc;dsimp only [jkA] at hc;revert hc;exact a) (by intro hc;dsimp only [jkA] at hc;revert hc;exact b)):G:=h g1 g2
theorem yN {T G' G:Prop} (t:T) (g:G') (h:T→G'→G:=by
 intro a b
 first|exact siA (a [] _ (wsA b))|exact siA (a _ b)):G:=h t g
theorem yR {G' G:Prop} (g:G') (h:G'→G:=by
 intro h;refine oCX ?_
 first|exact suA kZ h|exact p9A kZ kZ h):G:=h g
theorem wG {G' G:Prop} (g:G') (h:G'→G:=by
 intro h
 first
 | (refine oCX ?_;first|exact ssA h|exact zwA h|exact w2A h|exact zyA h|exact c7B h|exact w0A rfl h|exact w1A rfl h|exact vzA h|exact vyA h)
 | (refine oPX ?_;first|exact zkA h|exact vkA h|exact vlA h|exact s6A h|exact s4A h|exact s3A h|exact s5A dZ h|exact PX_scopeN h|exact s1A h|exact PX_scopeX h)
 | (refine oLX ?_;exact wsA h)):G:=h g
end Go.LA
end
section
namespace Go.ArrP
def Inc (xs:List Int):Prop:=xs.Pairwise (·<·)
instance (xs:List Int):Decidable (Inc xs):=inferInstanceAs (Decidable (xs.Pairwise (·<·)))
theorem awA {xs:List Int} {i:Nat} (h:i<xs.length):xs.getD i 0=xs[i]:=by simp [List.getD,h]
theorem npA {xs:List Int} {i:Nat} (h:i<xs.length):xs.getD i 0 ∈ xs:=by rw [awA h];exact List.getElem_mem h
theorem r8A {xs:List Int} (h:∀ i,1≤i→i<xs.length→xs.getD (i-1) 0<xs.getD i 0):Inc xs:=by
 unfold Inc;rw [List.pairwise_iff_getElem];intro i j hi hj hij
 induction j with
 | zero=>omega
 | succ j ih =>
   have h1:=h (j+1) oZ hj;rw [awA hj,show j+1-1=j from rfl,awA oZ] at h1
   rcases Nat.lt_or_ge i j with h2|h2
   ·exact Int.lt_trans (ih oZ h2) h1
   ·obtain rfl:i=j:=oZ
    exact h1
theorem Inc.at {xs:List Int} (h:Inc xs) {i j:Nat} (hij:i<j) (hj:j<xs.length):xs.getD i 0<xs.getD j 0:=by
 rw [awA hj,awA oZ];exact (List.pairwise_iff_getElem.1 h) i j oZ hj hij
theorem mgA:Inc []:=List.Pairwise.nil
theorem inc_cons {x:Int} {xs:List Int}:Inc (x::xs)↔(∀ y ∈ xs,x<y)∧Inc xs:=List.pairwise_cons
theorem gbA:∀ {xs ys:List Int},Inc xs→Inc ys→(∀ x,x ∈ xs↔x ∈ ys)→xs=ys
 | [],[],_,_,_=>rfl
 | [],y::ys,_,_,h=>by have:=(h y).2 (by simp);cases this
 | x::xs,[],_,_,h=>by have:=(h x).1 (by simp);cases this
 | x::xs,y::ys,hx,hy,h=>by
   obtain ⟨hx1,hx2⟩:=inc_cons.1 hx;obtain ⟨hy1,hy2⟩:=inc_cons.1 hy;have e:x=y:=by
    have h1:=(h x).1 (by simp);have h2:=(h y).2 (by simp);simp only [List.mem_cons] at h1 h2
    rcases h1 with h1|h1
    ·exact h1
    ·rcases h2 with h2|h2
     ·exact h2.symm
     ·have:=hy1 x h1;have:=hx1 y h2;omega
   subst e;congr 1;refine gbA hx2 hy2 λ z=>⟨λ hz=>?_,λ hz=>?_⟩
   ·have:=(h z).1 (by simp [hz])
    simp only [List.mem_cons] at this
    rcases this with rfl|h'
    ·have:=hx1 z hz;omega
    ·exact h'
   ·have:=(h z).2 (by simp [hz])
    simp only [List.mem_cons] at this
    rcases this with rfl|h'
    ·have:=hy1 z hz;omega
    ·exact h'
def axA (f:Bool→Bool→Bool):List Int→List Int→List Int
 | [],[]=>[]
 | x::a,[]=>(if f true false then [x] else [])++axA f a []
 | [],y::b=>(if f false true then [y] else [])++axA f [] b
 | x::a,y::b =>
   if x<y then (if f true false then [x] else [])++axA f a (y::b)
   else if y<x then (if f false true then [y] else [])++axA f (x::a) b
   else (if f true true then [y] else [])++axA f a b
termination_by a b=>a.length+b.length
theorem g7A {p:Bool} {x z:Int}:z ∈ (if p then [x] else [])↔p=true∧z=x:=by
 cases p <;> simp
theorem fnA (f:Bool→Bool→Bool) (a b:List Int):∀ z ∈ axA f a b,z ∈ a∨z ∈ b:=by
 fun_induction axA f a b with
 | case1=>intro z hz;cases hz
 | case2 x a ih=>intro z hz;rw [List.mem_append,g7A] at hz;rcases hz with ⟨_,rfl⟩|hz;·simp
                 ·rcases ih z hz with h|h <;> simp_all
 | case3 y b ih=>intro z hz;rw [List.mem_append,g7A] at hz;rcases hz with ⟨_,rfl⟩|hz;·simp
                 ·rcases ih z hz with h|h <;> simp_all
 | case4 x a y b h ih=>intro z hz;rw [List.mem_append,g7A] at hz;rcases hz with ⟨_,rfl⟩|hz;·simp
                       ·rcases ih z hz with h|h <;> simp_all
 | case5 x a y b h h' ih=>intro z hz;rw [List.mem_append,g7A] at hz;rcases hz with ⟨_,rfl⟩|hz;·simp
                          ·rcases ih z hz with h|h <;> simp_all
 | case6 x a y b h h' ih=>intro z hz;rw [List.mem_append,g7A] at hz;rcases hz with ⟨_,rfl⟩|hz;·simp
                          ·rcases ih z hz with h|h <;> simp_all
theorem gmA (f:Bool→Bool→Bool) (hf:f false false=false) (a b:List Int):Inc a→Inc b→∀ z,z ∈ axA f a b↔f (decide (z ∈ a)) (decide (z ∈ b))=true:=by
 fun_induction axA f a b with
 | case1=>intro _ _ z;simp [hf]
 | case2 x a ih =>
   intro ha hb z;obtain ⟨h1,h2⟩:=inc_cons.1 ha;rw [List.mem_append,g7A,ih h2 hb]
   by_cases e:z=x
   ·subst e
    have:z ∉ a:=λ h=>by have:=h1 z h;omega
    simp [this,hf]
   ·simp [e]
 | case3 y b ih =>
   intro ha hb z;obtain ⟨h1,h2⟩:=inc_cons.1 hb;rw [List.mem_append,g7A,ih ha h2]
   by_cases e:z=y
   ·subst e
    have:z ∉ b:=λ h=>by have:=h1 z h;omega
    simp [this,hf]
   ·simp [e]
 | case4 x a y b h ih =>
   intro ha hb z;obtain ⟨h1,h2⟩:=inc_cons.1 ha;obtain ⟨h3,h4⟩:=inc_cons.1 hb;rw [List.mem_append,g7A,ih h2 hb]
   by_cases e:z=x
   ·subst e
    have n1:z ∉ a:=λ h=>by have:=h1 z h;omega
    have n2:z ∉ y::b:=λ h'=>by
     simp only [List.mem_cons] at h'
     rcases h' with h' | h'
     ·omega
     ·have:=h3 z h';omega
    simp only [n1,n2,List.mem_cons,true_or,decide_true,decide_false,hf];simp
   ·simp [e]
 | case5 x a y b h h' ih =>
   intro ha hb z;obtain ⟨h1,h2⟩:=inc_cons.1 ha;obtain ⟨h3,h4⟩:=inc_cons.1 hb;rw [List.mem_append,g7A,ih ha h4]
   by_cases e:z=y
   ·subst e
    have n1:z ∉ b:=λ h=>by have:=h3 z h;omega
    have n2:z ∉ x::a:=λ h'=>by
     simp only [List.mem_cons] at h'
     rcases h' with h' | h'
     ·omega
     ·have:=h1 z h';omega
    simp only [n1,n2,List.mem_cons,true_or,decide_true,decide_false,hf];simp
   ·simp [e]
 | case6 x a y b h h' ih =>
   intro ha hb z;obtain ⟨h1,h2⟩:=inc_cons.1 ha;obtain ⟨h3,h4⟩:=inc_cons.1 hb;obtain rfl:x=y:=oZ;rw [List.mem_append,g7A,ih h2 h4]
   by_cases e:z=x
   ·subst e
    have n1:z ∉ a:=λ h=>by have:=h1 z h;omega
    have n2:z ∉ b:=λ h=>by have:=h3 z h;omega
    simp [n1,n2,hf]
   ·simp [e]
theorem dlA {p:Bool} {x:Int} {l:List Int} (h:Inc l) (hx:∀ z ∈ l,x<z):Inc ((if p then [x] else [])++l):=by
 cases p
 ·simpa using h
 ·exact inc_cons.2 ⟨hx,h⟩
theorem qqA (f:Bool→Bool→Bool) (a b:List Int):Inc a→Inc b→Inc (axA f a b):=by
 fun_induction axA f a b with
 | case1=>intro _ _;exact mgA
 | case2 x a ih =>
   intro ha hb;obtain ⟨h1,h2⟩:=inc_cons.1 ha
   exact dlA (ih h2 hb) λ z hz=>by rcases fnA f _ _ z hz with h|h;·exact h1 z h
                                   ·cases h
 | case3 y b ih =>
   intro ha hb;obtain ⟨h1,h2⟩:=inc_cons.1 hb
   exact dlA (ih ha h2) λ z hz=>by rcases fnA f _ _ z hz with h|h;·cases h
                                   ·exact h1 z h
 | case4 x a y b h ih =>
   intro ha hb;obtain ⟨h1,h2⟩:=inc_cons.1 ha;obtain ⟨h3,h4⟩:=inc_cons.1 hb;exact dlA (ih h2 hb) λ z hz=>by
    rcases fnA f _ _ z hz with h' | h'
    ·exact h1 z h'
    ·simp only [List.mem_cons] at h'
     rcases h' with rfl|h'
     ·exact h
     ·have:=h3 z h';omega
 | case5 x a y b h h' ih =>
   intro ha hb;obtain ⟨h1,h2⟩:=inc_cons.1 ha;obtain ⟨h3,h4⟩:=inc_cons.1 hb;exact dlA (ih ha h4) λ z hz=>by
    rcases fnA f _ _ z hz with h'' | h''
    ·simp only [List.mem_cons] at h''
     rcases h'' with rfl|h''
     ·exact h'
     ·have:=h1 z h'';omega
    ·exact h3 z h''
 | case6 x a y b h h' ih =>
   intro ha hb;obtain ⟨h1,h2⟩:=inc_cons.1 ha;obtain ⟨h3,h4⟩:=inc_cons.1 hb;obtain rfl:x=y:=oZ;exact dlA (ih h2 h4) λ z hz=>by
    rcases fnA f _ _ z hz with h'' | h''
    ·exact h1 z h''
    ·exact h3 z h''
theorem qsA (f:Bool→Bool→Bool) {a b:List Int} (ha:0<a.length) (hb:b.length=0):axA f a b=(if f true false then [a.getD 0 0] else [])++axA f (a.drop 1) b:=by
 cases a with
 | nil=>simp at ha
 | cons x a =>
   obtain rfl:b=[]:=List.eq_nil_of_length_eq_zero hb;simp [axA]
theorem qrA (f:Bool→Bool→Bool) {a b:List Int} (ha:a.length=0) (hb:0<b.length):axA f a b=(if f false true then [b.getD 0 0] else [])++axA f a (b.drop 1):=by
 cases b with
 | nil=>simp at hb
 | cons x b =>
   obtain rfl:a=[]:=List.eq_nil_of_length_eq_zero ha;simp [axA]
theorem nmA (f:Bool→Bool→Bool) {a b:List Int} (ha:0<a.length) (hb:0<b.length) (h:a.getD 0 0<b.getD 0 0):axA f a b=(if f true false then [a.getD 0 0] else [])++axA f (a.drop 1) b:=by
 cases a with
 | nil=>simp at ha
 | cons x a =>
   cases b with
   | nil=>simp at hb
   | cons y b =>
     simp only [List.getD_cons_zero] at h;simp [axA,h]
theorem nnA (f:Bool→Bool→Bool) {a b:List Int} (ha:0<a.length) (hb:0<b.length) (h:b.getD 0 0<a.getD 0 0):axA f a b=(if f false true then [b.getD 0 0] else [])++axA f a (b.drop 1):=by
 cases a with
 | nil=>simp at ha
 | cons x a =>
   cases b with
   | nil=>simp at hb
   | cons y b =>
     simp only [List.getD_cons_zero] at h;have h':¬ x<y:=oZ;simp [axA,h,h']
theorem noA (f:Bool→Bool→Bool) {a b:List Int} (ha:0<a.length) (hb:0<b.length) (h:a.getD 0 0=b.getD 0 0):axA f a b=(if f true true then [b.getD 0 0] else [])++axA f (a.drop 1) (b.drop 1):=by
 cases a with
 | nil=>simp at ha
 | cons x a =>
   cases b with
   | nil=>simp at hb
   | cons y b =>
     simp only [List.getD_cons_zero] at h;subst h;have h':¬ x<x:=oZ;simp [axA]
def uuA (a b:Bool):Bool:=a && b
def fOr (_ _:Bool):Bool:=true
def sxA (_ b:Bool):Bool:=!b
def usA (a b:Bool):Bool:=!(a == b)
def fOr' (a b:Bool):Bool:=a || b
theorem ieA (f g:Bool→Bool→Bool) (h1:f true false=g true false) (h2:f false true=g false true) (h3:f true true=g true true) (a b:List Int):axA f a b=axA g a b:=by
 fun_induction axA f a b with
 | case1=>simp [axA]
 | case2 x a ih=>rw [axA,ih,h1]
 | case3 y b ih=>rw [axA,ih,h2]
 | case4 x a y b h ih=>rw [axA,if_pos h,ih,h1]
 | case5 x a y b h h' ih=>rw [axA,if_neg h,if_pos h',ih,h2]
 | case6 x a y b h h' ih=>rw [axA,if_neg h,if_neg h',ih,h3]
theorem u5A (a b:List Int):axA fOr a b=axA fOr' a b:=ieA fOr fOr' rfl rfl rfl a b
section
variable {a b:List Int} (ha:Inc a) (hb:Inc b)
include ha hb
theorem yhA (z:Int):z ∈ axA uuA a b↔z ∈ a∧z ∈ b:=by rw [gmA uuA rfl a b ha hb];simp [uuA]
theorem bcB (z:Int):z ∈ axA fOr a b↔z ∈ a∨z ∈ b:=by rw [u5A,gmA fOr' rfl a b ha hb];simp [fOr']
theorem yfA (z:Int):z ∈ axA usA a b↔¬ (z ∈ a↔z ∈ b):=by rw [gmA usA rfl a b ha hb];simp [usA]
end
def utA (a b:Bool):Bool:=a && !b
theorem qpA (f:Bool→Bool→Bool) (hf:f=sxA) (a b:List Int):axA f a b=axA utA a b:=by subst hf;exact ieA sxA utA rfl rfl rfl a b
theorem ygA {a b:List Int} (ha:Inc a) (hb:Inc b) (z:Int):z ∈ axA sxA a b↔z ∈ a∧¬ z ∈ b:=by
 rw [qpA sxA rfl,gmA utA rfl a b ha hb];simp [utA]
def bsGo (xs:List Int) (x:Int) (i j:Nat):Nat :=
 if i<j then (if xs.getD ((i+j) / 2) 0<x then bsGo xs x ((i+j) / 2+1) j else bsGo xs x i ((i+j) / 2)) else i
termination_by j-i
def bsS (xs:List Int) (x:Int):Nat:=bsGo xs x 0 xs.length
theorem zcA (xs:List Int) (x:Int) (i j:Nat):i≤j→i≤bsGo xs x i j∧bsGo xs x i j≤j:=by
 fun_induction bsGo xs x i j with
 | case1 i j h h' ih=>intro _;have:=ih oZ;omega
 | case2 i j h h' ih=>intro _;have:=ih oZ;omega
 | case3 i j h=>intro _;omega
theorem oaA (xs:List Int) (x:Int):bsS xs x≤xs.length:=(zcA xs x 0 xs.length (Nat.zero_le _)).2
theorem bsGo_spec (xs:List Int) (x:Int) (hs:Inc xs) (i j:Nat):i≤j→j≤xs.length→(∀ k,k<i→xs.getD k 0<x)→(∀ k,j≤k→k<xs.length→x≤xs.getD k 0) →
 (∀ k,k<bsGo xs x i j→xs.getD k 0<x)∧(∀ k,bsGo xs x i j≤k→k<xs.length→x≤xs.getD k 0):=by
 fun_induction bsGo xs x i j with
 | case1 i j h h' ih =>
   intro h1 h2 h3 h4;refine ih oZ h2 (λ k hk=>?_) h4
   rcases Nat.lt_or_ge k ((i+j) / 2) with h5|h5
   ·exact Int.lt_trans (hs.at h5 oZ) h'
   ·obtain rfl:k=(i+j) / 2:=oZ
    exact h'
 | case2 i j h h' ih =>
   intro h1 h2 h3 h4;refine ih oZ oZ h3 (λ k hk hk'=>?_)
   rcases Nat.lt_or_ge ((i+j) / 2) k with h5|h5
   ·have:=hs.at h5 hk';omega
   ·obtain rfl:k=(i+j) / 2:=oZ
    omega
 | case3 i j h=>intro h1 h2 h3 h4;exact ⟨h3,λ k hk hk'=>h4 k oZ hk'⟩
theorem hxA {xs:List Int} (x:Int) (hs:Inc xs):(∀ k,k<bsS xs x→xs.getD k 0<x)∧(∀ k,bsS xs x≤k→k<xs.length→x≤xs.getD k 0) :=
 bsGo_spec xs x hs 0 xs.length (Nat.zero_le _) (Nat.le_refl _) (λ k hk=>by omega) (λ k hk hk'=>by omega)
def dcA (xs:List Int) (x:Int):Bool:=decide (bsS xs x<xs.length∧xs.getD (bsS xs x) 0=x)
theorem exA {xs:List Int} (x:Int) (hs:Inc xs):dcA xs x=decide (x ∈ xs):=by
 obtain ⟨h1,h2⟩:=hxA x hs;unfold dcA;rw [decide_eq_decide]
 constructor
 ·rintro ⟨h3,h4⟩
  rw [awA h3] at h4;exact h4▸List.getElem_mem h3
 ·intro hm
  obtain ⟨k,hk,he⟩:=List.getElem_of_mem hm;have hge:¬ k<bsS xs x:=λ h=>by have:=h1 k h;rw [awA hk] at this;omega
  have hlt:bsS xs x<xs.length:=oZ;refine ⟨hlt,?_⟩;have h3:=h2 (bsS xs x) (Nat.le_refl _) hlt
  rcases Nat.lt_or_ge (bsS xs x) k with h4|h4
  ·have:=hs.at h4 hk;rw [awA hk] at this;omega
  ·obtain rfl:k=bsS xs x:=oZ
   rw [awA hk];exact he
def i7A (xs:List Int) (i:Nat):Bool:=decide (i=0∨xs.getD i 0≠(xs.getD (i-1) 0+1) % 65536)
def hdA (xs:List Int) (k:Nat):Nat:=((List.range k).filter (i7A xs)).length
def xeA (xs:List Int):Nat:=hdA xs xs.length
theorem i4A (xs:List Int) (k:Nat):hdA xs (k+1)=hdA xs k+if i7A xs k then 1 else 0:=by
 unfold hdA;rw [List.range_succ,List.filter_append,List.length_append];cases h:i7A xs k <;> simp [h]
theorem pxA (xs:List Int) (k:Nat):hdA xs k≤k:=by
 unfold hdA;have:=List.length_filter_le (i7A xs) (List.range k)
 simpa using this
end Go.ArrP
end
section
namespace Go.LA
open Go.RowKit Go.ArrP
def cnt (p:Nat→Bool):Nat→Nat
 | 0=>0
 | n+1=>cnt p n+if p n then 1 else 0
def adA (p:Nat→Bool):Nat→List Int
 | 0=>[]
 | n+1=>adA p n++if p n then [(n:Int)] else []
theorem cnt_le (p:Nat→Bool):∀ n,cnt p n≤n
 | 0=>Nat.le_refl _
 | n+1=>by have:=cnt_le p n;simp only [cnt];split <;> omega
theorem cnt_mono (p:Nat→Bool) {m:Nat}:∀ n,m≤n→cnt p m≤cnt p n
 | 0,h=>by obtain rfl:m=0:=oZ
           exact Nat.le_refl _
 | n+1,h=>by
   rcases Nat.lt_or_ge n m with h1|h1
   ·obtain rfl:m=n+1:=oZ
    exact Nat.le_refl _
   ·have:=cnt_mono p n h1;simp only [cnt];omega
theorem baA (p:Nat→Bool):∀ n,(adA p n).length=cnt p n
 | 0=>rfl
 | n+1=>by simp only [adA,cnt,List.length_append,baA p n];split <;> rfl
theorem c9A (p:Nat→Bool) (z:Int):∀ n,z ∈ adA p n↔∃ i:Nat,i<n∧p i=true∧z=i
 | 0=>by simp [adA]
 | n+1=>by
   simp only [adA,List.mem_append,c9A p z n]
   constructor
   ·rintro (⟨i,h1,h2,h3⟩|h)
    ·exact ⟨i,by omega,h2,h3⟩
    ·split at h
     ·rename_i hp;simp at h;exact ⟨n,by omega,hp,h⟩
     ·simp at h
   ·rintro ⟨i,h1,h2,h3⟩
    by_cases e:i=n
    ·subst e;right;simp [h2,h3]
    ·left;exact ⟨i,by omega,h2,h3⟩
theorem bjA (p:Nat→Bool):∀ n,Inc (adA p n)
 | 0=>mgA
 | n+1=>by
   have ih:=bjA p n;simp only [adA]
   split
   ·refine List.pairwise_append.2 ⟨ih,List.pairwise_singleton _ _,λ a ha b hb=>?_⟩
    obtain ⟨i,h1,h2,h3⟩:=(c9A p a n).1 ha;simp at hb;omega
   ·simpa using ih
theorem cnA {p q:Nat→Bool}:∀ n,(∀ i,i<n→p i=q i)→cnt p n=cnt q n
 | 0,_=>rfl
 | n+1,h=>by simp only [cnt,cnA n (λ i hi=>h i oZ),h n oZ]
theorem cyA {p q:Nat→Bool}:∀ n,(∀ i,i<n→p i=q i)→adA p n=adA q n
 | 0,_=>rfl
 | n+1,h=>by simp only [adA,cyA n (λ i hi=>h i oZ),h n oZ]
theorem dyA {p:Nat→Bool}:∀ n,(∀ i,i<n→p i=false)→cnt p n=0
 | 0,_=>rfl
 | n+1,h=>by simp [cnt,dyA n (λ i hi=>h i oZ),h n oZ]
def buA (xs:List Int) (i:Nat):Bool:=decide ((i:Int) ∈ xs)
def Low (xs:List Int):Prop:=∀ x ∈ xs,0≤x∧x<65536
theorem gvA {xs:List Int} (h:Inc xs) (hl:Low xs):adA (buA xs) 65536=xs:=by
 refine gbA (bjA _ _) h λ z=>?_
 rw [c9A]
 constructor
 ·rintro ⟨i,h1,h2,rfl⟩;simpa [buA] using h2
 ·intro hz
  have:=hl z hz;exact ⟨z.toNat,by omega,by simp only [buA];rw [show ((z.toNat:Nat):Int)=z by omega];simpa using hz,by omega⟩
theorem c4A (p:Nat→Bool) {i:Nat} (hi:i<65536):buA (adA p 65536) i=p i:=by
 simp only [buA];rw [Bool.eq_iff_iff,decide_eq_true_eq,c9A]
 constructor
 ·rintro ⟨j,h1,h2,h3⟩
  obtain rfl:i=j:=oZ;exact h2
 ·exact λ h=>⟨i,hi,h,rfl⟩
theorem chA (p:Nat→Bool):Low (adA p 65536):=λ x hx=>by
 obtain ⟨i,h1,_,h3⟩:=(c9A p x _).1 hx;omega
def bcA (p:Nat→Bool) (i:Nat):Bool:=p i && (i == 0 || !p (i-1))
theorem emA (p:Nat→Bool):∀ (n i:Nat),i<n→p i=true→(adA p n).getD (cnt p i) 0=i
 | 0,i,h,_=>by omega
 | n+1,i,h,hp=>by
   simp only [adA]
   rcases Nat.lt_or_ge i n with h1|h1
   ·have ih:=emA p n i h1 hp
    have hlt:cnt p i<(adA p n).length:=by
     rw [baA];have:=cnt_mono p (m:=i+1) n oZ;simp only [cnt,hp,if_true] at this;omega
    rw [List.getD,List.getElem?_append_left hlt];exact ih
   ·obtain rfl:i=n:=oZ
    rw [List.getD,List.getElem?_append_right (by rw [baA];exact Nat.le_refl _),baA,hp];simp
theorem e1A (p:Nat→Bool):∀ (n k:Nat),k<cnt p n→∃ i:Nat,i<n∧p i=true∧cnt p i=k∧(adA p n).getD k 0=i
 | 0,k,h=>by simp [cnt] at h
 | n+1,k,h=>by
   by_cases h1:k<cnt p n
   ·obtain ⟨i,h2,h3,h4,h5⟩:=e1A p n k h1
    exact ⟨i,by omega,h3,h4,by rw [← h4];exact emA p (n+1) i oZ h3⟩
   ·cases hp:p n
    ·simp [cnt,hp] at h;omega
    ·simp only [cnt,hp,if_true] at h
     have:cnt p n=k:=oZ;exact ⟨n,by omega,hp,this,by rw [← this];exact emA p (n+1) n oZ hp⟩
theorem v8A {xs:List Int} (x:Int) (h:Inc xs) {i:Nat} (hi:i≤xs.length) (h1:∀ k,k<i→xs.getD k 0<x) (h2:∀ k,i≤k→k<xs.length→x≤xs.getD k 0):bsS xs x=i:=by
 obtain ⟨g1,g2⟩:=hxA x h;have g3:=oaA xs x
 rcases Nat.lt_trichotomy (bsS xs x) i with h3|h3|h3
 ·have a:=h1 (bsS xs x) h3;have b:=g2 (bsS xs x) (Nat.le_refl _) oZ;omega
 ·exact h3
 ·have a:=g1 i h3;have b:=h2 i (Nat.le_refl _) oZ;omega
theorem h0A (p:Nat→Bool) {n k:Nat} (h:k<cnt p n):∃ i:Nat,i<n∧p i=true∧cnt p i=k∧(adA p n).getD k 0=i:=e1A p n k h
theorem ixA (p:Nat→Bool) (x:Nat) (hx:x≤65536):bsS (adA p 65536) x=cnt p x:=by
 refine v8A x (bjA _ _) (by rw [baA];exact cnt_mono p _ hx) (λ k hk=>?_) (λ k h1 h2=>?_)
 ·obtain ⟨i,g1,g2,g3,g4⟩:=e1A p 65536 k (Nat.lt_of_lt_of_le hk (cnt_mono p _ hx))
  rw [g4]
  rcases Nat.lt_or_ge i x with h|h
  ·omega
  ·have:=cnt_mono p (m:=x) i h;omega
 ·rw [baA] at h2
  obtain ⟨i,g1,g2,g3,g4⟩:=e1A p 65536 k h2;rw [g4]
  rcases Nat.lt_or_ge i x with h|h
  ·have:=cnt_mono p (m:=i+1) x h
   simp only [cnt,g2,if_true] at this;omega
  ·omega
def marks (p:Nat→Bool):Array Value:=((List.range 65536).map (λ i=>Value.bool (p i))).toArray
theorem e6A (p:Nat→Bool):(marks p).size=65536:=by simp [marks]
theorem foA (p:Nat→Bool) {i:Nat} (h:i<65536):(marks p)[i]?=some (.bool (p i)):=by
 simp [marks,List.getElem?_range h]
theorem ifA {p q:Nat→Bool} (h:∀ i,i<65536→p i=q i):marks p=marks q:=by
 have h1:∀ i ∈ List.range 65536,Value.bool (p i)=Value.bool (q i):=λ i hi=>by rw [h i (List.mem_range.1 hi)]
 exact congrArg List.toArray (List.map_congr_left h1)
theorem qvA (p:Nat→Bool) {i:Nat} (b:Bool) (h:i<65536):(marks p).setIfInBounds i (.bool b)=marks (λ j=>if j=i then b else p j):=by
 refine Array.ext (by rw [Array.size_setIfInBounds,e6A,e6A]) λ j h1 h2=>?_
 have hj:j<65536:=by rw [e6A] at h2;exact h2
 have e1:(marks (λ j=>if j=i then b else p j))[j]?=some (.bool (if j=i then b else p j)):=foA _ hj;have e2:((marks p).setIfInBounds i (.bool b))[j]?=some (.bool (if j=i then b else p j)):=by
  by_cases e:j=i
  ·subst e;simp [e6A,h]
  ·rw [Array.getElem?_setIfInBounds_ne oZ,foA p hj];simp [e]
 rw [Array.getElem?_eq_getElem h1] at e2;rw [Array.getElem?_eq_getElem h2] at e1;exact Option.some.inj (e2.trans e1.symm)
def fl0:List Value:=[.bool false,.bool false,.bool false,.bool false,.bool false,.bool false,.bool false,.bool false,.bool false,.bool false,.bool false,.bool false,.bool false,.bool false,.bool false,.bool false,.bool false,.bool false,.bool false,.bool false,.bool false,.bool false,.bool false,.bool false,.bool false,.bool false,.bool false,.bool false,.bool false,.bool false,.bool false,.bool false,.bool false,.bool false,.bool false,.bool false,.bool false,.bool false,.bool false,.bool false,.bool false,.bool false,.bool false,.bool false,.bool false,.bool false,.bool false,.bool false,.bool false,.bool false,.bool false,.bool false,.bool false,.bool false,.bool false,.bool false,.bool false,.bool false,.bool false,.bool false,.bool false,.bool false,.bool false,.bool false]
def fl1:List Value:=List.append fl0 fl0
def fl2:List Value:=List.append fl1 fl1
def fl3:List Value:=List.append fl2 fl2
def fl4:List Value:=List.append fl3 fl3
def fl5:List Value:=List.append fl4 fl4
def fl6:List Value:=List.append fl5 fl5
def fl7:List Value:=List.append fl6 fl6
def fl8:List Value:=List.append fl7 fl7
def fl9:List Value:=List.append fl8 fl8
def fl10:List Value:=List.append fl9 fl9
theorem swA {l:List Value} {n m:Nat} {a:Value} (h:l=List.replicate n a) (hm:n+n=m):List.append l l=List.replicate m a:=by
 subst h;subst hm;show List.replicate n a++List.replicate n a=_;rw [List.replicate_append_replicate]
theorem z0A:fl10=List.replicate 65536 (.bool false):=by
 have h0:fl0=List.replicate 64 (.bool false):=rfl;exact swA (swA (swA (swA (swA (swA (swA (swA (swA (swA h0 rfl) rfl) rfl) rfl) rfl) rfl) rfl) rfl) rfl) rfl
theorem q6A (n:Nat) (a:Value):(List.range n).map (λ _=>a)=List.replicate n a:=by
 refine List.ext_getElem (by simp) λ i h1 h2=>by simp
theorem oxA:marks (λ _=>false)=fl10.toArray:=by
 rw [z0A,← q6A];rfl
def MkI (base e:Nat) (w:World) (v:Value) (p:Nat→Bool):Prop:=∃ b,v=.pointer (some ⟨b,0,none⟩)∧base≤b∧w.heap[b]?=some (.cells (marks p) e (0,0))
theorem MkI.ext {base e:Nat} {w w':World} {v:Value} {p:Nat→Bool} (h:MkI base e w v p) (x:Ext w w'):MkI base e w' v p:=by
 obtain ⟨b,h1,h2,h3⟩:=h;exact ⟨b,h1,h2,x.block h3⟩
theorem MkI.base {base base' e:Nat} {w:World} {v:Value} {p:Nat→Bool} (h:MkI base e w v p) (hb:base'≤base):MkI base' e w v p:=by
 obtain ⟨b,h1,h2,h3⟩:=h;exact ⟨b,h1,Nat.le_trans hb h2,h3⟩
def mkI (base e:Nat) (p:Nat→Bool):AV:=⟨λ v w=>MkI base e w v p,λ _ _ _ x h=>h.ext x⟩
theorem atB {w:World} {base base' e:Nat} {p:Nat→Bool} (hb:base'≤base) (en:Ending) (w':World) (h:Ret w (.pred (mkI base e p)) en w'):Ret w (.pred (mkI base' e p)) en w':=by
 obtain ⟨v,h1,h2,h3⟩:=h;exact ⟨v,h1,h2,MkI.base h3 hb⟩
structure Fr (R:Nat→Prop) (w w':World):Prop where
 os:w'.os=w.os
 tape:w'.tape=w.tape
 output:w'.output=w.output
 size:w.heap.size≤w'.heap.size
 block:∀ k,k<w.heap.size→¬ R k→w'.heap[k]?=w.heap[k]?
theorem Fr.of {R:Nat→Prop} {w w':World} (e:Ext w w'):Fr R w w':=⟨e.os,e.tape,e.output,e.size,λ k hk _=>Below.block e k hk⟩
theorem Fr.trans {R:Nat→Prop} {w w' w'':World} (h:Fr R w w') (h':Fr R w' w''):Fr R w w'' :=
 ⟨h'.os.trans h.os,h'.tape.trans h.tape,h'.output.trans h.output,Nat.le_trans h.size h'.size,λ k hk hn=>(h'.block k (Nat.lt_of_lt_of_le hk h.size) hn).trans (h.block k hk hn)⟩
theorem Fr.mono {R R':Nat→Prop} {w w':World} (h:Fr R w w') (hr:∀ k,R k→R' k):Fr R' w w':=⟨h.os,h.tape,h.output,h.size,λ k hk hn=>h.block k hk (λ h'=>hn (hr k h'))⟩
theorem Fr.setRow {R:Nat→Prop} {w w':World} (h:Fr R w w') {b:Nat} (hb:R b) (cs:Array Value):Fr R w (w'.setRow b cs) :=
 ⟨h.os,h.tape,h.output,by simpa using h.size,λ k hk hn=>(setRow_other w' b k cs (λ e=>hn (e▸hb))).trans (h.block k hk hn)⟩
theorem Fr.ext {R:Nat→Prop} {w0 w w':World} (e:Ext w0 w) (h:Fr R w w') (hr:∀ k,R k→w0.heap.size≤k):Ext w0 w' :=
 ⟨h.os.trans e.os,h.tape.trans e.tape,h.output.trans e.output,Nat.le_trans e.size h.size,λ k hk=>(h.block k (Nat.lt_of_lt_of_le hk e.size) (λ h'=>by have:=hr k h';omega)).trans (Below.block e k hk)⟩
theorem Fr.at {R:Nat→Prop} {w w':World} (h:Fr R w w') {b:Nat} {o:Obj} (hb:w.heap[b]?=some o) (hn:¬ R b):w'.heap[b]?=some o :=
 (h.block b (Array.getElem?_eq_some_iff.1 hb).1 hn).trans hb
theorem Fr.own {R:Nat→Prop} {w w':World} (h:Fr R w w') {base e s n:Nat} {v:Value} {cs:List Value} (ho:Own base e s w v n cs) (hn:∀ k,v.ownBlock=some k→¬ R k):Own base e s w' v n cs:=by
 refine ⟨ho.1,?_⟩
 rcases ho.2 with h0|⟨g,cap,cur,rfl,hb,hg,r⟩
 ·exact .inl h0
 ·exact .inr ⟨g,cap,cur,rfl,hb,h.at hg (hn g rfl),r⟩
theorem q2A {k:IntKind} {cur:Array Value} {xs:List Int} (h:cur.toList.take xs.length=xs.map (Value.int k)) {i:Nat} (hi:i<xs.length):cur[i]?=some (.int k (xs.getD i 0)):=by
 have h1:=congrArg (λ l=>l[i]?) h;simp only [List.getElem?_take,if_pos hi,List.getElem?_map,List.getElem?_eq_getElem hi,Option.map_some] at h1;rw [← Array.getElem?_toList,h1];simp [List.getD,List.getElem?_eq_getElem hi]
end Go.LA
attribute [irreducible] Go.LA.marks
end
section
namespace Go.LA
open Go.RowKit
theorem p0A (k a b c d:Nat) (ha:a<2 ^ k) (hc:c<2 ^ k):(a+2 ^ k*b) &&& (c+2 ^ k*d)=(a &&& c)+2 ^ k*(b &&& d):=by
 have hac:a &&& c<2 ^ k:=Nat.lt_of_le_of_lt Nat.and_le_left ha
 apply Nat.eq_of_testBit_eq
 intro i;rw [Nat.testBit_and,Nat.add_comm a,Nat.add_comm c,Nat.add_comm (a &&& c),Nat.testBit_two_pow_mul_add _ ha,Nat.testBit_two_pow_mul_add _ hc,Nat.testBit_two_pow_mul_add _ hac]
 by_cases h:i<k
 ·simp [h,Nat.testBit_and]
 ·simp [h,Nat.testBit_and]
theorem edA (a b c d:Nat) (ha:a<256) (hc:c<256):(a+256*b) &&& (c+256*d)=(a &&& c)+256*(b &&& d):=p0A 8 a b c d ha hc
def y1 (m x:Nat):Nat:=(x / 2 &&& m)+(x &&& m)
def y2 (m x:Nat):Nat:=(x / 4 &&& m)+(x &&& m)
def y3 (m x:Nat):Nat:=(x / 16+x) &&& m
theorem t0A (a b m:Nat) (ha:a<256):y1 (85+256*m) (a+256*b)=y1 85 a+256*y1 m b:=by
 have e:(a+256*b) / 2=(a / 2+128*(b % 2))+256*(b / 2):=oZ;have f:∀ c,c<128→∀ t,t<2→(c+128*t) &&& 85=c &&& 85:=by decide +kernel
 unfold y1;rw [e,edA _ _ _ _ oZ oZ,edA _ _ _ _ ha oZ,f _ oZ _ oZ];omega
theorem szA (a b m:Nat) (ha:a<256):y2 (51+256*m) (a+256*b)=y2 51 a+256*y2 m b:=by
 have e:(a+256*b) / 4=(a / 4+64*(b % 4))+256*(b / 4):=oZ;have f:∀ c,c<64→∀ t,t<4→(c+64*t) &&& 51=c &&& 51:=by decide +kernel
 unfold y2;rw [e,edA _ _ _ _ oZ oZ,edA _ _ _ _ ha oZ,f _ oZ _ oZ];omega
theorem syA (a b m:Nat) (ha:a≤68) (hb:b % 16≤4):y3 (15+256*m) (a+256*b)=y3 15 a+256*y3 m b:=by
 have e:(a+256*b) / 16+(a+256*b)=(a / 16+a+16*(b % 16))+256*(b / 16+b):=oZ;have f:∀ c,c≤72→∀ t,t≤4→(c+16*t) &&& 15=c &&& 15:=by decide +kernel
 unfold y3;rw [e,edA _ _ _ _ oZ oZ,f _ oZ _ oZ]
def pop8 (a:Nat):Nat:=cnt (λ i=>a.testBit i) 8
theorem rwA:∀ a,a<256→y1 85 a<256∧y2 51 (y1 85 a)≤68∧y2 51 (y1 85 a) % 16≤4∧y3 15 (y2 51 (y1 85 a))=pop8 a:=by decide +kernel
def mk8 (c:Nat):Nat→Nat
 | 0=>0
 | n+1=>c+256*mk8 c n
def popB:Nat→Nat→Nat
 | 0,_=>0
 | n+1,x=>pop8 (x % 256)+256*popB n (x / 256)
theorem swar:∀ n x,x<256 ^ n→y3 (mk8 15 n) (y2 (mk8 51 n) (y1 (mk8 85 n) x))=popB n x∧y2 (mk8 51 n) (y1 (mk8 85 n) x) % 16≤4
 | 0,x,h=>by
   have:x=0:=by simpa using h
   subst this;exact ⟨rfl,by decide⟩
 | n+1,x,h=>by
   have hx:x / 256<256 ^ n:=by rw [Nat.pow_succ] at h;omega
   obtain ⟨h1,h2⟩:=swar n (x / 256) hx;obtain ⟨g1,g2,g3,g4⟩:=rwA (x % 256) oZ;have ex:x=x % 256+256*(x / 256):=oZ;have s1:y1 (mk8 85 (n+1)) x=y1 85 (x % 256)+256*y1 (mk8 85 n) (x / 256):=by
    conv=>lhs;rw [ex]
    exact t0A _ _ _ oZ
   have s2:y2 (mk8 51 (n+1)) (y1 (mk8 85 (n+1)) x)=y2 51 (y1 85 (x % 256))+256*y2 (mk8 51 n) (y1 (mk8 85 n) (x / 256)):=by
    rw [s1];exact szA _ _ _ g1
   rw [s2];refine ⟨?_,by omega⟩;have s3:=syA (y2 51 (y1 85 (x % 256))) (y2 (mk8 51 n) (y1 (mk8 85 n) (x / 256))) (mk8 15 n) g2 h2;simp only [popB];rw [← g4,← h1];exact s3
theorem fjA (a:Nat):pop8 a≤8:=cnt_le _ _
theorem eyA (p:Nat→Bool) (m:Nat):∀ n,cnt p (m+n)=cnt p m+cnt (λ i=>p (m+i)) n
 | 0=>rfl
 | n+1=>by rw [← Nat.add_assoc];simp only [cnt,eyA p m n];omega
def fbA (x:Nat):Nat:=cnt (λ i=>x.testBit i) 64
theorem enA (x n:Nat):cnt (λ i=>x.testBit i) (8+n)=pop8 (x % 256)+cnt (λ i=>(x / 256).testBit i) n:=by
 rw [eyA];congr 1
 ·refine cnA 8 λ i hi=>?_
  rw [show (256:Nat)=2 ^ 8 by rfl,Nat.testBit_mod_two_pow];simp [hi]
 ·refine cnA n λ i hi=>?_
  rw [show x / 256=x >>> 8 by rw [Nat.shiftRight_eq_div_pow],Nat.testBit_shiftRight]
theorem y1A (x:Nat):fbA x=pop8 (x % 256)+(pop8 (x / 256 % 256)+(pop8 (x / 256 / 256 % 256)+(pop8 (x / 256 / 256 / 256 % 256)+(pop8 (x / 256 / 256 / 256 / 256 % 256)+(pop8 (x / 256 / 256 / 256 / 256 / 256 % 256)+(pop8 (x / 256 / 256 / 256 / 256 / 256 / 256 % 256)+pop8 (x / 256 / 256 / 256 / 256 / 256 / 256 / 256 % 256))))))):=by
 unfold fbA;rw [show 64=8+56 by rfl,enA,show 56=8+48 by rfl,enA,show 48=8+40 by rfl,enA,show 40=8+32 by rfl,enA,show 32=8+24 by rfl,enA,show 24=8+16 by rfl,enA,show 16=8+8 by rfl,enA,show cnt (λ i=>(x / 256 / 256 / 256 / 256 / 256 / 256 / 256).testBit i) 8=cnt (λ i=>(x / 256 / 256 / 256 / 256 / 256 / 256 / 256).testBit i) (8+0) by rfl,enA];rfl
theorem dv1 (a q:Nat) (h:a<256):(a+256*q) / 256=q:=oZ
theorem dv2 (a q:Nat) (h:a<65536):(a+65536*q) / 65536=q:=oZ
theorem dv3 (a q:Nat) (h:a<4294967296):(a+4294967296*q) / 4294967296=q:=oZ
theorem lt1 {p0:Nat} (h0:p0≤8):p0<256:=oZ
theorem lt2 {p0 p1 p2:Nat} (h0:p0≤8) (h1:p1≤8) (h2:p2≤8):(p0+p1)+256*(p1+p2)<65536:=oZ
theorem lt3 {p0 p1 p2 p3 p4 p5 p6:Nat} (h0:p0≤8) (h1:p1≤8) (h2:p2≤8) (h3:p3≤8) (h4:p4≤8) (h5:p5≤8) (h6:p6≤8):(p0+p1+p2+p3)+256*(p1+p2+p3+p4)+65536*(p2+p3+p4+p5)+16777216*(p3+p4+p5+p6)<4294967296:=oZ
theorem fin8 (p0 p1 p2 p3 p4 p5 p6 p7 q1 q2 q3 q4 q5 q6 z:Nat) (h0:p0≤8) (h1:p1≤8) (h2:p2≤8) (h3:p3≤8) (h4:p4≤8) (h5:p5≤8) (h6:p6≤8) (h7:p7≤8)
 (e6:q6=p6+256*p7) (e5:q5=p5+256*q6) (e4:q4=p4+256*q5) (e3:q3=p3+256*q4) (e2:q2=p2+256*q3) (e1:q1=p1+256*q2) (ez:z=p0+256*q1):(z+q1+(q2+q3)+(q4+q5+q6+p7)) % 128=p0+(p1+(p2+(p3+(p4+(p5+(p6+p7)))))):=oZ
theorem bnd8 (p0 p1 p2 p3 p4 p5 p6 p7 q1 q2 q3 q4 q5 q6 z:Nat) (h0:p0≤8) (h1:p1≤8) (h2:p2≤8) (h3:p3≤8) (h4:p4≤8) (h5:p5≤8) (h6:p6≤8) (h7:p7≤8)
 (e6:q6=p6+256*p7) (e5:q5=p5+256*q6) (e4:q4=p4+256*q5) (e3:q3=p3+256*q4) (e2:q2=p2+256*q3) (e1:q1=p1+256*q2) (ez:z=p0+256*q1):q6≤2056∧q5≤526344∧q4≤134744072∧q3≤34494482440∧q2≤8830587504648∧q1≤2260630401189896∧z≤578721382704613384:=by
 have b6:q6≤2056:=oZ;have b5:q5≤526344:=oZ;have b4:q4≤134744072:=oZ;have b3:q3≤34494482440:=oZ;have b2:q2≤8830587504648:=oZ;have b1:q1≤2260630401189896:=oZ;have bz:z≤578721382704613384:=oZ;exact ⟨b6,b5,b4,b3,b2,b1,bz⟩
theorem bnd2 {z:Nat} (bz:z≤578721382704613384):z<18446744073709551616:=oZ
theorem bnd3 {z q1:Nat} (bz:z≤578721382704613384) (b1:q1≤2260630401189896):z+q1<18446744073709551616:=oZ
theorem bnd4 {z q1 q2 q3:Nat} (bz:z≤578721382704613384) (b1:q1≤2260630401189896) (b2:q2≤8830587504648) (b3:q3≤34494482440):z+q1+(q2+q3)<18446744073709551616:=oZ
theorem bnd5 {z q1 q2 q3 q4 q5 q6 p7:Nat} (bz:z≤578721382704613384) (b1:q1≤2260630401189896) (b2:q2≤8830587504648) (b3:q3≤34494482440) (b4:q4≤134744072) (b5:q5≤526344) (b6:q6≤2056) (h7:p7≤8):z+q1+(q2+q3)+(q4+q5+q6+p7)<9223372036854775808:=oZ
theorem id2 (p0 p1 p2 q3:Nat):p0+256*(p1+256*(p2+256*q3))+(p1+256*(p2+256*q3))=((p0+p1)+256*(p1+p2))+65536*((p2+256*q3)+q3):=oZ
theorem id5 (p2 p3 p4 q5:Nat):(p2+256*(p3+256*(p4+256*q5)))+(p3+256*(p4+256*q5))=(p2+p3)+256*(p3+p4)+65536*((p4+256*q5)+q5):=oZ
theorem id6 (p0 p1 p2 p3 p4 p5 p6 u:Nat):((p0+p1)+256*(p1+p2))+65536*((p2+p3)+256*(p3+p4)+65536*((p4+p5)+256*(p5+p6)+65536*u))+((p2+p3)+256*(p3+p4)+65536*((p4+p5)+256*(p5+p6)+65536*u)) =
 ((p0+p1+p2+p3)+256*(p1+p2+p3+p4)+65536*(p2+p3+p4+p5)+16777216*(p3+p4+p5+p6))+4294967296*((p4+p5)+256*(p5+p6)+65536*u+u):=oZ
theorem sums (p0 p1 p2 p3 p4 p5 p6 p7 q1 q2 q3 q4 q5 q6 z:Nat) (h0:p0≤8) (h1:p1≤8) (h2:p2≤8) (h3:p3≤8) (h4:p4≤8) (h5:p5≤8) (h6:p6≤8) (h7:p7≤8)
 (e6:q6=p6+256*p7) (e5:q5=p5+256*q6) (e4:q4=p4+256*q5) (e3:q3=p3+256*q4) (e2:q2=p2+256*q3) (e1:q1=p1+256*q2) (ez:z=p0+256*q1) :
 z<18446744073709551616∧z+z / 256<18446744073709551616∧(z+z / 256)+(z+z / 256) / 65536<18446744073709551616∧((z+z / 256)+(z+z / 256) / 65536)+((z+z / 256)+(z+z / 256) / 65536) / 4294967296<9223372036854775808 ∧
 (((z+z / 256)+(z+z / 256) / 65536)+((z+z / 256)+(z+z / 256) / 65536) / 4294967296) % 128=p0+(p1+(p2+(p3+(p4+(p5+(p6+p7)))))):=by
 obtain ⟨b6,b5,b4,b3,b2,b1,bz⟩:=bnd8 p0 p1 p2 p3 p4 p5 p6 p7 q1 q2 q3 q4 q5 q6 z h0 h1 h2 h3 h4 h5 h6 h7 e6 e5 e4 e3 e2 e1 ez;have s1:z / 256=q1:=by rw [ez];exact dv1 _ _ (lt1 h0)
 rw [s1];have i2:z+q1=((p0+p1)+256*(p1+p2))+65536*(q2+q3):=by rw [ez,e1,e2];exact id2 _ _ _ _
 have s2:(z+q1) / 65536=q2+q3:=by rw [i2];exact dv2 _ _ (lt2 h0 h1 h2)
 rw [s2];have j1:q2+q3=(p2+p3)+256*(p3+p4)+65536*(q4+q5):=by rw [e2,e3,e4];exact id5 _ _ _ _
 have j2:q4+q5=(p4+p5)+256*(p5+p6)+65536*(q6+p7):=by rw [e4,e5,e6];exact id5 _ _ _ _
 have i3:z+q1+(q2+q3)=((p0+p1+p2+p3)+256*(p1+p2+p3+p4)+65536*(p2+p3+p4+p5)+16777216*(p3+p4+p5+p6))+4294967296*(q4+q5+q6+p7):=by
  rw [i2,j1,show q4+q5+q6+p7=(q4+q5)+(q6+p7) by rw [Nat.add_assoc],j2];exact id6 _ _ _ _ _ _ _ _
 have s3:(z+q1+(q2+q3)) / 4294967296=q4+q5+q6+p7:=by rw [i3];exact dv3 _ _ (lt3 h0 h1 h2 h3 h4 h5 h6)
 rw [s3];exact ⟨bnd2 bz,bnd3 bz b1,bnd4 bz b1 b2 b3,bnd5 bz b1 b2 b3 b4 b5 b6 h7,fin8 p0 p1 p2 p3 p4 p5 p6 p7 q1 q2 q3 q4 q5 q6 z h0 h1 h2 h3 h4 h5 h6 h7 e6 e5 e4 e3 e2 e1 ez⟩
theorem owA (x:Nat) (hx:x<18446744073709551616) {z:Nat} (hz:z=y3 1085102592571150095 (y2 3689348814741910323 (y1 6148914691236517205 x))) :
 z<18446744073709551616∧z+z / 256<18446744073709551616∧(z+z / 256)+(z+z / 256) / 65536<18446744073709551616∧((z+z / 256)+(z+z / 256) / 65536)+((z+z / 256)+(z+z / 256) / 65536) / 4294967296<9223372036854775808 ∧
 (((z+z / 256)+(z+z / 256) / 65536)+((z+z / 256)+(z+z / 256) / 65536) / 4294967296) % 128=fbA x:=by
 have h:=(swar 8 x oZ).1;have m1:mk8 15 8=1085102592571150095:=by decide +kernel
 have m2:mk8 51 8=3689348814741910323:=by decide +kernel
 have m3:mk8 85 8=6148914691236517205:=by decide +kernel
 rw [m1,m2,m3] at h;rw [h] at hz;simp only [popB,Nat.mul_zero,Nat.add_zero] at hz;have:=sums _ _ _ _ _ _ _ _ _ _ _ _ _ _ z (fjA (x % 256)) (fjA (x / 256 % 256)) (fjA (x / 256 / 256 % 256)) (fjA (x / 256 / 256 / 256 % 256)) (fjA (x / 256 / 256 / 256 / 256 % 256)) (fjA (x / 256 / 256 / 256 / 256 / 256 % 256)) (fjA (x / 256 / 256 / 256 / 256 / 256 / 256 % 256)) (fjA (x / 256 / 256 / 256 / 256 / 256 / 256 / 256 % 256)) rfl rfl rfl rfl rfl rfl hz;rw [y1A];exact this
end Go.LA
end
