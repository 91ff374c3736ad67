import Derived.Test.YtbokphkfojijoaaGreatDoorProg
import Derived.Laws.Bits64b
import Derived.Test.YtbokphkfojijoaaGreatDoorJ6
import Derived.Test.YtbokphkfojijoaaGreatDoorJ7
import Derived.Test.YtbokphkfojijoaaGreatDoorJ11
import Derived.Test.YtbokphkfojijoaaGreatDoorJ13
import Derived.Test.YtbokphkfojijoaaGreatDoorJ17
import Derived.Test.YtbokphkfojijoaaGreatDoorJ18
import Derived.Test.YtbokphkfojijoaaGreatDoorJ19
set_option linter.unusedSimpArgs false
set_option linter.unusedVariables false
set_option maxRecDepth 3000
set_option maxHeartbeats 16000000
section
namespace Go.LA
open Go.RowKit
def leS (n:Int):Nat→List Int
 | 0=>[]
 | s+1=>(n % 256)::leS (n / 256) s
theorem akA (n:Int):∀ k,(leS n k).length=k
 | 0=>rfl
 | k+1=>by simp [leS,akA (n / 256) k]
theorem e9A:∀ (k:Nat) (n:Int),∀ x ∈ leS n k,0≤x∧x<256
 | 0,n,x,h=>by simp [leS] at h
 | k+1,n,x,h=>by
   simp only [leS,List.mem_cons] at h
   rcases h with rfl|h
   ·omega
   ·exact e9A k _ x h
def j7A:List Int→Int
 | []=>0
 | x::r=>x+256*j7A r
theorem mvA:∀ (l:List Int) (x:Int),j7A (l++[x])=j7A l+x*256 ^ l.length
 | [],x=>by simp [j7A]
 | y::l,x=>by
   simp only [List.cons_append,j7A,mvA l x,List.length_cons,Int.pow_succ];rw [Int.mul_add,← Int.add_assoc];congr 1;rw [Int.mul_comm 256,Int.mul_assoc]
theorem i0A:∀ (l:List Int),(∀ x ∈ l,0≤x∧x<256)→0≤j7A l∧j7A l<256 ^ l.length
 | [],_=>by simp [j7A]
 | y::l,h=>by
   have h1:=i0A l (λ x hx=>h x (List.mem_cons_of_mem _ hx));have h2:=h y (List.mem_cons_self ..);simp only [j7A,List.length_cons,Int.pow_succ];omega
theorem hjA:∀ (k:Nat) (n:Int),0≤n→n<256 ^ k→j7A (leS n k)=n
 | 0,n,h0,h1=>by simp at h1;simp [leS,j7A];omega
 | k+1,n,h0,h1=>by
   have h2:n / 256<256 ^ k:=by rw [Int.pow_succ] at h1;omega
   simp only [leS,j7A,hjA k (n / 256) oZ h2];omega
def c0A (g:Nat→List Int):Nat→List Int
 | 0=>[]
 | n+1=>c0A g n++g n
theorem jpA {g:Nat→List Int} {i:Nat}:∀ n:Nat,i<n→∃ t,c0A g n=c0A g i++(g i++t)
 | 0,h=>absurd h (Nat.not_lt_zero _)
 | n+1,h=>by
   by_cases e:i=n
   ·subst e;exact ⟨[],by simp [c0A]⟩
   ·obtain ⟨t,ht⟩:=jpA (g:=g) (i:=i) n oZ
    exact ⟨t++g n,by simp only [c0A,ht,List.append_assoc]⟩
theorem cjA {g:Nat→List Int} {m:Nat}:∀ n,(∀ i,i<n→(g i).length=m)→(c0A g n).length=n*m
 | 0,_=>by simp [c0A]
 | n+1,h=>by
   simp only [c0A,List.length_append,cjA n (λ i hi=>h i oZ),h n (Nat.lt_succ_self n)];rw [Nat.succ_mul]
theorem riA {g:Nat→List Int} {m:Nat}:∀ n,(∀ i,i<n→(g i).length≤m)→(c0A g n).length≤n*m
 | 0,_=>by simp [c0A]
 | n+1,h=>by
   have h1:=riA n (λ i hi=>h i oZ);have h2:=h n (Nat.lt_succ_self n);simp only [c0A,List.length_append];rw [Nat.succ_mul];omega
theorem hsA {g:Nat→List Int} {x:Int}:∀ n,x ∈ c0A g n→∃ i,i<n∧x ∈ g i
 | 0,h=>by cases h
 | n+1,h=>by
   simp only [c0A,List.mem_append] at h
   rcases h with h|h
   ·obtain ⟨i,h1,h2⟩:=hsA n h;exact ⟨i,by omega,h2⟩
   ·exact ⟨n,Nat.lt_succ_self n,h⟩
def AtB (ys:List Int) (pos:Nat) (l:List Int):Prop:=∃ a t,ys=a++(l++t)∧a.length=pos
theorem AtB.le {ys l:List Int} {pos:Nat} (h:AtB ys pos l):pos+l.length≤ys.length:=by
 obtain ⟨a,t,rfl,rfl⟩:=h;simp only [List.length_append];omega
theorem AtB.left {ys l l':List Int} {pos:Nat} (h:AtB ys pos (l++l')):AtB ys pos l:=by
 obtain ⟨a,t,rfl,rfl⟩:=h;exact ⟨a,l'++t,by simp only [List.append_assoc],rfl⟩
theorem AtB.right {ys l l':List Int} {pos:Nat} (h:AtB ys pos (l++l')):AtB ys (pos+l.length) l':=by
 obtain ⟨a,t,rfl,rfl⟩:=h;exact ⟨a++l,t,by simp only [List.append_assoc],by rw [List.length_append]⟩
theorem AtB.cut {ys l:List Int} {pos:Nat} (h:AtB ys pos l):(ys.drop pos).take l.length=l:=by
 obtain ⟨a,t,rfl,rfl⟩:=h;rw [List.drop_left,List.take_left]
theorem AtB.cat {ys:List Int} {g:Nat→List Int} {pos n i:Nat} (h:AtB ys pos (c0A g n)) (hi:i<n):AtB ys (pos+(c0A g i).length) (g i):=by
 obtain ⟨t,ht⟩:=jpA (g:=g) (i:=i) n hi;rw [ht] at h;exact h.right.left
def flG {α:Type} (f:α→List Int):List α→List Int
 | []=>[]
 | x::r=>f x++flG f r
theorem mgA {α:Type} (f:α→List Int):∀ a b,flG f (a++b)=flG f a++flG f b
 | [],b=>rfl
 | x::a,b=>by simp only [List.cons_append,flG,mgA f a b,List.append_assoc]
theorem take_snoc {α:Type} {l:List α} {i:Nat} (d:α) (h:i<l.length):l.take (i+1)=l.take i++[l.getD i d]:=by
 rw [List.take_succ_eq_append_getElem h,List.getD_eq_getElem?_getD,List.getElem?_eq_getElem h];rfl
theorem f5A {α:Type} (f:α→List Int) {l:List α} {i:Nat} (d:α) (h:i<l.length):flG f (l.take (i+1))=flG f (l.take i)++f (l.getD i d):=by
 rw [take_snoc d h,mgA];simp [flG]
theorem csA {α:Type} (f:α→List Int) {m:Nat} (h:∀ x,(f x).length=m):∀ l,(flG f l).length=l.length*m
 | []=>by simp [flG]
 | x::l=>by simp only [flG,List.length_append,h,csA f h l,List.length_cons];rw [Nat.succ_mul,Nat.add_comm]
theorem mfA {α:Type} (f:α→List Int) {y:Int}:∀ l,y ∈ flG f l→∃ x ∈ l,y ∈ f x
 | [],h=>by cases h
 | x::l,h=>by
   simp only [flG,List.mem_append] at h
   rcases h with h|h
   ·exact ⟨x,List.mem_cons_self,h⟩
   ·obtain ⟨z,h1,h2⟩:=mfA f l h
    exact ⟨z,List.mem_cons_of_mem _ h1,h2⟩
theorem AtB.fl {α:Type} {f:α→List Int} {ys:List Int} {l:List α} {pos i:Nat} (d:α) (h:AtB ys pos (flG f l)) (hi:i<l.length):AtB ys (pos+(flG f (l.take i)).length) (f (l.getD i d)):=by
 have e:flG f l=flG f (l.take i)++(f (l.getD i d)++flG f (l.drop (i+1))):=by
  rw [← List.append_assoc,← f5A f d hi,← mgA,List.take_append_drop]
 rw [e] at h;exact h.right.left
theorem o0A {ys l:List Int} {pos k:Nat} (h:AtB ys pos l) (hk:l.length=k):(ys.take (pos+k)).drop pos=l:=by
 have:=h.cut;rw [hk] at this;rw [List.drop_take,Nat.add_sub_cancel_left];exact this
end Go.LA
end
section
namespace Go.Proofs.YtbokphkfojijoaaGreatDoor.Pt
open Go.LA Go.RowKit
theorem e5A:El Tryz.prog 35 5 (.int .u8 0) 1 1:=⟨rfl,rfl,rfl,by decide⟩
theorem buA {k:IntKind} {xs:List Int}:∀ u ∈ xs.map (Value.int k),u.oneCell'=true:=λ u hu=>by
 simp only [List.mem_map] at hu;obtain ⟨x,_,rfl⟩:=hu;rfl
theorem mlA (w:World) (v:Value) (xs:List Int) (h:SlI .u8 w v xs) (hb:xs.length≤140737488355327):Fc Tryz.prog 86 #[v] w (Ret w (.pred (axA w.heap.size 5 .u8 xs))):=by
 obtain ⟨h0,a,cap,rfl,hc,hm,hn,hcs⟩:=id h;cases a with
 | none =>
   obtain rfl:=hn rfl;obtain rfl:xs=[]:=List.eq_nil_of_length_eq_zero oZ;refine Fc.of (args:=[_]) Tryz.func86 rfl rfl Tryz.ntmps86 nZ ?_
   repeat' (first|(refine yL ?_;first|refine a0A rfl ?_|refine bsA (c:=.bool true) rfl rfl rfl (λ _=>rfl) ?_|refine yO ?_|(refine yC ?_ ?_<;>intro hc)|(refine yN hK ?_;clear hK K))|refine wG ?_|(refine yR ?_;intro K hK)|(refine oPX ?_;first|exact aiA rfl rfl (Ext.refl _) (λ u w2 e2 hu=>by obtain rfl:u=_:=hu;exact OwnI.nil))|fail)
 | some a =>
   refine Fc.of (args:=[_]) Tryz.func86 rfl rfl Tryz.ntmps86 nZ ?_
   repeat' (first|(refine yL ?_;first|refine a0A rfl ?_|refine bsA (c:=.bool false) rfl rfl rfl (λ _=>rfl) ?_|refine y8A 5 .u8 [] rfl (λ _=>rfl) (λ _=>by kernel_rfl) rfl dZ ?_|(refine a3A (hK _ _ (awA 5 rfl (λ v5 w5 e5 h5=>?_)));clear hK K;have h6:=h.ext e5;have ho:OwnI w.heap.size _ _ w5 v5 []:=h5;refine abA kZ (λ K hK=>?_))|(refine a3A (hK _ _ (d4A rfl dZ e5A rfl ho rfl (HasI.val h6).c buA (by simp only [List.length_nil];unfold maxLen;omega) (by simp only [List.length_nil];omega) e5.size (λ v' w2 w3 he2 ho3 hg3=>?_)));clear hK K;dsimp only [vals];refine abA kZ (λ K hK=>?_))|refine yO ?_|(refine yC ?_ ?_<;>intro hc)|(refine yN hK ?_;clear hK K))|refine wG ?_|(refine yR ?_;intro K hK)|fail)
   exact aiA rfl rfl ((e5.trans he2).grown hg3 (λ q hq=>(Own.lt ho q hq).1)) (λ u w4 e4 hu=>by
    obtain rfl:u=_:=hu;refine OwnI.ext (w:=w3) ?_ e4;unfold OwnI
    simpa using ho3)
theorem wrap8 (n:Int):IntKind.u8.wrap n=n % 256:=by simp [IntKind.wrap];rfl
theorem mhA (w:World) (v:Value) (xs:List Int) (n:Int) (size:Nat) (h:SlI .u8 w v xs) (hb:xs.length≤70368744177000) (hs:size≤8) (hn:0≤n):Fc Tryz.prog 98 #[v,.int .u64 n,.int .i64 size] w (Ret w (.pred (axA w.heap.size 5 .u8 (xs++leS n size)))):=by
 refine Fc.of (args:=[_,_,_]) Tryz.func98 rfl rfl Tryz.ntmps98 nZ ?_
 repeat' (first|(refine yL ?_;first|refine a0A rfl ?_|refine yO ?_|(refine yC ?_ ?_<;>intro hc)|(refine yV ?_;first|(refine oC 86 ?_;refine a1A (f:=86) rfl rfl rfl  (.pred (axA _ 5 .u8 xs)) (by intro u1 w e hu1;(try obtain rfl:u1=_:=hu1);exact (mlA _ _ xs (by first|exact hu1|exact hu2|exact hu3|exact hu4|exact hu5|exact OwnI.slI hu1|exact OwnI.slI hu2|exact OwnI.slI hu3|exact SlI.ext (by assumption) e|exact OwnI.slI (OwnI.ext (by assumption) e)) oZ).mono (a6A e.size)) ?_))|(refine yN hK ?_;clear hK K))|refine wG ?_|(refine yR ?_;intro K hK)|fail)
 refine bwA 0 rfl (λ v0 w0 e0 ho0=>?_)
 refine aaA (ι:=Nat × Int × List Int × Value) (λ i=>[(0,.val i.2.2.2),(1,.val (.int .u64 i.2.1)),(9,.val (.int .i64 size)),(10,.val (.int .i64 i.1))])
  (λ i w'=>Ext w w'∧i.1≤size∧0≤i.2.1∧OwnI w.heap.size 5 .u8 w' i.2.2.2 i.2.2.1∧i.2.2.1++leS i.2.1 (size-i.1)=xs++leS n size∧i.2.2.1.length=xs.length+i.1)
  (λ i=>size-i.1) (λ w2 e2=>⟨(0,n,xs,v0),⟨e0.trans e2,Nat.zero_le _,hn,OwnI.ext ho0 e2,rfl,rfl⟩,sZ⟩) ?_
 rintro ⟨k,m,ys,u⟩ w1 ⟨he,hk,hm,ho,heq,hlen⟩;dsimp only at hk hm ho heq hlen ⊢
 repeat' (first|(refine yL ?_;first|refine a0A rfl ?_|refine ftA rfl e5A rfl rfl ?_|(refine a3A (hK _ _ (dbA rfl dZ e5A rfl ho rfl oZ oZ he (λ v' w' he' ho'=>?_)));clear hK K;dsimp only [vals];refine abA kZ (λ K hK=>?_))|refine yO ?_|(refine yC ?_ ?_<;>intro hc)|(refine yN hK ?_;clear hK K))|refine wG ?_|(refine yR ?_;intro K hK)|fail)
 ·refine a4A (k+1,m / 256,ys++[IntKind.u8.wrap m],v') (λ w5 e5=>⟨he'.trans e5,by dsimp only;omega,by dsimp only;omega,ho'.ext e5,?_,by simp only [List.length_append,List.length_cons,List.length_nil];omega⟩) eZ sZ
  dsimp only;rw [← heq,show size-k=(size-(k+1))+1 by omega,leS,wrap8];simp
 ·obtain rfl:k=size:=oZ
  rw [Nat.sub_self,leS,List.append_nil] at heq;rw [← heq];exact aiA rfl rfl he (λ u2 w2 e2 hu=>by obtain rfl:u2=_:=hu;exact ho.ext e2)
theorem h5A (w:World) (v:Value) (xs:List Int) (n:Int) (h:SlI .u8 w v xs) (hb:xs.length≤70368744177000) (hn:0≤n) (hn':n<4294967296):Fc Tryz.prog 61 #[v,.int .u32 n] w (Ret w (.pred (axA w.heap.size 5 .u8 (xs++leS n 4)))):=by
 refine Fc.of (args:=[_,_]) Tryz.func61 rfl rfl Tryz.ntmps61 nZ ?_
 repeat' (first|(refine yL ?_;first|refine a0A rfl ?_|refine yO ?_|(refine yC ?_ ?_<;>intro hc)|(refine yV ?_;first|(refine oC 98 ?_;refine bcA (f:=98) rfl rfl rfl rfl rfl  (.pred (axA _ 5 .u8 (xs++leS n 4))) (by intro u1 u2 u3 w e hu1 hu2 hu3;(try obtain rfl:u1=_:=hu1);(try obtain rfl:u2=_:=hu2);(try obtain rfl:u3=_:=hu3);exact (mhA _ _ xs n 4 (by first|exact hu1|exact hu2|exact hu3|exact hu4|exact hu5|exact OwnI.slI hu1|exact OwnI.slI hu2|exact OwnI.slI hu3|exact SlI.ext (by assumption) e|exact OwnI.slI (OwnI.ext (by assumption) e)) oZ oZ hn).mono (a6A e.size)) ?_))|(refine yN hK ?_;clear hK K))|refine wG ?_|(refine yR ?_;intro K hK)|(refine oPX ?_;first|exact aiA rfl rfl (Ext.refl _) (λ u2 w2 e2 hu=>hu))|fail)
theorem d9A (w:World) (v:Value) (xs:List Int) (n:Int) (h:SlI .u8 w v xs) (hb:xs.length≤70368744177000) (hn:0≤n) (hn':n<65536):Fc Tryz.prog 62 #[v,.int .u16 n] w (Ret w (.pred (axA w.heap.size 5 .u8 (xs++leS n 2)))):=by
 refine Fc.of (args:=[_,_]) Tryz.func62 rfl rfl Tryz.ntmps62 nZ ?_
 repeat' (first|(refine yL ?_;first|refine a0A rfl ?_|refine yO ?_|(refine yC ?_ ?_<;>intro hc)|(refine yV ?_;first|(refine oC 98 ?_;refine bcA (f:=98) rfl rfl rfl rfl rfl  (.pred (axA _ 5 .u8 (xs++leS n 2))) (by intro u1 u2 u3 w e hu1 hu2 hu3;(try obtain rfl:u1=_:=hu1);(try obtain rfl:u2=_:=hu2);(try obtain rfl:u3=_:=hu3);exact (mhA _ _ xs n 2 (by first|exact hu1|exact hu2|exact hu3|exact hu4|exact hu5|exact OwnI.slI hu1|exact OwnI.slI hu2|exact OwnI.slI hu3|exact SlI.ext (by assumption) e|exact OwnI.slI (OwnI.ext (by assumption) e)) oZ oZ hn).mono (a6A e.size)) ?_))|(refine yN hK ?_;clear hK K))|refine wG ?_|(refine yR ?_;intro K hK)|(refine oPX ?_;first|exact aiA rfl rfl (Ext.refl _) (λ u2 w2 e2 hu=>hu))|fail)
theorem p1A (w:World) (v:Value) (xs:List Int) (n:Int) (h:SlI .u8 w v xs) (hb:xs.length≤70368744177000) (hn:0≤n) (hn':n<18446744073709551616):Fc Tryz.prog 104 #[v,.int .u64 n] w (Ret w (.pred (axA w.heap.size 5 .u8 (xs++leS n 8)))):=by
 refine Fc.of (args:=[_,_]) Tryz.func104 rfl rfl Tryz.ntmps104 nZ ?_
 repeat' (first|(refine yL ?_;first|refine a0A rfl ?_|refine yO ?_|(refine yC ?_ ?_<;>intro hc)|(refine yV ?_;first|(refine oC 98 ?_;refine bcA (f:=98) rfl rfl rfl rfl rfl  (.pred (axA _ 5 .u8 (xs++leS n 8))) (by intro u1 u2 u3 w e hu1 hu2 hu3;(try obtain rfl:u1=_:=hu1);(try obtain rfl:u2=_:=hu2);(try obtain rfl:u3=_:=hu3);exact (mhA _ _ xs n 8 (by first|exact hu1|exact hu2|exact hu3|exact hu4|exact hu5|exact OwnI.slI hu1|exact OwnI.slI hu2|exact OwnI.slI hu3|exact SlI.ext (by assumption) e|exact OwnI.slI (OwnI.ext (by assumption) e)) oZ oZ hn).mono (a6A e.size)) ?_))|(refine yN hK ?_;clear hK K))|refine wG ?_|(refine yR ?_;intro K hK)|(refine oPX ?_;first|exact aiA rfl rfl (Ext.refl _) (λ u2 w2 e2 hu=>hu))|fail)
def RdI (base:Nat) (w:World) (b:Nat) (sl:Value) (xs:List Int) (at_:Nat):Prop :=
 base≤b∧w.heap[b]?=some (.cells #[sl,.int .i64 at_,.bool false] 136 (0,0))∧OwnI base 5 .u8 w sl xs∧sl.ownBlock≠some b∧at_≤xs.length∧xs.length≤140737488355327
theorem zqA (a:Option Addr) (n c:Nat) (w:World):(Instr.build 136 #[(0,.slice a n c)]).run Tryz.prog w=.ok (.agg #[.slice a n c,.int .i64 0,.bool false]) w:=run_build w _ _ _ (by rfl)
theorem new_c (w:World) (v:Value) (xs:List Int) (h:SlI .u8 w v xs) (hb:xs.length≤140737488355327):Fc Tryz.prog 49 #[v] w (λ e w'=>∃ b sl,e=.returned (.pointer (some ⟨b,0,none⟩))∧Ext w w'∧RdI w.heap.size w' b sl xs 0):=by
 refine Fc.of (args:=[_]) Tryz.func49 rfl rfl Tryz.ntmps49 nZ ?_
 repeat' (first|(refine yL ?_;first|refine a0A rfl ?_|(refine a3A (hK _ _ (awA 4 rfl (λ v4 w4 e4 h4=>?_)));clear hK K;have h4:OwnI w.heap.size _ _ w4 v4 xs:=h4;obtain ⟨a,c,rfl⟩:=(OwnI.slI h4).isSlice;refine abA kZ (λ K hK=>?_))|refine ezA rfl rfl (zqA a xs.length c) ?_|refine j3A rfl rfl ?_|refine yO ?_|(refine yC ?_ ?_<;>intro hc)|(refine yV ?_;first|(refine oC 86 ?_;refine a1A (f:=86) rfl rfl rfl  (.pred (axA _ 5 .u8 xs)) (by intro u1 w e hu1;(try obtain rfl:u1=_:=hu1);exact (mlA _ _ xs (by first|exact hu1|exact hu2|exact hu3|exact hu4|exact hu5|exact OwnI.slI hu1|exact OwnI.slI hu2|exact OwnI.slI hu3|exact SlI.ext (by assumption) e|exact OwnI.slI (OwnI.ext (by assumption) e)) oZ).mono (a6A e.size)) ?_))|(refine yN hK ?_;clear hK K))|refine wG ?_|(refine yR ?_;intro K hK)|fail)
 refine cbA rfl (λ v5 w5 e5 h5=>?_);obtain ⟨b,hb0,rfl,hb1⟩:=h5;have h6:=OwnI.ext h4 e5;exact ⟨b,_,rfl,e4.trans e5,Nat.le_trans e4.size hb0,hb1,h6,λ q=>by have:=(Own.lt h4 b q).2;omega,Nat.zero_le _,hb⟩
theorem ztA (w:World) (b:Nat) (sl:Value) (at_:Int) (hb:w.heap[b]?=some (.cells #[sl,.int .i64 at_,.bool false] 136 (0,0))):Fc Tryz.prog 123 #[.pointer (some ⟨b,0,none⟩)] w (Ret w (.val (.bool false))):=by
 refine Fc.of (args:=[_]) Tryz.func123 rfl rfl Tryz.ntmps123 nZ ?_
 repeat' (first|(refine yL ?_;first|refine a0A rfl ?_|refine bsA (c:=.bool false) rfl rfl rfl (λ _=>rfl) ?_|refine a8A rfl rfl ?_|refine a2A (a':=⟨b,2,none⟩) rfl rfl (λ _=>rfl) ?_|refine a7A (c:=.bool false) rfl (λ _=>rfl) rfl hb rfl ?_|refine yO ?_|(refine yC ?_ ?_<;>intro hc)|(refine yN hK ?_;clear hK K))|refine wG ?_|(refine yR ?_;intro K hK)|(refine oPX ?_;first|exact ajA rfl rfl (Ext.refl _) rfl)|fail)
theorem vpA (w:World) (b:Nat) (sl:Value) (xs:List Int) (at_:Nat) (hb:w.heap[b]?=some (.cells #[sl,.int .i64 at_,.bool false] 136 (0,0))) (hs:SlI .u8 w sl xs) (ha:at_≤xs.length):Fc Tryz.prog 88 #[.pointer (some ⟨b,0,none⟩)] w (Ret w (.val (.int .i64 (xs.length-at_:Int)))):=by
 have hl:=hs.len;refine Fc.of (args:=[_]) Tryz.func88 rfl rfl Tryz.ntmps88 nZ ?_
 repeat' (first|(refine yL ?_;first|refine a0A rfl ?_|refine a8A rfl rfl ?_|refine a2A (a':=⟨b,0,none⟩) rfl rfl (λ _=>rfl) ?_|refine a2A (a':=⟨b,1,none⟩) rfl rfl (λ _=>rfl) ?_|refine a7A (c:=sl) rfl (λ _=>rfl) rfl hb rfl ?_|refine a7A (c:=.int .i64 at_) rfl (λ _=>rfl) rfl hb rfl ?_|refine yO ?_|(refine yC ?_ ?_<;>intro hc)|(refine yV ?_;first|(refine oC 123 ?_;refine a1A (f:=123) rfl rfl rfl  (.val (.bool false)) (by intro u1 w e hu1;(try obtain rfl:u1=_:=hu1);exact ztA _ b sl at_ (e.block hb)) ?_))|(refine yN hK ?_;clear hK K))|refine wG ?_|(refine yR ?_;intro K hK)|(refine oPX ?_;first|exact ajA rfl rfl (Ext.refl _) rfl)|fail)
theorem veA (w:World) (base b:Nat) (sl:Value) (xs:List Int) (at_ n:Nat) (h:RdI base w b sl xs at_) (hn:at_+n≤xs.length) :
 Fc Tryz.prog 122 #[.pointer (some ⟨b,0,none⟩),.int .i64 n] w (λ e w'=>∃ sub,e=.returned sub∧RdI base w' b sl xs (at_+n)∧w.grownBy w' (some b)∧SlI .u8 w' sub ((xs.take (at_+n)).drop at_)):=by
 obtain ⟨h0,hb,ho,hne,ha,hl⟩:=h;have hs:=OwnI.slI ho;refine Fc.of (args:=[_,_]) Tryz.func122 rfl rfl Tryz.ntmps122 nZ ?_
 repeat' (first|(refine yL ?_;first|refine a0A rfl ?_|refine a8A rfl rfl ?_|refine a2A (a':=⟨b,0,none⟩) rfl rfl (λ _=>rfl) ?_|refine a2A (a':=⟨b,1,none⟩) rfl rfl (λ _=>rfl) ?_|refine a7A (c:=sl) rfl (λ _=>rfl) rfl hb rfl ?_|refine a7A (c:=.int .i64 at_) rfl (λ _=>rfl) rfl hb rfl ?_|(refine a3A (hK _ _ (bhA rfl rfl rfl hb (λ _=>rfl) (Nat.lt_succ_of_lt (Nat.lt_succ_self 1)) rfl rfl (λ w4 e4=>?_)));clear hK K;have hb2:=setRow_heap w4 b _ (#[sl,.int .i64 at_,.bool false].setIfInBounds 1 (.int .i64 ((at_:Int)+n))) _ (0,0) (e4.block hb);have ho2:=Own.setRow (Own.ext ho e4) (#[sl,.int .i64 at_,.bool false].setIfInBounds 1 (.int .i64 ((at_:Int)+n))) hne;have hs2:=OwnI.slI ho2;dsimp only [vals];refine abA kZ (λ K hK=>?_))|refine a7A (c:=sl) rfl (λ _=>rfl) rfl hb2 rfl ?_|refine a7A (c:=.int .i64 ((at_:Int)+n)) rfl (λ _=>rfl) rfl hb2 rfl ?_|refine yO ?_|(refine yC ?_ ?_<;>intro hc)|(refine yV ?_;first|(refine oC 123 ?_;refine a1A (f:=123) rfl rfl rfl  (.val (.bool false)) (by intro u1 w e hu1;(try obtain rfl:u1=_:=hu1);exact ztA _ b sl at_ (e.block hb)) ?_)|(refine oC 88 ?_;refine a1A (f:=88) rfl rfl rfl  (.val (.int .i64 (xs.length-at_:Int))) (by intro u1 w e hu1;(try obtain rfl:u1=_:=hu1);exact vpA _ b sl xs at_ (e.block hb) (hs.ext e) ha) ?_))|(refine yN hK ?_;clear hK K))|refine wG ?_|(refine yR ?_;intro K hK)|fail)
 refine cbA rfl (λ v5 w5 e5 h5=>?_);obtain rfl:v5=_:=h5;have hss:=SlI.sub hs2 (l:=at_) (h:=at_+n) oZ hn;refine ⟨_,rfl,⟨h0,e5.block hb2,ho2.ext e5,hne,hn,hl⟩,⟨e5.os.trans e4.os,e5.tape.trans e4.tape,e5.output.trans e4.output,?_,λ k hk hne'=>?_⟩,?_⟩
 ·have h6:=e5.size;have h7:=e4.size;simp at h6;omega
 ·rw [Below.block e5 k (by have h7:=e4.size;simp;omega),setRow_other _ _ _ _ (λ q=>hne' (by rw [q])),Below.block e4 k hk]
 ·rw [show ((at_:Int)+n-n).toNat=at_ by omega,show ((at_:Int)+n).toNat=at_+n by omega]
  exact hss.ext e5
theorem wuA (k:Nat) (hk:k<8) (a x:Int) (ha:0≤a) (ha':a<256 ^ k) (hx:0≤x) (hx':x<256):bits .or .u64 a (IntKind.u64.wrap (x*2 ^ (8*(k:Int)).toNat))=a+x*256 ^ k:=by
 obtain ⟨a,rfl⟩:=Int.eq_ofNat_of_zero_le ha;obtain ⟨x,rfl⟩:=Int.eq_ofNat_of_zero_le hx;have e1:(8*(k:Int)).toNat=8*k:=oZ;rw [e1];have e2:(256:Nat) ^ k=2 ^ (8*k):=by rw [Nat.pow_mul]
 have e3:(256:Int) ^ k=((2 ^ (8*k):Nat):Int):=by rw [← e2];exact (Int.natCast_pow 256 k).symm
 have e4:(2:Int) ^ (8*k)=((2 ^ (8*k):Nat):Int):=(Int.natCast_pow 2 (8*k)).symm;rw [e3] at ha' ⊢;rw [e4];have ha2:a<2 ^ (8*k):=oZ;have hx2:x<256:=oZ;have hle:2 ^ (8*k)≤2 ^ 56:=Nat.pow_le_pow_right oZ oZ;have hm:x*2 ^ (8*k)≤255*2 ^ 56:=Nat.mul_le_mul oZ hle;rw [← Int.natCast_mul];have hw:IntKind.u64.wrap ((x*2 ^ (8*k):Nat):Int)=((x*2 ^ (8*k):Nat):Int):=by rw [IntKind.wrap_u64];omega
 rw [hw,bits_or_u64_nat _ _ oZ oZ];have:=Nat.shiftLeft_add_eq_or_of_lt ha2 x;rw [Nat.shiftLeft_eq] at this;rw [Nat.or_comm,← this];omega
theorem RdI.ext {base b at_:Nat} {w w':World} {sl:Value} {xs:List Int} (h:RdI base w b sl xs at_) (e:Ext w w'):RdI base w' b sl xs at_ :=
 ⟨h.1,e.block h.2.1,h.2.2.1.ext e,h.2.2.2⟩
theorem k9A (w:World) (base b:Nat) (sl:Value) (xs:List Int) (at_ n:Nat) (h:RdI base w b sl xs at_) (hn:at_+n≤xs.length) (hn8:n≤8) (hx:∀ x ∈ xs,0≤x∧x<256) :
 Fc Tryz.prog 89 #[.pointer (some ⟨b,0,none⟩),.int .i64 n] w (λ e w'=>e=.returned (.int .u64 (j7A ((xs.take (at_+n)).drop at_)))∧RdI base w' b sl xs (at_+n)∧w.grownBy w' (some b)):=by
 refine Fc.of (args:=[_,_]) Tryz.func89 rfl rfl Tryz.ntmps89 nZ ?_
 repeat' (first|(refine yL ?_;first|refine a0A rfl ?_|(refine a3A (hK _ _ (g0A rfl dZ rfl rfl rfl (λ sub w'=>RdI base w' b sl xs (at_+n)∧w.grownBy w' (some b)∧SlI .u8 w' sub ((xs.take (at_+n)).drop at_)) (λ w2 e2=>(veA w2 base b sl xs at_ n (h.ext e2) hn).mono (λ en w' ⟨sub,h1,h2,h3,h4⟩=>⟨sub,h1,h2,aoA e2 h3,h4⟩)) (λ sub w3 hr=>?_)));clear hK K;obtain ⟨hr1,hr2,hr3⟩:=hr;dsimp only [vals];refine abA kZ (λ K hK=>?_))|refine yO ?_|(refine yC ?_ ?_<;>intro hc)|(refine yN hK ?_;clear hK K))|refine wG ?_|(refine yR ?_;intro K hK)|fail)
 have hyl:((xs.take (at_+n)).drop at_).length=n:=by simp;omega
 have hyx:∀ x ∈ (xs.take (at_+n)).drop at_,0≤x∧x<256:=λ x hx'=>hx x (List.mem_of_mem_take (List.mem_of_mem_drop hx'))
 generalize (xs.take (at_+n)).drop at_=ys at *
 refine ciA (ι:=Nat) (λ k=>[(4,.val (.int .u64 (j7A (ys.take k)))),(9,.val sub),(10,.val (.int .i64 ys.length)),(11,.val (.int .i64 k))]) (λ k=>k≤ys.length) (λ k=>ys.length-k) 0 (Nat.zero_le _) sZ ?_
 intro k hk;have hyk:k<ys.length→0≤ys.getD k 0∧ys.getD k 0<256:=λ h=>by
  rw [show ys.getD k 0=ys[k] by simp [List.getD,List.getElem?_eq_getElem h]];exact hyx _ (List.getElem_mem h)
 repeat' (first|(refine yL ?_;first|refine a0A rfl ?_|refine chA (.inr (.inl rfl)) rfl rfl rfl ?_|refine yO ?_|(refine yC ?_ ?_<;>intro hc)|(refine yN hK ?_;clear hK K))|refine wG ?_|(refine yR ?_;intro K hK)|fail)
 ·have h1:=i0A (ys.take k) (λ x hx'=>hyx x (List.mem_of_mem_take hx'))
  have h2:(ys.take k).length=k:=by simp;omega
  have h3:=hyk oZ;rw [h2] at h1;have h4:=wuA k oZ (j7A (ys.take k)) (ys.getD k 0) h1.1 h1.2 h3.1 h3.2;have h5:=mvA (ys.take k) (ys.getD k 0);rw [h2,← h4,show ys.getD k 0=ys[k] by simp [List.getD,List.getElem?_eq_getElem (by omega:k<ys.length)],← List.take_succ_eq_append_getElem oZ] at h5;refine czA (k+1) oZ oZ (Sub.val rfl ?_ sZ);rw [h5];simp [List.getD,List.getElem?_eq_getElem (by omega:k<ys.length)]
 ·obtain rfl:k=ys.length:=oZ
  refine cbA rfl (λ v5 w5 e5 h5=>?_);obtain rfl:v5=_:=h5;rw [List.take_length];exact ⟨rfl,hr1.ext e5,amA hr2 e5⟩
theorem u16_c (w:World) (base b:Nat) (sl:Value) (xs:List Int) (at_:Nat) (h:RdI base w b sl xs at_) (hn:at_+2≤xs.length) (hx:∀ x ∈ xs,0≤x∧x<256) :
 Fc Tryz.prog 52 #[.pointer (some ⟨b,0,none⟩)] w (λ e w'=>e=.returned (.int .u16 (j7A ((xs.take (at_+2)).drop at_)))∧RdI base w' b sl xs (at_+2)∧w.grownBy w' (some b)):=by
 have hyl:((xs.take (at_+2)).drop at_).length=2:=by simp;omega
 have hv:=i0A ((xs.take (at_+2)).drop at_) (λ x hx'=>hx x (List.mem_of_mem_take (List.mem_of_mem_drop hx')));rw [hyl] at hv;refine Fc.of (args:=[_]) Tryz.func52 rfl rfl Tryz.ntmps52 nZ ?_
 repeat' (first|(refine yL ?_;first|refine a0A rfl ?_|(refine a3A (hK _ _ (g0A rfl dZ rfl rfl rfl (λ v w'=>v=.int .u64 (j7A ((xs.take (at_+2)).drop at_))∧RdI base w' b sl xs (at_+2)∧w.grownBy w' (some b)) (λ w2 e2=>(k9A w2 base b sl xs at_ 2 (h.ext e2) hn oZ hx).mono (λ en w' ⟨h1,h2,h3⟩=>⟨_,h1,rfl,h2,aoA e2 h3⟩)) (λ sub w3 hr=>?_)));clear hK K;obtain ⟨rfl,hr1,hr2⟩:=hr;dsimp only [vals];refine abA kZ (λ K hK=>?_))|refine yO ?_|(refine yC ?_ ?_<;>intro hc)|(refine yN hK ?_;clear hK K))|refine wG ?_|(refine yR ?_;intro K hK)|fail)
 refine cbA rfl (λ v5 w5 e5 h5=>?_);obtain rfl:v5=_:=h5;exact ⟨rfl,hr1.ext e5,amA hr2 e5⟩
theorem u32_c (w:World) (base b:Nat) (sl:Value) (xs:List Int) (at_:Nat) (h:RdI base w b sl xs at_) (hn:at_+4≤xs.length) (hx:∀ x ∈ xs,0≤x∧x<256) :
 Fc Tryz.prog 54 #[.pointer (some ⟨b,0,none⟩)] w (λ e w'=>e=.returned (.int .u32 (j7A ((xs.take (at_+4)).drop at_)))∧RdI base w' b sl xs (at_+4)∧w.grownBy w' (some b)):=by
 have hyl:((xs.take (at_+4)).drop at_).length=4:=by simp;omega
 have hv:=i0A ((xs.take (at_+4)).drop at_) (λ x hx'=>hx x (List.mem_of_mem_take (List.mem_of_mem_drop hx')));rw [hyl] at hv;refine Fc.of (args:=[_]) Tryz.func54 rfl rfl Tryz.ntmps54 nZ ?_
 repeat' (first|(refine yL ?_;first|refine a0A rfl ?_|(refine a3A (hK _ _ (g0A rfl dZ rfl rfl rfl (λ v w'=>v=.int .u64 (j7A ((xs.take (at_+4)).drop at_))∧RdI base w' b sl xs (at_+4)∧w.grownBy w' (some b)) (λ w2 e2=>(k9A w2 base b sl xs at_ 4 (h.ext e2) hn oZ hx).mono (λ en w' ⟨h1,h2,h3⟩=>⟨_,h1,rfl,h2,aoA e2 h3⟩)) (λ sub w3 hr=>?_)));clear hK K;obtain ⟨rfl,hr1,hr2⟩:=hr;dsimp only [vals];refine abA kZ (λ K hK=>?_))|refine yO ?_|(refine yC ?_ ?_<;>intro hc)|(refine yN hK ?_;clear hK K))|refine wG ?_|(refine yR ?_;intro K hK)|fail)
 refine cbA rfl (λ v5 w5 e5 h5=>?_);obtain rfl:v5=_:=h5;exact ⟨rfl,hr1.ext e5,amA hr2 e5⟩
theorem u64_c (w:World) (base b:Nat) (sl:Value) (xs:List Int) (at_:Nat) (h:RdI base w b sl xs at_) (hn:at_+8≤xs.length) (hx:∀ x ∈ xs,0≤x∧x<256) :
 Fc Tryz.prog 125 #[.pointer (some ⟨b,0,none⟩)] w (λ e w'=>e=.returned (.int .u64 (j7A ((xs.take (at_+8)).drop at_)))∧RdI base w' b sl xs (at_+8)∧w.grownBy w' (some b)):=by
 have hyl:((xs.take (at_+8)).drop at_).length=8:=by simp;omega
 have hv:=i0A ((xs.take (at_+8)).drop at_) (λ x hx'=>hx x (List.mem_of_mem_take (List.mem_of_mem_drop hx')));rw [hyl] at hv;refine Fc.of (args:=[_]) Tryz.func125 rfl rfl Tryz.ntmps125 nZ ?_
 repeat' (first|(refine yL ?_;first|refine a0A rfl ?_|(refine a3A (hK _ _ (g0A rfl dZ rfl rfl rfl (λ v w'=>v=.int .u64 (j7A ((xs.take (at_+8)).drop at_))∧RdI base w' b sl xs (at_+8)∧w.grownBy w' (some b)) (λ w2 e2=>(k9A w2 base b sl xs at_ 8 (h.ext e2) hn oZ hx).mono (λ en w' ⟨h1,h2,h3⟩=>⟨_,h1,rfl,h2,aoA e2 h3⟩)) (λ sub w3 hr=>?_)));clear hK K;obtain ⟨rfl,hr1,hr2⟩:=hr;dsimp only [vals];refine abA kZ (λ K hK=>?_))|refine yO ?_|(refine yC ?_ ?_<;>intro hc)|(refine yN hK ?_;clear hK K))|refine wG ?_|(refine yR ?_;intro K hK)|fail)
 refine cbA rfl (λ v5 w5 e5 h5=>?_);obtain rfl:v5=_:=h5;exact ⟨rfl,hr1.ext e5,amA hr2 e5⟩
theorem jhA (w:World) (base b:Nat) (sl:Value) (xs:List Int) (at_:Nat) (n:Int) (h:RdI base w b sl xs at_) (hx:∀ x ∈ xs,0≤x∧x<256) (hA:AtB xs at_ (leS n 2)) (h0:0≤n) (h1:n<65536) :
 Fc Tryz.prog 52 #[.pointer (some ⟨b,0,none⟩)] w (λ e w'=>e=.returned (.int .u16 n)∧RdI base w' b sl xs (at_+2)∧w.grownBy w' (some b)):=by
 have hle:=hA.le;rw [akA] at hle;have:=u16_c w base b sl xs at_ h hle hx;rw [o0A hA (akA _ _),hjA 2 n h0 (by simpa using h1)] at this;exact this
theorem mxA (w:World) (base b:Nat) (sl:Value) (xs:List Int) (at_:Nat) (n:Int) (h:RdI base w b sl xs at_) (hx:∀ x ∈ xs,0≤x∧x<256) (hA:AtB xs at_ (leS n 4)) (h0:0≤n) (h1:n<4294967296) :
 Fc Tryz.prog 54 #[.pointer (some ⟨b,0,none⟩)] w (λ e w'=>e=.returned (.int .u32 n)∧RdI base w' b sl xs (at_+4)∧w.grownBy w' (some b)):=by
 have hle:=hA.le;rw [akA] at hle;have:=u32_c w base b sl xs at_ h hle hx;rw [o0A hA (akA _ _),hjA 4 n h0 (by simpa using h1)] at this;exact this
theorem yoA (w:World) (base b:Nat) (sl:Value) (xs:List Int) (at_:Nat) (n:Int) (h:RdI base w b sl xs at_) (hx:∀ x ∈ xs,0≤x∧x<256) (hA:AtB xs at_ (leS n 8)) (h0:0≤n) (h1:n<18446744073709551616) :
 Fc Tryz.prog 125 #[.pointer (some ⟨b,0,none⟩)] w (λ e w'=>e=.returned (.int .u64 n)∧RdI base w' b sl xs (at_+8)∧w.grownBy w' (some b)):=by
 have hle:=hA.le;rw [akA] at hle;have:=u64_c w base b sl xs at_ h hle hx;rw [o0A hA (akA _ _),hjA 8 n h0 (by simpa using h1)] at this;exact this
theorem at_c (w:World) (b:Nat) (sl:Value) (at_:Nat) (hb:w.heap[b]?=some (.cells #[sl,.int .i64 at_,.bool false] 136 (0,0))):Fc Tryz.prog 55 #[.pointer (some ⟨b,0,none⟩)] w (Ret w (.val (.int .i64 at_))):=by
 refine Fc.of (args:=[_]) Tryz.func55 rfl rfl Tryz.ntmps55 nZ ?_
 repeat' (first|(refine yL ?_;first|refine a0A rfl ?_|refine bsA (c:=.bool false) rfl rfl rfl (λ _=>rfl) ?_|refine a8A rfl rfl ?_|refine a2A (a':=⟨b,1,none⟩) rfl rfl (λ _=>rfl) ?_|refine a7A (c:=.int .i64 at_) rfl (λ _=>rfl) rfl hb rfl ?_|refine yO ?_|(refine yC ?_ ?_<;>intro hc)|(refine yN hK ?_;clear hK K))|refine wG ?_|(refine yR ?_;intro K hK)|(refine oPX ?_;first|exact ajA rfl rfl (Ext.refl _) rfl)|fail)
end Go.Proofs.YtbokphkfojijoaaGreatDoor.Pt
end
section
namespace Go.Proofs.YtbokphkfojijoaaGreatDoor.Pt
open Go.LA Go.ArrP Go.RowKit
def luA (r:Rn):List Int:=leS r.1 2++leS r.2 2
def cfA (q:Nat→Bool) (f:Bool):List Int:=if f then leS (alA q).length 2++flG luA (alA q) else if cnt q 65536≤4096 then flG (λ x=>leS x 2) (aeA q 65536) else flG (λ x=>leS x 8) (wordsOf q)
def m2A (q:Nat→Bool) (f:Bool):Nat:=if f then 2+4*(alA q).length else if cnt q 65536≤4096 then 2*cnt q 65536 else 8192
theorem ghA (r:Rn):(luA r).length=4:=by simp [luA,akA]
theorem iuA (q:Nat→Bool) (f:Bool):(cfA q f).length=m2A q f:=by
 unfold cfA m2A;cases f
 ·simp only [Bool.false_eq_true,if_false]
  split
  ·rw [csA _ (λ x=>akA x 2),ayA];omega
  ·rw [csA _ (λ x=>akA x 8),aqA]
 ·simp only [if_true]
  rw [List.length_append,akA,csA _ ghA];omega
theorem p0A (q:Nat→Bool) (f:Bool):∀ x ∈ cfA q f,0≤x∧x<256:=by
 intro x hx;unfold cfA at hx
 split at hx
 ·rcases List.mem_append.1 hx with h|h
  ·exact e9A _ _ x h
  ·obtain ⟨r,-,h⟩:=mfA _ _ h
   rcases List.mem_append.1 h with h|h <;> exact e9A _ _ x h
 ·split at hx <;> (obtain ⟨r,-,h⟩:=mfA _ _ hx;exact e9A _ _ x h)
noncomputable def isR (q:Nat→Bool):Bool:=decide (apA q=3)
theorem i3A {s:Nat→Bool} (h:∀ i,s (i+1)=true→s i=false):∀ T,cnt s T≤(T+1) / 2∧cnt s (T+1)≤(T+2) / 2
 | 0=>by refine ⟨Nat.zero_le _,?_⟩;simp only [cnt];split <;> omega
 | T+1=>by
   obtain ⟨h1,h2⟩:=i3A h T;refine ⟨h2,?_⟩;have h3:=h T;simp only [cnt] at h2 ⊢;cases e1:s (T+1)
   ·simp only [Bool.false_eq_true,if_false];omega
   ·rw [h3 e1] at h2 ⊢
    simp only [Bool.false_eq_true,if_false,if_true] at h2 ⊢;omega
theorem ggA (q:Nat→Bool):(alA q).length≤32768:=by
 have hm:(alA q).length=cnt (arA q) 65536:=dwA q 65536;have:=(i3A (s:=arA q) (λ i hi=>by
  unfold arA at hi ⊢;cases hq:q i <;> simp_all [bel]) 65536).1
 omega
theorem waA (q:Nat→Bool):prA q (apA q)=(m2A q (isR q):Nat):=by
 have hm:(alA q).length=cnt (arA q) 65536:=dwA q 65536;unfold prA m2A isR
 by_cases h3:apA q=3
 ·rw [h3,decide_eq_true rfl,if_neg dZ,if_pos rfl,if_pos rfl,hm];omega
 ·rw [decide_eq_false h3,if_neg (by decide:¬ false=true)]
  have hk:apA q=if cnt q 65536≤4096 then 1 else 2:=by
   unfold apA at h3 ⊢
   split
   ·rename_i h;exact absurd (if_pos h) h3
   ·rfl
  rw [hk]
  by_cases hc:cnt q 65536≤4096
  ·rw [if_pos hc,if_neg dZ,if_neg dZ,if_pos hc];omega
  ·rw [if_neg hc,if_pos rfl,if_neg hc];rfl
def dtA (f:Nat→Bool):Nat→Bool
 | 0=>false
 | n+1=>dtA f n || f n
def fB (f:Nat→Bool):Nat→Nat
 | 0=>0
 | n+1=>fB f n+if f n then 2 ^ n else 0
theorem miA (f:Nat→Bool):∀ n,fB f n<2 ^ n
 | 0=>Nat.one_pos
 | n+1=>by
   have:=miA f n;simp only [fB,Nat.pow_succ]
   split <;> omega
theorem ziA (f:Nat→Bool):∀ n i,i<n→fB f n / 2 ^ i % 2=if f i then 1 else 0
 | 0,i,h=>absurd h (Nat.not_lt_zero _)
 | n+1,i,h=>by
   by_cases e:i=n
   ·subst e
    have h1:=miA f i;simp only [fB]
    split
    ·rw [Nat.add_div_right _ (Nat.two_pow_pos i),Nat.div_eq_of_lt h1]
    ·rw [Nat.add_zero,Nat.div_eq_of_lt h1]
   ·have h2:=ziA f n i oZ
    simp only [fB]
    split
    ·rename_i hf
     obtain ⟨d,hd⟩:∃ d,n=i+(d+1):=⟨n-i-1,by omega⟩;have e2:2 ^ n=2 ^ i*(2*2 ^ d):=by rw [hd,Nat.pow_add,Nat.pow_succ,Nat.mul_comm (2 ^ d) 2]
     rw [e2,Nat.add_mul_div_left _ _ (Nat.two_pow_pos i),Nat.add_mul_mod_self_left];exact h2
    ·rw [Nat.add_zero];exact h2
theorem o8A (f:Nat→Bool):∀ n,dtA f n=true↔∃ i,i<n∧f i=true
 | 0=>by simp [dtA]
 | n+1=>by
   simp only [dtA,Bool.or_eq_true,o8A f n]
   constructor
   ·rintro (⟨i,h1,h2⟩|h)
    ·exact ⟨i,by omega,h2⟩
    ·exact ⟨n,Nat.lt_succ_self n,h⟩
   ·rintro ⟨i,h1,h2⟩
    by_cases e:i=n
    ·subst e;exact .inr h2
    ·exact .inl ⟨i,by omega,h2⟩
def e2A (n:Nat) (some:Bool):Nat:=if some then (if n<4 then 4+(n+7) / 8+4*n else 4+(n+7) / 8+8*n) else 8+8*n
def caA (n:Nat) (f:Nat→Bool):List Int:=if dtA f n then leS 12347 2++(leS (n-1:Nat) 2++[(fB f n:Int)]) else leS 12346 4++leS n 4
noncomputable def drA (p:Nat→Bool) (i:Nat):List Int:=leS (kp p i) 2++leS (cnt (blk p (kp p i)) 65536-1:Nat) 2
noncomputable def d2A (p:Nat→Bool) (f:Nat→Bool) (i:Nat):List Int:=cfA (blk p (kp p i)) (f i)
noncomputable def gvA (p:Nat→Bool) (f:Nat→Bool) (i:Nat):List Int:=leS (e2A (nk p) (dtA f (nk p))+(c0A (d2A p f) i).length:Nat) 4
noncomputable def d0A (p:Nat→Bool) (f:Nat→Bool):List Int:=if dtA f (nk p)=true∧nk p<4 then [] else c0A (gvA p f) (nk p)
noncomputable def hnA (p:Nat→Bool) (f:Nat→Bool):List Int:=caA (nk p) f++(c0A (drA p) (nk p)++(d0A p f++c0A (d2A p f) (nk p)))
noncomputable def c1A (p:Nat→Bool) (i:Nat):Bool:=isR (blk p (kp p i))
noncomputable def lfA (p:Nat→Bool):List Int:=hnA p (c1A p)
theorem f6A (p:Nat→Bool) (i:Nat):(drA p i).length=4:=by simp [drA,akA]
theorem fhA (p f:Nat→Bool) (i:Nat):(gvA p f i).length=4:=by simp [gvA,akA]
theorem hrA {n:Nat} {f:Nat→Bool} (hn:n≤8) (h0:dtA f n=true→0<n):(caA n f).length=if dtA f n then 4+(n+7) / 8 else 8:=by
 unfold caA
 by_cases h:dtA f n=true
 ·have:=h0 h
  rw [if_pos h,if_pos h];simp only [List.length_append,akA,List.length_cons,List.length_nil];omega
 ·rw [if_neg h,if_neg h]
  simp only [List.length_append,akA]
theorem gbA {n:Nat} {f:Nat→Bool} (h:dtA f n=true):0<n:=by
 obtain ⟨i,h1,-⟩:=(o8A f n).1 h;omega
theorem hpA {p f:Nat→Bool} (hn:nk p≤8):(caA (nk p) f).length+(c0A (drA p) (nk p)).length+(d0A p f).length=e2A (nk p) (dtA f (nk p)):=by
 rw [hrA hn gbA,cjA _ (λ i _=>f6A p i)];unfold d0A e2A
 by_cases h:dtA f (nk p)=true
 ·have:=gbA h
  rw [if_pos h,if_pos h]
  by_cases h4:nk p<4
  ·rw [if_pos ⟨h,h4⟩,if_pos h4];simp;omega
  ·rw [if_neg (λ hh=>h4 hh.2),if_neg h4,cjA _ (λ i _=>fhA p f i)];omega
 ·rw [if_neg h,if_neg h,if_neg (λ hh=>h hh.1),cjA _ (λ i _=>fhA p f i)];omega
theorem itA (q:Nat→Bool) (f:Bool):(cfA q f).length≤131074:=by
 rw [iuA];unfold m2A;have:=ggA q
 split
 ·omega
 ·split <;> omega
theorem gaA (p f:Nat→Bool) (n:Nat):(c0A (d2A p f) n).length≤n*131074:=riA n (λ i _=>itA _ _)
theorem qxA {p f:Nat→Bool} (hn:nk p≤8):(hnA p f).length=e2A (nk p) (dtA f (nk p))+(c0A (d2A p f) (nk p)).length:=by
 have:=hpA (f:=f) hn;unfold hnA;simp only [List.length_append];omega
theorem tvA {p f:Nat→Bool} (hn:nk p≤8):∀ x ∈ hnA p f,0≤x∧x<256:=by
 intro x hx;unfold hnA at hx
 rcases List.mem_append.1 hx with h|h
 ·unfold caA at h
  split at h
  ·rcases List.mem_append.1 h with h|h
   ·exact e9A _ _ x h
   ·rcases List.mem_append.1 h with h|h
    ·exact e9A _ _ x h
    ·rw [List.mem_singleton] at h
     have h1:=miA f (nk p);have h2:2 ^ nk p≤2 ^ 8:=Nat.pow_le_pow_right dZ hn;omega
  ·rcases List.mem_append.1 h with h|h <;> exact e9A _ _ x h
 ·rcases List.mem_append.1 h with h|h
  ·obtain ⟨i,-,h⟩:=hsA _ h
   rcases List.mem_append.1 h with h|h <;> exact e9A _ _ x h
  ·rcases List.mem_append.1 h with h|h
   ·unfold d0A at h
    split at h
    ·cases h
    ·obtain ⟨i,-,h⟩:=hsA _ h
     exact e9A _ _ x h
   ·obtain ⟨i,-,h⟩:=hsA _ h
    exact p0A _ _ x h
end Go.Proofs.YtbokphkfojijoaaGreatDoor.Pt
end
section
namespace Go.LA
open Go.RowKit
section
variable {P:Program} {wb:World} {E:Env} {t:TypeId}
theorem knA {kN:Nat} {fn:Func} {R:Ending→World→Prop} {p u n b:Nat} {cs:Array Value} {e:TypeId} {dsc:TypeDesc} (hr:fn.results=#[.cell p t,.tmp u]) (hl:lkE E p=.val (.pointer (some ⟨b,0,none⟩))) (hb:wb.heap[b]?=some (.cells cs e (0,0))) (hn:cs.size=n)
 (hu:P.underlying t=some dsc) (hd:(match dsc with|.struct _|.array _ _=>true|_=>false)=true) (hi:(P.info? t).map (·.size)=some n)
 (hc:∀ w,Ext wb w→∀ u2,(lkE E u).ok u2 w→R (.returned (.tuple #[.agg cs,u2])) w):PX ⟨kN,[]⟩ wb (bodyPost P fn R) .ret E:=by
 unfold PX;intro a w st;have h1:=st.sat p;rw [hl] at h1;simp only [AD.ok] at h1;have hv':a.tmps[p]?.getD undef=.pointer (some ⟨b,0,none⟩):=by simpa using h1
 have hrun:(results fn a.tmps).run P w=.ok (.tuple #[.agg cs,a.tmps.getD u undef]) w:=by
  simp [results,hr,hv',asAddr,run_loadVar_row w b e t cs (0,0) dsc (st.ext.block hb) hu hd (by rw [hn];exact hi)]
 exact ⟨st.df,_,hrun,hc w st.ext _ (st.sat u)⟩
theorem ioA:∀ n,cmA (List.replicate n ((0,0):Rn))=List.replicate (n*2) (Value.int .u16 0)
 | 0=>rfl
 | n+1=>by
   rw [List.replicate_succ,show (n+1)*2=n*2+1+1 by omega,List.replicate_succ,List.replicate_succ,← ioA n];rfl
theorem qhA (n:Nat):(madeCells (Value.agg #[.int .u16 0,.int .u16 0]).cells (n*2)).toList=cmA (List.replicate n ((0,0):Rn)):=by
 rw [ioA];refine List.ext_getElem (by simp [madeCells]) λ i h1 h2=>?_
 have h3:i % 2=0∨i % 2=1:=oZ
 rcases h3 with h3|h3 <;> simp [madeCells,Value.cells,h3]
variable {l:List Oper} {K:List Oper→Env→Prop} {rest:List Oper} {d:Tmp} {ty:TypeId} {pos:String} {after:Array Edge} {g:Option (Nat × Bool)} {x y:Operand}
theorem uuA {e:TypeId} {b n:Nat} {kl kc:IntKind} (hg:b8A l E g=some true) (hel:El P t e (.agg #[.int .u16 0,.int .u16 0]) 2 b) (hx:opE E x=.val (.int kl (n:Int))) (hy:opE E y=.val (.int kc (n:Int))) (hb:b*n≤281474976710656) (hn:n≤9223372036854775807)
 (h:LA P l wb K rest ((d,.pred (euA wb.heap.size e (List.replicate n (0,0))))::E)):LA P l wb K (⟨some d,.makeSlice t x y,ty,pos,after,g⟩::rest) E :=
 b1A (.pred (euA wb.heap.size e (List.replicate n (0,0)))) hg (λ a w he hh=>by
  have e1:=hh x (by simp [Op.operands]);have e2:=hh y (by simp [Op.operands]);rw [hx] at e1;rw [hy] at e2;simp only [AD.ok] at e1 e2;obtain ⟨i,hi1,hi2,hi3,hi4⟩:=hel.parts;obtain ⟨w',g1,g2,g3⟩:=run_make_full (P:=P) w wb.heap.size t e i _ 2 hel.ht hi1 hi2 hi3 kl kc n (by rw [hi4];exact hb) (by unfold maxLen;omega) he.size;rw [qhA] at g2;simp only [execOp,Sem.run_bind,e1,e2,g1,Result.andThen_ok,Sem.run_pure];refine ⟨nyA g3,?_⟩;show Own _ _ _ _ _ _ _;rw [List.length_replicate];exact g2) h
theorem izA {N:Nn} {Q:Exit→Act→World→Prop} {f:FuncId} {ats:Array TypeId} {fv:Operand} {c v1:Value} (hg:g=none) (hd:d<N.n) (hfv:opE E fv=.val (.func (.func f) #[c] #[])) (hv1:opE E x=.val v1) (R:Value→World→Prop)
 (hc:∀ w,Ext wb w→Fc P f #[c,v1] w (λ e w'=>∃ v,e=.returned v∧R v w')) (h:∀ v w,R v w→LX P N w l Q rest ((d,.val v)::vals E)) :
 LX P N wb l Q (⟨some d,.call ⟨.value fv,#[x],ats⟩,ty,pos,after,g⟩::rest) E:=by
 unfold LX;intro a w st;have h0:=st.opd fv;rw [hfv] at h0;simp only [AD.ok] at h0;have ev1:=st.opd x;rw [hv1] at ev1;simp only [AD.ok] at ev1;have hcc:=hc w st.ext;refine wpList_plain hg λ Kc hK=>?_
 unfold Oper.wp;rw [l1A h0 (Fc.run hcc _ _)];simp only [Oper.upon,List.map_toArray,List.map_cons,List.map_nil,ev1];refine hcc.calls.mono ?_
 rintro e w' ⟨v,rfl,hv⟩;refine hK _ _ ?_
 have h2:=h v w' hv;unfold LX at h2;exact h2 _ _ ((st.vals (w':=w')).push (Ext.refl _) (dst:=some d) (r:=.val v) (λ d' hd'=>by cases hd';exact hd) (.inr rfl))
theorem iwA {kN:Nat} {fn:Func} {R:Ending→World→Prop} {p n b:Nat} {cs:Array Value} {e:TypeId} {dsc:TypeDesc} (hr:fn.results=#[.cell p t]) (hl:lkE E p=.val (.pointer (some ⟨b,0,none⟩))) (hb:wb.heap[b]?=some (.cells cs e (0,0))) (hn:cs.size=n)
 (hu:P.underlying t=some dsc) (hd:(match dsc with|.struct _|.array _ _=>true|_=>false)=true) (hi:(P.info? t).map (·.size)=some n)
 (hc:∀ w,Ext wb w→R (.returned (.agg cs)) w):PX ⟨kN,[]⟩ wb (bodyPost P fn R) .ret E:=by
 unfold PX;intro a w st;have h1:=st.sat p;rw [hl] at h1;simp only [AD.ok] at h1;have hv':a.tmps[p]?.getD undef=.pointer (some ⟨b,0,none⟩):=by simpa using h1
 have hrun:(results fn a.tmps).run P w=.ok (.agg cs) w:=by
  simp [results,hr,hv',asAddr,run_loadVar_row w b e t cs (0,0) dsc (st.ext.block hb) hu hd (by rw [hn];exact hi)]
 exact ⟨st.df,_,hrun,hc w st.ext⟩
theorem uxA {c0 c1 c2:Value} (hg:b8A l E g=some true) (hx:opE E x=.val (.tuple #[c0,c1,c2])) (h:LA P l wb K rest ((d,.val c0)::E)):LA P l wb K (⟨some d,.extract x 0,ty,pos,after,g⟩::rest) E :=
 b1A _ hg (beA λ a w he hh=>by
  have e1:=hh x (by simp [Op.operands]);rw [hx] at e1;simp only [AD.ok] at e1;simp [execOp,e1,Instr.extract]) h
theorem uwA {c0 c1 c2:Value} (hg:b8A l E g=some true) (hx:opE E x=.val (.tuple #[c0,c1,c2])) (h:LA P l wb K rest ((d,.val c1)::E)):LA P l wb K (⟨some d,.extract x 1,ty,pos,after,g⟩::rest) E :=
 b1A _ hg (beA λ a w he hh=>by
  have e1:=hh x (by simp [Op.operands]);rw [hx] at e1;simp only [AD.ok] at e1;simp [execOp,e1,Instr.extract]) h
theorem uvA {c0 c1 c2:Value} (hg:b8A l E g=some true) (hx:opE E x=.val (.tuple #[c0,c1,c2])) (h:LA P l wb K rest ((d,.val c2)::E)):LA P l wb K (⟨some d,.extract x 2,ty,pos,after,g⟩::rest) E :=
 b1A _ hg (beA λ a w he hh=>by
  have e1:=hh x (by simp [Op.operands]);rw [hx] at e1;simp only [AD.ok] at e1;simp [execOp,e1,Instr.extract]) h
end
end Go.LA
end
section
namespace Go.Proofs.YtbokphkfojijoaaGreatDoor.Pt
open Go.LA Go.ArrP Go.RowKit
abbrev tB:Nat:=5
abbrev tRn:Nat:=105
theorem nil8 {w:World}:SlI .u8 w nilS []:=OwnI.slI (base:=0) (e:=0) OwnI.nil
theorem f3A (q:Nat→Bool):(apA q=3∧isR q=true)∨(apA q=1∧isR q=false∧cnt q 65536≤4096)∨(apA q=2∧isR q=false∧¬ cnt q 65536≤4096):=by
 by_cases h3:apA q=3
 ·exact .inl ⟨h3,decide_eq_true h3⟩
 ·have hk:apA q=if cnt q 65536≤4096 then 1 else 2:=by
   unfold apA at h3 ⊢
   split
   ·rename_i h;exact absurd (if_pos h) h3
   ·rfl
  by_cases hc:cnt q 65536≤4096
  ·exact .inr (.inl ⟨by rw [hk,if_pos hc],decide_eq_false h3,hc⟩)
  ·exact .inr (.inr ⟨by rw [hk,if_neg hc],decide_eq_false h3,hc⟩)
variable {A:Nat→Prop}
theorem zrA {w:World} {c:Value} {q:Nat→Bool} (h:Cn A w c q (apA q)) (hT:Tab w):Fc Tryz.prog 68 #[c] w (Ret w (.pred (axA w.heap.size tB .u8 (cfA q (isR q))))):=by
 have hk:∀ w',Ext w w'→_:=λ w' e=>fnA (h.ext e)
 obtain ⟨kd,va,vw,vr,rfl,-⟩:=h.parts
 rcases f3A q with ⟨k1,k2⟩|⟨k1,k2,k3⟩|⟨k1,k2,k3⟩
 ·rw [k1] at hk
  have hr:∀ w',Ext w w'→_:=λ w' e=>kjA (h.ext e) (hT.ext e)
  have hfew:=ggA q;have hu:=dvA q;have hbf:cfA q (isR q)=leS (alA q).length 2++flG luA (alA q):=by rw [k2];unfold cfA;rw [if_pos rfl]
  rw [hbf];obtain ⟨rs,hrs⟩:∃ rs,rs=alA q:=⟨_,rfl⟩;rw [← hrs] at hr hfew hu ⊢;clear hrs hbf;refine Fc.of (args:=[_]) Tryz.func68 rfl rfl Tryz.ntmps68 nZ ?_
  repeat' (first|(refine yL ?_;first|refine a0A rfl ?_|refine eqA ?_|(refine oD 29 ?_;refine c8A rfl _ rfl rfl HasR.own ?_)|(refine oD 33 ?_;refine c8A rfl _ rfl rfl HasR.own ?_)|refine yO ?_|(refine yC ?_ ?_<;>intro hc)|(refine yV ?_;first|(refine oC 63 ?_;refine a1A (f:=63) rfl rfl rfl  (.val (.int .u8 3)) (by intro u1 w e hu1;(try obtain rfl:u1=_:=hu1);exact hk _ e) ?_)|(refine oC 59 ?_;refine a1A (f:=59) rfl rfl rfl  (.pred (euA w.heap.size tRn rs)) (by intro u1 w e hu1;(try obtain rfl:u1=_:=hu1);exact (hr _ e).mono (avA e.size rfl)) ?_)|(refine oC 62 ?_;refine a5A (f:=62) rfl rfl rfl rfl  (.pred (axA w.heap.size tB .u8 (leS rs.length 2))) (by intro u1 u2 w e hu1 hu2;(try obtain rfl:u1=_:=hu1);(try obtain rfl:u2=_:=hu2);exact (d9A _ _ [] rs.length nil8 dZ oZ oZ).mono (a6A e.size)) ?_))|(refine yN hK ?_;clear hK K))|refine wG ?_|(refine yR ?_;intro K hK)|fail)
  refine bwA 2 rfl (λ v2 w2 e2 h2=>?_);refine bwA 32 rfl (λ v3 w3 e3 h3=>?_);replace h2:OwnI w.heap.size tB .u8 w2 v2 (leS rs.length 2):=h2;replace h3:OwnR w.heap.size tRn w3 v3 rs:=h3
  refine aaA (ι:=Nat × Value) (λ j=>[(2,.val j.2),(32,.val v3),(33,.val (.int .i64 rs.length)),(34,.val (.int .i64 j.1))])
   (λ j w'=>Ext w3 w'∧j.1≤rs.length∧OwnI w.heap.size tB .u8 w' j.2 (leS rs.length 2++flG luA (rs.take j.1))) (λ j=>rs.length-j.1)
   (λ w4 e4=>⟨(0,v2),⟨e4,Nat.zero_le _,by rw [List.take_zero];show OwnI _ _ _ _ _ (_++[]);rw [List.append_nil];exact OwnI.ext h2 (e3.trans e4)⟩,sZ⟩) ?_
  rintro ⟨i,v4⟩ w4 ⟨e4,hi,h4⟩;dsimp only at hi h4 ⊢;have hx:=(e2.trans e3).trans e4
  by_cases hil:i<rs.length
  ·have hl4:(leS rs.length 2++flG luA (rs.take i)).length≤200000:=by rw [List.length_append,akA,csA _ ghA,List.length_take];omega
   have h34:=OwnR.ext h3 e4;obtain ⟨g1,g2,g3,g4⟩:=hu _ (show rs.getD i (0,0) ∈ rs by rw [List.getD_eq_getElem?_getD,List.getElem?_eq_getElem hil];exact List.getElem_mem hil);have htk:=f5A luA (0,0) hil;obtain ⟨⟨f,m⟩,hfm⟩:∃ r,r=rs.getD i (0,0):=⟨_,rfl⟩;rw [← hfm] at g1 g2 g3 g4 htk;have hf1:fst rs i=f:=by show (rs.getD i (0,0)).1=f;rw [← hfm]
   have hm1:mor rs i=m:=by show (rs.getD i (0,0)).2=m;rw [← hfm]
   dsimp only at g1 g2 g3 g4;obtain ⟨ys,hys⟩:∃ ys,ys=leS rs.length 2++flG luA (rs.take i):=⟨_,rfl⟩;rw [← hys] at h4 hl4
   repeat' (first|(refine yL ?_;first|refine a0A rfl ?_|(refine oI ?_;refine boA rfl _ rfl (λ _=>rfl) rfl (HasR.ownV h34) rfl hil ?_;rw [hf1,hm1])|(refine oLt 105 ?_;refine atA rfl (λ _=>rfl) (λ _=>rfl) rfl ?_)|(refine oD 5 ?_;refine a3A (hK _ _ (crA rfl rfl dZ (λ _=>rfl) (λ _=>rfl) (λ _=>rfl) rfl (by intro u hu;simp [Value.cells] at hu;rcases hu with rfl|rfl <;> rfl) (λ bx wx ex hbx hbc=>?_)));clear hK K;refine abA kZ (λ K hK=>?_))|(refine oF 0 ?_;refine a2A (a:=⟨bx,0,none⟩) (a':=⟨bx,0,none⟩) rfl rfl (λ _=>rfl) ?_)|(refine oF 1 ?_;refine a2A (a:=⟨bx,0,none⟩) (a':=⟨bx,1,none⟩) rfl rfl (λ _=>rfl) ?_)|(refine oLt 31 ?_;refine a7A rfl (λ _=>rfl) rfl hbc rfl ?_)|refine yO ?_|(refine yC ?_ ?_<;>intro hc)|(refine yV ?_;first|(refine oD 41 ?_;refine oC 62 ?_;refine a5A (f:=62) rfl rfl rfl rfl  (.pred (axA w.heap.size tB .u8 (ys++leS f 2))) (by intro u1 u2 w e hu1 hu2;(try obtain rfl:u1=_:=hu1);(try obtain rfl:u2=_:=hu2);exact (d9A _ _ ys f (OwnI.slI (OwnI.ext h4 (ex.trans e))) oZ oZ oZ).mono (a6A (hx.trans (ex.trans e)).size)) ?_)|(refine oD 44 ?_;refine oC 62 ?_;refine a5A (f:=62) rfl rfl rfl rfl  (.pred (axA w.heap.size tB .u8 ((ys++leS f 2)++leS m 2))) (by intro u1 u2 w e hu1 hu2;(try obtain rfl:u1=_:=hu1);(try obtain rfl:u2=_:=hu2);exact (d9A _ _ (ys++leS f 2) m (OwnI.slI hu1) (by rw [List.length_append,akA];omega) oZ oZ).mono (a6A (hx.trans (ex.trans e)).size)) ?_))|(refine yN hK ?_;clear hK K))|refine wG ?_|(refine yR ?_;intro K hK)|fail)
   refine fsA 2 rfl (λ v5 w5 e5 h5=>?_);exact a4A (i+1,v5) (λ w6 e6=>⟨e4.trans (ex.trans (e5.trans e6)),hil,by rw [htk,← List.append_assoc,← hys];unfold luA;rw [← List.append_assoc];exact OwnI.ext h5 e6⟩) eZ sZ
  ·obtain rfl:i=rs.length:=oZ
   rw [List.take_length] at h4
   repeat' (first|(refine yL ?_;first|refine a0A rfl ?_|refine yO ?_|(refine yC ?_ ?_<;>intro hc)|(refine yN hK ?_;clear hK K))|refine wG ?_|(refine yR ?_;intro K hK)|fail)
   exact aiA rfl rfl hx (λ u w5 e5 hu=>by obtain rfl:u=_:=hu;exact OwnI.ext h4 e5)
 ·rw [k1] at hk
  have hr:∀ w',Ext w w'→_:=λ w' e=>mnA (h.ext e) (hT.ext e)
  have hbf:cfA q (isR q)=flG (λ x=>leS x 2) (aeA q 65536):=by rw [k2];unfold cfA;rw [if_neg dZ,if_pos k3]
  have hln:(aeA q 65536).length≤4096:=by rw [ayA];exact k3
  have hu:∀ x ∈ aeA q 65536,0≤x∧x<65536:=λ x hx=>by
   obtain ⟨i,g1,-,g3⟩:=(byA _ _ _).1 hx;omega
  rw [hbf];obtain ⟨rs,hrs⟩:∃ rs,rs=aeA q 65536:=⟨_,rfl⟩;rw [← hrs] at hr hln hu ⊢;clear hrs hbf;refine Fc.of (args:=[_]) Tryz.func68 rfl rfl Tryz.ntmps68 nZ ?_
  repeat' (first|(refine yL ?_;first|refine a0A rfl ?_|refine eqA ?_|(refine oD 14 ?_;refine azA rfl _ rfl rfl HasI.own.c ?_)|refine yO ?_|(refine yC ?_ ?_<;>intro hc)|(refine yV ?_;first|(refine oC 63 ?_;refine a1A (f:=63) rfl rfl rfl  (.val (.int .u8 1)) (by intro u1 w e hu1;(try obtain rfl:u1=_:=hu1);exact hk _ e) ?_)|(refine oC 96 ?_;refine a1A (f:=96) rfl rfl rfl  (.pred (axA w.heap.size 31 .u16 rs)) (by intro u1 w e hu1;(try obtain rfl:u1=_:=hu1);exact (hr _ e).mono (a6A e.size)) ?_))|(refine yN hK ?_;clear hK K))|refine wG ?_|(refine yR ?_;intro K hK)|fail)
  refine bwA 13 rfl (λ v3 w3 e3 h3=>?_);replace h3:OwnI w.heap.size 31 .u16 w3 v3 rs:=h3
  refine aaA (ι:=Nat × Value) (λ j=>[(2,.val j.2),(13,.val v3),(14,.val (.int .i64 rs.length)),(15,.val (.int .i64 j.1))])
   (λ j w'=>Ext w3 w'∧j.1≤rs.length∧OwnI w.heap.size tB .u8 w' j.2 (flG (λ x=>leS x 2) (rs.take j.1))) (λ j=>rs.length-j.1)
   (λ w4 e4=>⟨(0,nilS),⟨e4,Nat.zero_le _,by rw [List.take_zero];exact OwnI.nil⟩,sZ⟩) ?_
  rintro ⟨i,v4⟩ w4 ⟨e4,hi,h4⟩;dsimp only at hi h4 ⊢;have hx:=e3.trans e4
  by_cases hil:i<rs.length
  ·have hl4:(flG (λ x=>leS x 2) (rs.take i)).length≤200000:=by rw [csA _ (λ x=>akA x 2),List.length_take];omega
   have h34:=OwnI.ext h3 e4;obtain ⟨g1,g2⟩:=hu _ (show rs.getD i 0 ∈ rs by rw [List.getD_eq_getElem?_getD,List.getElem?_eq_getElem hil];exact List.getElem_mem hil);have htk:=f5A (λ x=>leS x 2) (0:Int) hil;obtain ⟨f,hfm⟩:∃ r,r=rs.getD i 0:=⟨_,rfl⟩;rw [← hfm] at g1 g2 htk;obtain ⟨ys,hys⟩:∃ ys,ys=flG (λ x=>leS x 2) (rs.take i):=⟨_,rfl⟩;rw [← hys] at h4 hl4 htk
   repeat' (first|(refine yL ?_;first|refine a0A rfl ?_|(refine oD 17 ?_;refine agA rfl _ rfl (λ _=>rfl) rfl (HasI.ownV h34) rfl hil ?_;rw [← hfm])|refine yO ?_|(refine yC ?_ ?_<;>intro hc)|(refine yV ?_;first|(refine oC 62 ?_;refine a5A (f:=62) rfl rfl rfl rfl  (.pred (axA w.heap.size tB .u8 (ys++leS f 2))) (by intro u1 u2 w e hu1 hu2;(try obtain rfl:u1=_:=hu1);(try obtain rfl:u2=_:=hu2);exact (d9A _ _ ys f (OwnI.slI (OwnI.ext h4 e)) oZ oZ oZ).mono (a6A (hx.trans e).size)) ?_))|(refine yN hK ?_;clear hK K))|refine wG ?_|(refine yR ?_;intro K hK)|fail)
   refine fsA 2 rfl (λ v5 w5 e5 h5=>?_);exact a4A (i+1,v5) (λ w6 e6=>⟨e4.trans (e5.trans e6),hil,by rw [htk];exact OwnI.ext h5 e6⟩) eZ sZ
  ·obtain rfl:i=rs.length:=oZ
   rw [List.take_length] at h4
   repeat' (first|(refine yL ?_;first|refine a0A rfl ?_|refine yO ?_|(refine yC ?_ ?_<;>intro hc)|(refine yN hK ?_;clear hK K))|refine wG ?_|(refine yR ?_;intro K hK)|fail)
   exact aiA rfl rfl hx (λ u w5 e5 hu=>by obtain rfl:u=_:=hu;exact OwnI.ext h4 e5)
 ·rw [k1] at hk
  have hr:∀ w',Ext w w'→_:=λ w' e=>hqA (h.ext e)
  have hbf:cfA q (isR q)=flG (λ x=>leS x 8) (wordsOf q):=by rw [k2];unfold cfA;rw [if_neg dZ,if_neg k3]
  have hln:(wordsOf q).length≤4096:=by rw [aqA];decide
  have hu:∀ x ∈ wordsOf q,0≤x∧x<18446744073709551616:=λ x hx=>bnA q x hx
  rw [hbf];obtain ⟨rs,hrs⟩:∃ rs,rs=wordsOf q:=⟨_,rfl⟩;rw [← hrs] at hr hln hu ⊢;clear hrs hbf;refine Fc.of (args:=[_]) Tryz.func68 rfl rfl Tryz.ntmps68 nZ ?_
  repeat' (first|(refine yL ?_;first|refine a0A rfl ?_|refine eqA ?_|(refine oD 50 ?_;refine azA rfl _ rfl rfl HasI.own.c ?_)|refine yO ?_|(refine yC ?_ ?_<;>intro hc)|(refine yV ?_;first|(refine oC 63 ?_;refine a1A (f:=63) rfl rfl rfl  (.val (.int .u8 2)) (by intro u1 w e hu1;(try obtain rfl:u1=_:=hu1);exact hk _ e) ?_)|(refine oC 103 ?_;refine a1A (f:=103) rfl rfl rfl  (.pred (axA w.heap.size 61 .u64 rs)) (by intro u1 w e hu1;(try obtain rfl:u1=_:=hu1);exact (hr _ e).mono (a6A e.size)) ?_))|(refine yN hK ?_;clear hK K))|refine wG ?_|(refine yR ?_;intro K hK)|fail)
  refine bwA 49 rfl (λ v3 w3 e3 h3=>?_);replace h3:OwnI w.heap.size 61 .u64 w3 v3 rs:=h3
  refine aaA (ι:=Nat × Value) (λ j=>[(2,.val j.2),(49,.val v3),(50,.val (.int .i64 rs.length)),(51,.val (.int .i64 j.1))])
   (λ j w'=>Ext w3 w'∧j.1≤rs.length∧OwnI w.heap.size tB .u8 w' j.2 (flG (λ x=>leS x 8) (rs.take j.1))) (λ j=>rs.length-j.1)
   (λ w4 e4=>⟨(0,nilS),⟨e4,Nat.zero_le _,by rw [List.take_zero];exact OwnI.nil⟩,sZ⟩) ?_
  rintro ⟨i,v4⟩ w4 ⟨e4,hi,h4⟩;dsimp only at hi h4 ⊢;have hx:=e3.trans e4
  by_cases hil:i<rs.length
  ·have hl4:(flG (λ x=>leS x 8) (rs.take i)).length≤200000:=by rw [csA _ (λ x=>akA x 8),List.length_take];omega
   have h34:=OwnI.ext h3 e4;obtain ⟨g1,g2⟩:=hu _ (show rs.getD i 0 ∈ rs by rw [List.getD_eq_getElem?_getD,List.getElem?_eq_getElem hil];exact List.getElem_mem hil);have htk:=f5A (λ x=>leS x 8) (0:Int) hil;obtain ⟨f,hfm⟩:∃ r,r=rs.getD i 0:=⟨_,rfl⟩;rw [← hfm] at g1 g2 htk;obtain ⟨ys,hys⟩:∃ ys,ys=flG (λ x=>leS x 8) (rs.take i):=⟨_,rfl⟩;rw [← hys] at h4 hl4 htk
   repeat' (first|(refine yL ?_;first|refine a0A rfl ?_|(refine oD 53 ?_;refine agA rfl _ rfl (λ _=>rfl) rfl (HasI.ownV h34) rfl hil ?_;rw [← hfm])|refine yO ?_|(refine yC ?_ ?_<;>intro hc)|(refine yV ?_;first|(refine oC 104 ?_;refine a5A (f:=104) rfl rfl rfl rfl  (.pred (axA w.heap.size tB .u8 (ys++leS f 8))) (by intro u1 u2 w e hu1 hu2;(try obtain rfl:u1=_:=hu1);(try obtain rfl:u2=_:=hu2);exact (p1A _ _ ys f (OwnI.slI (OwnI.ext h4 e)) oZ oZ oZ).mono (a6A (hx.trans e).size)) ?_))|(refine yN hK ?_;clear hK K))|refine wG ?_|(refine yR ?_;intro K hK)|fail)
   refine fsA 2 rfl (λ v5 w5 e5 h5=>?_);exact a4A (i+1,v5) (λ w6 e6=>⟨e4.trans (e5.trans e6),hil,by rw [htk];exact OwnI.ext h5 e6⟩) eZ sZ
  ·obtain rfl:i=rs.length:=oZ
   rw [List.take_length] at h4
   repeat' (first|(refine yL ?_;first|refine a0A rfl ?_|refine yO ?_|(refine yC ?_ ?_<;>intro hc)|(refine yN hK ?_;clear hK K))|refine wG ?_|(refine yR ?_;intro K hK)|fail)
   exact aiA rfl rfl hx (λ u w5 e5 hu=>by obtain rfl:u=_:=hu;exact OwnI.ext h4 e5)
end Go.Proofs.YtbokphkfojijoaaGreatDoor.Pt
end
section
namespace Go.Proofs.YtbokphkfojijoaaGreatDoor.Pt
open Go.LA Go.ArrP Go.RowKit
def LRow (base:Nat) (p:Nat→Bool) (n:Nat) (w:World) (u:Value) (Q:List Qd):Prop:=LA.Own base tC 4 w u n (b5A Q)∧Q.length=n∧∀ i,i<n→Cn TT w (qv (Q.getD i q0)) (blk p (kp p i)) (apA (blk p (kp p i)))
theorem LRow.ext {base n:Nat} {p:Nat→Bool} {w w':World} {u:Value} {Q:List Qd} (h:LRow base p n w u Q) (e:Ext w w'):LRow base p n w' u Q:=⟨h.1.ext e,h.2.1,λ i hi=>(h.2.2 i hi).ext e⟩
def x2A (base:Nat) (p:Nat→Bool) (n:Nat):AV:=⟨λ u w=>∃ Q,LRow base p n w u Q,λ _ _ _ e ⟨Q,h⟩=>⟨Q,h.ext e⟩⟩
theorem cntW (p:Nat→Bool) (n:Nat):cnt (c1A p) n=0↔dtA (c1A p) n=false:=by
 induction n with
 | zero=>simp [cnt,dtA]
 | succ n ih =>
   simp only [cnt,dtA];cases c1A p n
   ·simp [ih]
   ·simp
theorem n5A {p:Nat→Bool} {w:World} {Q:List Qd} {qc:Qd} {i:Nat} (hQ:Q.length=i) (h:∀ j,j<i→Cn TT w (qv (Q.getD j q0)) (blk p (kp p j)) (apA (blk p (kp p j)))) (hc:Cn TT w (qv qc) (blk p (kp p i)) (apA (blk p (kp p i)))) (j:Nat) (hj:j<i+1) :
 Cn TT w (qv ((Q++[qc]).getD j q0)) (blk p (kp p j)) (apA (blk p (kp p j))):=by
 by_cases e:j<i
 ·rw [show (Q++[qc]).getD j q0=Q.getD j q0 by simp [List.getD,List.getElem?_append_left (show j<Q.length by omega)]]
  exact h j e
 ·obtain rfl:j=i:=oZ
  rw [show (Q++[qc]).getD j q0=qc by rw [List.getD_eq_getElem?_getD,List.getElem?_append_right oZ,hQ,Nat.sub_self];rfl];exact hc
theorem yzA {w:World} {v:Value} {p:Nat→Bool} (h:NSet TT TT w v p):Fc Tryz.prog 60 #[v] w (Ret w (.tup2 (.pred (x2A w.heap.size p (nk p))) (.val (.int .i64 (cnt (c1A p) (nk p):Nat))))):=by
 have hkl:=bfA p;have hnk:=jdA p;have hks:∀ w',Ext w w'→_:=λ w' e=>vqA (h.ext e)
 refine Fc.of (args:=[_]) Tryz.func60 rfl rfl Tryz.ntmps60 nZ ?_
 repeat' (first|(refine yL ?_;first|refine a0A rfl ?_|(refine oD 9 ?_;refine azA rfl _ rfl rfl HasI.own.c ?_;rw [hkl])|refine yO ?_|(refine yC ?_ ?_<;>intro hc)|(refine yV ?_;first|(refine oC 64 ?_;refine a1A (f:=64) rfl rfl rfl  (.pred (axA w.heap.size tK .u16 (b7A p))) (by intro u1 w e hu1;(try obtain rfl:u1=_:=hu1);exact (hks _ e).mono (a6A e.size)) ?_))|(refine yN hK ?_;clear hK K))|refine wG ?_|(refine yR ?_;intro K hK)|fail)
 refine aaA (ι:=Nat × Value) (λ j=>[(0,.val v),(2,.val j.2),(3,.val (.int .i64 (cnt (c1A p) j.1:Nat))),(9,.val (.int .i64 (nk p))),(10,.val (.int .i64 j.1))])
  (λ j w'=>Ext w w'∧j.1≤nk p∧∃ Q,LRow w.heap.size p j.1 w' j.2 Q) (λ j=>nk p-j.1)
  (λ w4 e4=>⟨(0,nilS),⟨e4,Nat.zero_le _,[],Own.nil,rfl,λ i hi=>absurd hi (Nat.not_lt_zero _)⟩,sZ⟩) ?_
 rintro ⟨i,u⟩ w1 ⟨he,hi,Q,hQ1,hQ2,hQ3⟩;dsimp only at hi hQ1 hQ2 hQ3 ⊢;have hcl:=cnt_le (c1A p) i
 by_cases hil:i<nk p
 ·have hat:∀ w',Ext w1 w'→_:=λ w' e=>at_s ((h.ext he).ext e) hil
  have hk:=f3A (blk p (kp p i));have hcs:cnt (c1A p) (i+1)=cnt (c1A p) i+if isR (blk p (kp p i)) then 1 else 0:=rfl
  obtain ⟨b,hb⟩:∃ b,b=blk p (kp p i):=⟨_,rfl⟩;obtain ⟨kk,hkk⟩:∃ k,k=apA b:=⟨_,rfl⟩;rw [← hb] at hat hk hcs;rw [← hkk] at hat hk;obtain ⟨c0,hc0⟩:∃ c,c=cnt (c1A p) i:=⟨_,rfl⟩;rw [← hc0] at hcs hcl ⊢;have hcs':(kk=3∧(cnt (c1A p) (i+1):Int)=c0+1)∨(kk≠3∧cnt (c1A p) (i+1)=c0):=by
   rcases hk with ⟨k1,k2⟩|⟨k1,k2,-⟩|⟨k1,k2,-⟩ <;> rw [k2] at hcs <;> simp at hcs <;> omega
  have hFr:∀ w2 w3,Fr (λ k=>u.ownBlock=some k) w2 w3→Ext w1 w2→∀ v q kk,Cn TT w2 v q kk→Cn TT w3 v q kk:=λ w2 w3 hf x v q kk hc=>hc.fr hf (λ j hj=>by
   obtain ⟨cur,hcur⟩:=asA (hQ1.ext x) hj;exact ⟨cur,_,_,hcur,by decide,by decide,λ _=>by decide⟩)
  rcases hcs' with ⟨rfl,hcs'⟩|⟨hne,hcs'⟩
  ·skip
   repeat' (first|(refine yL ?_;first|refine a0A rfl ?_|(refine oD 5 ?_;refine a3A (hK _ _ (mqA (q:=17) (φ:=cnP TT b _) (n:=4) rfl rfl dZ rfl rfl b2A (λ _=>rfl) rfl (λ _=>rfl) (λ b5 c5 w5 e5 hb5 hh5 hn5 hc5=>?_)));clear hK K;refine abA kZ (λ K hK=>?_))|(refine oD 19 ?_;refine brA rfl hh5 hn5 rfl (λ _=>rfl) (λ _=>rfl) ?_)|(refine oD 25 ?_;refine brA rfl hh5 hn5 rfl (λ _=>rfl) (λ _=>rfl) ?_)|(refine oD 26 ?_;refine f9A (base:=w5.heap.size) (Nat.le_refl _) rfl d8A rfl (λ v w e h=>by obtain rfl:v=_:=h;exact Cn.ext hc5 e) ?_)|(refine oD 27 ?_;refine a3A (hK _ _ (awA 26 rfl (λ v26 w26 e26 h26=>?_)));clear hK K;obtain ⟨qc,r1,r2,r3⟩:=h26;refine anA rfl dZ d8A rfl (hQ1.ext (e5.trans e26)) rfl (HasC.ownV r1) r3 (by unfold maxLen;omega) oZ (λ v' w2 w3 e2 ho hf hlc=>?_);have x3:Ext w w3:=Fr.ext (he.trans ((e5.trans e26).trans e2)) hf (λ k hk=>(Own.lt hQ1 k hk).1);have hrow:∃ Q',LRow w.heap.size p (i+1) w3 v' Q':=⟨Q++[qc],by rw [cwA];exact Own.rebase ho (hlc.ge (λ k hk=>(Own.lt hQ1 k hk).1) (Nat.le_trans he.size ((e5.trans e26).trans e2).size)),by rw [List.length_append,hQ2];rfl,λ j hj=>n5A hQ2 (λ j hj=>hFr _ _ hf ((e5.trans e26).trans e2) _ _ _ ((hQ3 j hj).ext ((e5.trans e26).trans e2))) (by rw [← hb];exact (congrArg (Cn TT w3 (qv qc) b) (by assumption)).mp (hFr _ _ hf ((e5.trans e26).trans e2) _ _ _ (r2.ext e2))) j hj⟩;refine abA kZ (λ K hK=>?_))|refine yO ?_|(refine yC ?_ ?_<;>intro hc)|(refine yV ?_;first|(refine oC 97 ?_;refine a5A (f:=97) rfl rfl rfl rfl  (.tup2 (.pred (cnP TT b _)) (.val (.bool true))) (by intro u1 u2 w e hu1 hu2;(try obtain rfl:u1=_:=hu1);(try obtain rfl:u2=_:=hu2);exact hat _ e) ?_)|(refine oC 63 ?_;refine a1A (f:=63) rfl rfl rfl  (.val (.int .u8 _)) (by intro u1 w e hu1;(try obtain rfl:u1=_:=hu1);exact fnA (Cn.ext hc5 e)) ?_))|(refine yN hK ?_;clear hK K))|refine wG ?_|(refine yR ?_;intro K hK)|fail)
   exact a4A (i+1,v') (λ w5 e5=>⟨x3.trans e5,hil,hrow.imp λ Q' hq=>hq.ext e5⟩) eZ (by dsimp only;rw [hcs'];(repeat' (first|exact Sub.nil|(refine Sub.val rfl ?_ ?_;first|with_reducible rfl|(congr 1;omega))|refine Sub.same rfl ?_));done)
  ·skip
   repeat' (first|(refine yL ?_;first|refine a0A rfl ?_|(refine oD 5 ?_;refine a3A (hK _ _ (mqA (q:=17) (φ:=cnP TT b _) (n:=4) rfl rfl dZ rfl rfl b2A (λ _=>rfl) rfl (λ _=>rfl) (λ b5 c5 w5 e5 hb5 hh5 hn5 hc5=>?_)));clear hK K;refine abA kZ (λ K hK=>?_))|(refine oD 19 ?_;refine brA rfl hh5 hn5 rfl (λ _=>rfl) (λ _=>rfl) ?_)|(refine oD 25 ?_;refine brA rfl hh5 hn5 rfl (λ _=>rfl) (λ _=>rfl) ?_)|(refine oD 26 ?_;refine f9A (base:=w5.heap.size) (Nat.le_refl _) rfl d8A rfl (λ v w e h=>by obtain rfl:v=_:=h;exact Cn.ext hc5 e) ?_)|(refine oD 27 ?_;refine a3A (hK _ _ (awA 26 rfl (λ v26 w26 e26 h26=>?_)));clear hK K;obtain ⟨qc,r1,r2,r3⟩:=h26;refine anA rfl dZ d8A rfl (hQ1.ext (e5.trans e26)) rfl (HasC.ownV r1) r3 (by unfold maxLen;omega) oZ (λ v' w2 w3 e2 ho hf hlc=>?_);have x3:Ext w w3:=Fr.ext (he.trans ((e5.trans e26).trans e2)) hf (λ k hk=>(Own.lt hQ1 k hk).1);have hrow:∃ Q',LRow w.heap.size p (i+1) w3 v' Q':=⟨Q++[qc],by rw [cwA];exact Own.rebase ho (hlc.ge (λ k hk=>(Own.lt hQ1 k hk).1) (Nat.le_trans he.size ((e5.trans e26).trans e2).size)),by rw [List.length_append,hQ2];rfl,λ j hj=>n5A hQ2 (λ j hj=>hFr _ _ hf ((e5.trans e26).trans e2) _ _ _ ((hQ3 j hj).ext ((e5.trans e26).trans e2))) (by rw [← hb];exact (congrArg (Cn TT w3 (qv qc) b) (by assumption)).mp (hFr _ _ hf ((e5.trans e26).trans e2) _ _ _ (r2.ext e2))) j hj⟩;refine abA kZ (λ K hK=>?_))|refine yO ?_|(refine yC ?_ ?_<;>intro hc)|(refine yV ?_;first|(refine oC 97 ?_;refine a5A (f:=97) rfl rfl rfl rfl  (.tup2 (.pred (cnP TT b _)) (.val (.bool true))) (by intro u1 u2 w e hu1 hu2;(try obtain rfl:u1=_:=hu1);(try obtain rfl:u2=_:=hu2);exact hat _ e) ?_)|(refine oC 63 ?_;refine a1A (f:=63) rfl rfl rfl  (.val (.int .u8 _)) (by intro u1 w e hu1;(try obtain rfl:u1=_:=hu1);exact fnA (Cn.ext hc5 e)) ?_))|(refine yN hK ?_;clear hK K))|refine wG ?_|(refine yR ?_;intro K hK)|fail)
   exact a4A (i+1,v') (λ w5 e5=>⟨x3.trans e5,hil,hrow.imp λ Q' hq=>hq.ext e5⟩) eZ (by dsimp only;rw [hcs'];(repeat' (first|exact Sub.nil|(refine Sub.val rfl ?_ ?_;first|with_reducible rfl|(congr 1;omega))|refine Sub.same rfl ?_));done)
 ·obtain rfl:i=nk p:=oZ
  repeat' (first|(refine yL ?_;first|refine a0A rfl ?_|refine yO ?_|(refine yC ?_ ?_<;>intro hc)|(refine yN hK ?_;clear hK K))|refine wG ?_|(refine yR ?_;intro K hK)|fail)
  exact frA rfl (λ x y w5 e5 hx hy=>⟨_,rfl,he.trans e5,x,y,rfl,⟨Q,by obtain rfl:x=u:=hx;exact LRow.ext ⟨hQ1,hQ2,hQ3⟩ e5⟩,hy⟩)
theorem zeA (w:World) (n r:Nat) (hn:n≤1000000):Fc Tryz.prog 66 #[.int .i64 n,.int .i64 r] w (Ret w (.val (.int .i64 (e2A n (decide (r≠0)):Nat)))):=by
 have hq:((n:Int)+7).tdiv 8=(((n+7) / 8:Nat):Int):=by rw [Int.tdiv_eq_ediv_of_nonneg oZ];omega
 by_cases h0:r=0
 ·have hh:(e2A n (decide (r≠0)):Int)=8+8*n:=by unfold e2A;rw [decide_eq_false oZ];rw [if_neg dZ];omega
  rw [hh];refine Fc.of (args:=[_,_]) Tryz.func66 rfl rfl Tryz.ntmps66 nZ ?_
  repeat' (first|(refine yL ?_;first|refine a0A rfl ?_|(refine oD 9 ?_;refine ejA rfl rfl rfl fZ ?_)|refine yO ?_|(refine yC ?_ ?_<;>intro hc)|(refine yN hK ?_;clear hK K))|refine wG ?_|(refine yR ?_;intro K hK)|fail)
  exact ajA rfl rfl (Ext.refl _) rfl
 ·by_cases h4:n<4
  ·have hh:(e2A n (decide (r≠0)):Int)=4+(((n+7) / 8:Nat):Int)+4*n:=by unfold e2A;rw [decide_eq_true oZ];rw [if_pos rfl,if_pos h4];omega
   rw [hh];refine Fc.of (args:=[_,_]) Tryz.func66 rfl rfl Tryz.ntmps66 nZ ?_
   repeat' (first|(refine yL ?_;first|refine a0A rfl ?_|(refine oD 16 ?_;refine d5A rfl rfl rfl oZ oZ fZ ?_;rw [show ((n:Int)+7) / 8=(((n+7) / 8:Nat):Int) by omega])|(refine oD 19 ?_;refine ejA rfl rfl rfl fZ ?_)|refine yO ?_|(refine yC ?_ ?_<;>intro hc)|(refine yN hK ?_;clear hK K))|refine wG ?_|(refine yR ?_;intro K hK)|fail)
   exact ajA rfl rfl (Ext.refl _) rfl
  ·have hh:(e2A n (decide (r≠0)):Int)=4+(((n+7) / 8:Nat):Int)+8*n:=by unfold e2A;rw [decide_eq_true oZ];rw [if_pos rfl,if_neg h4];omega
   rw [hh];refine Fc.of (args:=[_,_]) Tryz.func66 rfl rfl Tryz.ntmps66 nZ ?_
   repeat' (first|(refine yL ?_;first|refine a0A rfl ?_|(refine oD 23 ?_;refine d5A rfl rfl rfl oZ oZ fZ ?_;rw [show ((n:Int)+7) / 8=(((n+7) / 8:Nat):Int) by omega])|(refine oD 26 ?_;refine ejA rfl rfl rfl fZ ?_)|refine yO ?_|(refine yC ?_ ?_<;>intro hc)|(refine yN hK ?_;clear hK K))|refine wG ?_|(refine yR ?_;intro K hK)|fail)
   exact ajA rfl rfl (Ext.refl _) rfl
end Go.Proofs.YtbokphkfojijoaaGreatDoor.Pt
end
