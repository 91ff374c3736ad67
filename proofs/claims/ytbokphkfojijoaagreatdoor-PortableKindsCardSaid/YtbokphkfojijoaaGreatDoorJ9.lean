import Derived.Test.YtbokphkfojijoaaGreatDoorJ6
import Derived.Test.YtbokphkfojijoaaGreatDoorJ8
set_option linter.unusedSimpArgs false
set_option linter.unusedVariables false
set_option maxRecDepth 3000
set_option maxHeartbeats 16000000
section
namespace Go.Proofs.YtbokphkfojijoaaGreatDoor
open Go.LA Go.ArrP Go.RowKit
section
variable (w:World) (v u:Value) (p q:Nat→Bool) (h:SlI .u64 w v (wordsOf p))
theorem u8A (n:Nat) (hn:n≤65536):cnt (d6A (wordsOf p)) n=cnt p n:=e3A n λ i hi=>bpA p oZ
theorem orA:aeA (d6A (wordsOf p)) 65536=aeA p 65536:=dqA 65536 λ i hi=>bpA p hi
include h
theorem wlenP:Fc Tryz.prog 130 #[v] w (Ret w (.val (.int .i64 (cnt p 65536)))):=by
 have:=ynA w v _ h (bnA p) (by rw [aqA];decide);rwa [aqA,u8A p _ dZ] at this
theorem ymA (hT:Tab w):Fc Tryz.prog 128 #[v] w (Ret w (.pred (axA w.heap.size 31 .u16 (aeA p 65536)))):=by
 have:=w1A w v _ h (bnA p) hT;rwa [aqA,show 64*min 1024 1024=65536 by decide,orA] at this
theorem yjA:Fc Tryz.prog 174 #[v] w (Ret w (.val (.int .i64 (cnt (arA p) 65536)))):=by
 have:=vzA w v _ h (bnA p) (by rw [aqA];decide);have e:cnt (arA (d6A (wordsOf p))) (64*1024)=cnt (arA p) 65536:=e3A 65536 λ i hi=>by
  unfold arA;rw [bpA p hi]
  by_cases h0:i=0
  ·subst h0;rfl
  ·rw [bpA p oZ]
 rwa [aqA,e] at this
theorem muA (lo hi:Int) (hlo:-9223372036854775808≤lo∧lo<9223372036854775808) (hhi:-9223372036854775808≤hi∧hi<9223372036854775808) :
 Fc Tryz.prog 117 #[v,.int .i64 lo,.int .i64 hi] w (Ret w (.pred (axA w.heap.size 61 .u64 (wordsOf (lgA p lo hi))))):=by
 have:=w2A w v _ lo hi h (bnA p) hlo hhi;rwa [b0A (q:=lgA p lo hi) (λ i hi=>by unfold meA lgA;rw [bpA p hi])] at this
omit h in
theorem xgA (F:Bool→Bool→Bool):wordsOf (mjA F (wordsOf p) (wordsOf q))=wordsOf (λ i=>F (p i) (q i)):=b0A λ i hi=>by
 unfold mjA;rw [aqA,aqA,bpA p hi,bpA q hi,decide_eq_true oZ];rfl
variable (h':SlI .u64 w u (wordsOf q))
include h'
theorem worP:Fc Tryz.prog 114 #[v,u] w (Ret w (.pred (axA w.heap.size 61 .u64 (wordsOf (λ i=>p i || q i))))):=by
 have:=wor_c w v u _ _ h h' (bnA p) (bnA q);rwa [xgA p q (λ x y=>x || y)] at this
end
structure Hid (P:Prop):Prop where
 out:P
theorem onA {w:World} {base base' e:Nat} {xs ys:List Int} {k:IntKind} (hb:base'≤base) (hx:xs=ys) (en:Ending) (w':World) (h:Ret w (.pred (axA base e k xs)) en w'):Ret w (.pred (axA base' e k ys)) en w':=hx▸a6A hb en w' h
theorem may_c (w:World) (v:Value) (xs:List Int) (h:SlI .u16 w v xs):Fc Tryz.prog 172 #[v] w (Ret w (.val (.bool (decide (Inc xs))))):=by
 have hl:=h.len;refine Fc.of (args:=[_]) Tryz.func172 rfl rfl Tryz.ntmps172 nZ ?_
 repeat' (first|(refine yL ?_;first|refine a0A rfl ?_|refine yO ?_|(refine yC ?_ ?_<;>intro hc)|(refine yN hK ?_;clear hK K))|refine wG ?_|(refine yR ?_;intro K hK)|fail)
 refine ciA (ι:=Nat) (λ k=>[(0,.val v),(3,.val (.int .i64 k))]) (λ k=>1≤k∧∀ i,1≤i→i<k→i<xs.length→xs.getD (i-1) 0<xs.getD i 0) (λ k=>xs.length-k) 1 ⟨by omega,λ i h1 h2=>by omega⟩ (Sub.same rfl (Sub.same rfl Sub.nil)) ?_
 rintro k ⟨hk,hin⟩;have ek:((k:Int)-1).toNat=k-1:=oZ
 repeat' (first|(refine yL ?_;first|refine a0A rfl ?_|refine yO ?_|(refine yC ?_ ?_<;>intro hc)|(refine yN hK ?_;clear hK K))|refine wG ?_|(refine yR ?_;intro K hK)|fail)
 ·refine ajA rfl rfl (Ext.refl _) ?_
  rw [ek] at hc;have:¬ Inc xs:=λ hi=>by have:=hi.at (i:=k-1) (j:=k) oZ oZ;omega
  simp [this]
 ·refine czA (k+1) ⟨by omega,λ i h1 h2 h3=>?_⟩ oZ (Sub.same rfl (Sub.val rfl (by simp) Sub.nil))
  rw [ek] at hc
  rcases Nat.lt_or_ge i k with h4|h4
  ·exact hin i h1 h4 h3
  ·obtain rfl:i=k:=oZ
   omega
 ·refine ajA rfl rfl (Ext.refl _) ?_
  have:Inc xs:=zdA λ i h1 h2=>hin i h1 oZ h2
  simp [this]
theorem x8A (w:World) (a:Int):Fc Tryz.prog 212 #[.int .u16 a] w (Ret w (.val (.bool false))):=by
 refine Fc.of (args:=[_]) Tryz.func212 rfl rfl Tryz.ntmps212 nZ ?_
 repeat' (first|(refine yL ?_;first|refine a0A rfl ?_|refine yO ?_|(refine yC ?_ ?_<;>intro hc)|(refine yN hK ?_;clear hK K))|refine wG ?_|(refine yR ?_;intro K hK)|fail)
 exact ajA rfl rfl (Ext.refl _) rfl
theorem x7A (w:World) (a:Int):Fc Tryz.prog 192 #[.int .u16 a] w (Ret w (.val (.bool false))):=by
 refine Fc.of (args:=[_]) Tryz.func192 rfl rfl Tryz.ntmps192 nZ ?_
 repeat' (first|(refine yL ?_;first|refine a0A rfl ?_|refine yO ?_|(refine yC ?_ ?_<;>intro hc)|(refine yN hK ?_;clear hK K))|refine wG ?_|(refine yR ?_;intro K hK)|fail)
 exact ajA rfl rfl (Ext.refl _) rfl
theorem z9A (w:World) (a b:Int):Fc Tryz.prog 191 #[.int .u16 a,.int .u16 b] w (Ret w (.val (.bool (decide (a<b))))):=by
 refine Fc.of (args:=[_,_]) Tryz.func191 rfl rfl Tryz.ntmps191 nZ ?_
 repeat' (first|(refine yL ?_;first|refine a0A rfl ?_|refine yO ?_|(refine yC ?_ ?_<;>intro hc)|(refine yV ?_;first|(refine oC 212 ?_;refine a1A (f:=212) rfl rfl rfl  (.val (.bool false)) (by intro u1 w e hu1;(try obtain rfl:u1=_:=hu1);exact x8A _ _) ?_))|(refine yN hK ?_;clear hK K))|refine wG ?_|(refine yR ?_;intro K hK)|fail)
 all_goals (refine ajA rfl rfl (Ext.refl _) ?_;simp [hc])
theorem bs_c (w:World) (v:Value) (xs:List Int) (x:Int) (h:SlI .u16 w v xs) (hb:xs.length≤4611686018427387903):Fc Tryz.prog 148 #[v,.int .u16 x] w (Ret w (.tup2 (.val (.int .i64 (bsS xs x))) (.val (.bool (hdA xs x))))):=by
 refine Fc.of (args:=[_,_]) Tryz.func148 rfl rfl Tryz.ntmps148 nZ ?_
 repeat' (first|(refine yL ?_;first|refine a0A rfl ?_|refine yO ?_|(refine yC ?_ ?_<;>intro hc)|(refine yN hK ?_;clear hK K))|refine wG ?_|(refine yR ?_;intro K hK)|fail)
 refine ciA (ι:=Nat × Nat) (λ k=>[(0,.val v),(1,.val (.int .u16 x)),(6,.val (.int .i64 xs.length)),(7,.val (.int .i64 k.1)),(8,.val (.int .i64 k.2))]) (λ k=>k.1≤k.2∧k.2≤xs.length∧bsGo xs x k.1 k.2=bsS xs x) (λ k=>k.2-k.1) (0,xs.length)
  ⟨by simp,by simp,rfl⟩ (Sub.same rfl (Sub.same rfl (Sub.same rfl (Sub.same rfl (Sub.same rfl Sub.nil))))) ?_
 rintro ⟨i,j⟩ ⟨h1,h2,h3⟩;dsimp only at h1 h2 h3 ⊢;have em:(((i:Int)+j) / 2).toNat=(i+j) / 2:=oZ
 repeat' (first|(refine yL ?_;first|refine a0A rfl ?_|refine yO ?_|(refine yC ?_ ?_<;>intro hc)|(refine yV ?_;first|(refine oC 191 ?_;refine a5A (f:=191) rfl rfl rfl rfl  (.val (.bool (decide (xs.getD ((i+j) / 2) 0<x)))) (by intro u1 u2 w e hu1 hu2;(try obtain rfl:u1=_:=hu1);(try obtain rfl:u2=_:=hu2);exact (by rw [em];exact z9A _ _ _)) ?_)|(refine oC 192 ?_;refine a1A (f:=192) rfl rfl rfl  (.val (.bool false)) (by intro u1 w e hu1;(try obtain rfl:u1=_:=hu1);exact x7A _ _) ?_))|(refine yN hK ?_;clear hK K))|refine wG ?_|(refine yR ?_;intro K hK)|(refine oCX ?_;first|refine oiA rfl (λ hc=>?_) (λ hc=>?_))|fail)
 ·rw [decide_eq_true_eq] at hc
  rename_i hc1
  refine czA ((i+j) / 2+1,j) ⟨?_,h2,?_⟩ ?_ sZ
  ·dsimp only;omega
  ·rw [← h3];conv=>rhs;rw [bsGo,if_pos oZ,if_pos hc]
  ·dsimp only;omega
 ·rw [decide_eq_false_iff_not] at hc
  rename_i hc1
  refine czA (i,(i+j) / 2) ⟨?_,?_,?_⟩ ?_ sZ
  ·dsimp only;omega
  ·dsimp only;omega
  ·rw [← h3];conv=>rhs;rw [bsGo,if_pos oZ,if_neg hc]
  ·dsimp only;omega
 all_goals
  rename_i hc1
  have e1:i=bsS xs x:=by rw [← h3,bsGo,if_neg oZ]
  refine htA rfl rfl rfl (Ext.refl _) (by rw [e1]) ?_
  unfold hdA;rw [← e1]
 ·have:i<xs.length:=oZ
  rw [bbA this] at hc;simp [this,hc]
 ·have h7:i<xs.length:=oZ
  rw [bbA h7] at hc;simp [h7,hc]
 ·have:¬ i<xs.length:=oZ
  simp [this]
theorem v9A (n:Int):IntKind.u16.wrap n=n % 65536:=by simp [IntKind.wrap,IntKind.bits,IntKind.signed]
theorem yuA (w:World) (v:Value) (xs:List Int) (h:SlI .u16 w v xs):Fc Tryz.prog 175 #[v] w (Ret w (.val (.int .i64 (wcA xs)))):=by
 have hl:=h.len;refine Fc.of (args:=[_]) Tryz.func175 rfl rfl Tryz.ntmps175 nZ ?_
 repeat' (first|(refine yL ?_;first|refine a0A rfl ?_|refine yO ?_|(refine yC ?_ ?_<;>intro hc)|(refine yN hK ?_;clear hK K))|refine wG ?_|(refine yR ?_;intro K hK)|fail)
 refine ciA (ι:=Nat) (λ k=>[(0,.val v),(6,.val v),(7,.val (.int .i64 xs.length)),(8,.val (.int .i64 k)),(3,.val (.int .i64 (hbA xs k)))]) (λ k=>k≤xs.length) (λ k=>xs.length-k) 0 oZ sZ ?_
 intro k hk;have hr:=psA xs k;have hs:=i6A xs k;have ek:((k:Int)-1).toNat=k-1:=oZ
 repeat' (first|(refine yL ?_;first|refine a0A rfl ?_|refine yO ?_|(refine yC ?_ ?_<;>intro hc)|(refine yN hK ?_;clear hK K))|refine wG ?_|(refine yR ?_;intro K hK)|fail)
 ·rename_i hc1
  obtain rfl:k=0:=oZ;simp only [i9A,true_or,decide_true,if_true] at hs;refine czA 1 ?_ ?_ sZ
  ·omega
  ·omega
 ·rename_i hc1 hc2
  rw [v9A,ek] at hc;have e:i9A xs k=true:=by simp only [i9A,decide_eq_true_eq];exact .inr hc
  rw [e] at hs;simp only [if_true] at hs;refine czA (k+1) ?_ ?_ sZ
  ·omega
  ·omega
 ·rename_i hc1 hc2
  rw [v9A,ek] at hc;have e:i9A xs k=false:=by
   simp only [i9A,decide_eq_false_iff_not,not_or];exact ⟨λ h=>hc2 oZ,hc⟩
  rw [e] at hs;simp only [Bool.false_eq_true,if_false] at hs;refine czA (k+1) ?_ ?_ sZ
  ·omega
  ·omega
 ·refine ajA rfl rfl (Ext.refl _) ?_
  obtain rfl:k=xs.length:=oZ;rfl
theorem or1_c (x y:Bool) (w:World):Fc Tryz.prog 154 #[.bool x,.bool y] w (Ret w (.val (.bool (fOr x y)))):=by
 refine Fc.of (args:=[_,_]) Tryz.func154 rfl rfl Tryz.ntmps154 nZ ?_
 repeat' (first|(refine yL ?_;first|refine a0A rfl ?_|refine yO ?_|(refine yC ?_ ?_<;>intro hc)|(refine yN hK ?_;clear hK K))|refine wG ?_|(refine yR ?_;intro K hK)|fail)
 exact ajA rfl rfl (Ext.refl _) rfl
theorem x0A (F:Bool→Bool→Bool) (ft:FuncId) (hT:∀ x y w,Fc Tryz.prog ft #[.bool x,.bool y] w (Ret w (.val (.bool (F x y))))) (w:World) (va vb:Value) (xs ys:List Int) (ha:SlI .u16 w va xs) (hb:SlI .u16 w vb ys) (hlen:xs.length+ys.length≤70368744177663) :
 Fc Tryz.prog 153 #[va,vb,.func (.func ft) #[] #[]] w (Ret w (.pred (axA w.heap.size 31 .u16 (b6A F xs ys)))):=by
 refine Fc.of (args:=[_,_,_]) Tryz.func153 rfl rfl Tryz.ntmps153 nZ ?_
 repeat' (first|(refine yL ?_;first|refine a0A rfl ?_|refine yO ?_|(refine yC ?_ ?_<;>intro hc)|(refine yN hK ?_;clear hK K))|refine wG ?_|(refine yR ?_;intro K hK)|fail)
 refine aaA (ι:=(List Int × List Int × List Int) × Value × Value × Value) (λ i=>[(0,.val i.2.1),(1,.val i.2.2.1),(2,.val (.func (.func ft) #[] #[])),(7,.val i.2.2.2)])
  (λ i wr=>Ext w wr∧SlI .u16 w i.2.1 i.1.1∧SlI .u16 w i.2.2.1 i.1.2.1∧OwnI w.heap.size 31 .u16 wr i.2.2.2 i.1.2.2∧b6A F xs ys=i.1.2.2++b6A F i.1.1 i.1.2.1∧i.1.2.2.length+i.1.1.length+i.1.2.1.length≤xs.length+ys.length)
  (λ i=>i.1.1.length+i.1.2.1.length) ?_ ?_
 ·exact λ wr he=>⟨((xs,ys,[]),va,vb,.slice none 0 0),⟨he,ha,hb,OwnI.nil,rfl,by simp⟩,sZ⟩
 ·rintro ⟨⟨l1,l2,l3⟩,a,b,o⟩ wb ⟨he,h1,h2,h3,h4,h5⟩
  dsimp only at h1 h2 h3 h4 h5 ⊢;have h1':=h1.ext he;have h2':=h2.ext he;have ho:=h3
  repeat' (first|(refine yL ?_;first|refine a0A rfl ?_|refine ftA rfl h9A rfl rfl ?_|(refine a3A (hK _ _ (dbA rfl dZ h9A rfl ho rfl oZ oZ he (λ v' w' he' ho'=>?_)));clear hK K;dsimp only [vals];refine abA kZ (λ K hK=>?_))|refine yO ?_|(refine yC ?_ ?_<;>intro hc)|(refine yV ?_;first|refine a5A (f:=ft) (r1:=.val (.bool _)) (r2:=.val (.bool _)) rfl rfl rfl rfl (.val (.bool (F _ _))) (by intro u1 u2 w e hu1 hu2;obtain rfl:u1=_:=hu1;obtain rfl:u2=_:=hu2;exact hT _ _ _) ?_)|(refine yN hK ?_;clear hK K))|refine wG ?_|(refine yR ?_;intro K hK)|(refine oCX ?_;first|refine oiA rfl (λ hc=>?_) (λ hc=>?_))|fail)
  ·refine a4A ((l1.drop 1,l2,l3++[l1.getD 0 0]),fbA a 1 l1.length 1,b,v') (λ w2 e2=>⟨he'.trans e2,h1.drop oZ,h2,ho'.ext e2,?_,?_⟩) ?_ sZ
   ·dsimp only;rw [h4,qeA F oZ oZ,hc];simp
   ·dsimp only;simp only [List.length_append,List.length_drop,List.length_cons,List.length_nil];omega
   ·dsimp only;simp only [List.length_drop];omega
  ·refine a4A ((l1.drop 1,l2,l3),fbA a 1 l1.length 1,b,o) (λ w2 e2=>⟨he.trans e2,h1.drop oZ,h2,ho.ext e2,?_,?_⟩) ?_ sZ
   ·dsimp only;rw [h4,qeA F oZ oZ,hc];simp
   ·dsimp only;simp only [List.length_append,List.length_drop,List.length_cons,List.length_nil];omega
   ·dsimp only;simp only [List.length_drop];omega
  ·refine a4A ((l1.drop 1,l2.drop 1,l3++[l2.getD 0 0]),fbA a 1 l1.length 1,fbA b 1 l2.length 1,v') (λ w2 e2=>⟨he'.trans e2,h1.drop oZ,h2.drop oZ,ho'.ext e2,?_,?_⟩) ?_ sZ
   ·dsimp only;rw [h4,nmA F oZ oZ oZ,hc];simp
   ·dsimp only;simp only [List.length_append,List.length_drop,List.length_cons,List.length_nil];omega
   ·dsimp only;simp only [List.length_drop];omega
  ·refine a4A ((l1.drop 1,l2.drop 1,l3),fbA a 1 l1.length 1,fbA b 1 l2.length 1,o) (λ w2 e2=>⟨he.trans e2,h1.drop oZ,h2.drop oZ,ho.ext e2,?_,?_⟩) ?_ sZ
   ·dsimp only;rw [h4,nmA F oZ oZ oZ,hc];simp
   ·dsimp only;simp only [List.length_append,List.length_drop,List.length_cons,List.length_nil];omega
   ·dsimp only;simp only [List.length_drop];omega
  ·refine a4A ((l1.drop 1,l2,l3++[l1.getD 0 0]),fbA a 1 l1.length 1,b,v') (λ w2 e2=>⟨he'.trans e2,h1.drop oZ,h2,ho'.ext e2,?_,?_⟩) ?_ sZ
   ·dsimp only;rw [h4,nkA F oZ oZ oZ,hc];simp
   ·dsimp only;simp only [List.length_append,List.length_drop,List.length_cons,List.length_nil];omega
   ·dsimp only;simp only [List.length_drop];omega
  ·refine a4A ((l1.drop 1,l2,l3),fbA a 1 l1.length 1,b,o) (λ w2 e2=>⟨he.trans e2,h1.drop oZ,h2,ho.ext e2,?_,?_⟩) ?_ sZ
   ·dsimp only;rw [h4,nkA F oZ oZ oZ,hc];simp
   ·dsimp only;simp only [List.length_append,List.length_drop,List.length_cons,List.length_nil];omega
   ·dsimp only;simp only [List.length_drop];omega
  ·refine a4A ((l1,l2.drop 1,l3++[l2.getD 0 0]),a,fbA b 1 l2.length 1,v') (λ w2 e2=>⟨he'.trans e2,h1,h2.drop oZ,ho'.ext e2,?_,?_⟩) ?_ sZ
   ·dsimp only;rw [h4,nlA F oZ oZ oZ,hc];simp
   ·dsimp only;simp only [List.length_append,List.length_drop,List.length_cons,List.length_nil];omega
   ·dsimp only;simp only [List.length_drop];omega
  ·refine a4A ((l1,l2.drop 1,l3),a,fbA b 1 l2.length 1,o) (λ w2 e2=>⟨he.trans e2,h1,h2.drop oZ,ho.ext e2,?_,?_⟩) ?_ sZ
   ·dsimp only;rw [h4,nlA F oZ oZ oZ,hc];simp
   ·dsimp only;simp only [List.length_append,List.length_drop,List.length_cons,List.length_nil];omega
   ·dsimp only;simp only [List.length_drop];omega
  ·refine a4A ((l1,l2.drop 1,l3++[l2.getD 0 0]),a,fbA b 1 l2.length 1,v') (λ w2 e2=>⟨he'.trans e2,h1,h2.drop oZ,ho'.ext e2,?_,?_⟩) ?_ sZ
   ·dsimp only;rw [h4,qdA F oZ oZ,hc];simp
   ·dsimp only;simp only [List.length_append,List.length_drop,List.length_cons,List.length_nil];omega
   ·dsimp only;simp only [List.length_drop];omega
  ·refine a4A ((l1,l2.drop 1,l3),a,fbA b 1 l2.length 1,o) (λ w2 e2=>⟨he.trans e2,h1,h2.drop oZ,ho.ext e2,?_,?_⟩) ?_ sZ
   ·dsimp only;rw [h4,qdA F oZ oZ,hc];simp
   ·dsimp only;simp only [List.length_append,List.length_drop,List.length_cons,List.length_nil];omega
   ·dsimp only;simp only [List.length_drop];omega
  ·refine aiA rfl rfl he (λ u w2 e2 hu=>?_)
   obtain rfl:u=o:=hu;have e1:l1=[]:=List.eq_nil_of_length_eq_zero oZ;have e3:l2=[]:=List.eq_nil_of_length_eq_zero oZ;have e4:b6A F xs ys=l3:=by rw [h4,e1,e3];simp [b6A]
   rw [e4];exact ho.ext e2
theorem or_c (w:World) (va vb:Value) (xs ys:List Int) (ha:SlI .u16 w va xs) (hb:SlI .u16 w vb ys) (hlen:xs.length+ys.length≤70368744177663) :
 Fc Tryz.prog 113 #[va,vb] w (Ret w (.pred (axA w.heap.size 31 .u16 (b6A fOr xs ys)))):=by
 refine Fc.of (args:=[_,_]) Tryz.func113 rfl rfl Tryz.ntmps113 nZ ?_
 repeat' (first|(refine yL ?_;first|refine a0A rfl ?_|refine yO ?_|(refine yC ?_ ?_<;>intro hc)|(refine yV ?_;first|(refine oC 153 ?_;refine bcA (f:=153) rfl rfl rfl rfl rfl  (.pred (axA w.heap.size 31 .u16 (b6A fOr xs ys))) (by intro u1 u2 u3 w e hu1 hu2 hu3;(try obtain rfl:u1=_:=hu1);(try obtain rfl:u2=_:=hu2);(try obtain rfl:u3=_:=hu3);exact (x0A fOr _ or1_c _ _ _ xs ys (by first|exact hu1|exact hu2|exact hu3|exact hu4|exact hu5|exact OwnI.slI hu1|exact OwnI.slI hu2|exact OwnI.slI hu3|exact SlI.ext (by assumption) e|exact OwnI.slI (OwnI.ext (by assumption) e)) (by first|exact hu1|exact hu2|exact hu3|exact hu4|exact hu5|exact OwnI.slI hu1|exact OwnI.slI hu2|exact OwnI.slI hu3|exact SlI.ext (by assumption) e|exact OwnI.slI (OwnI.ext (by assumption) e)) hlen).mono (a6A e.size)) ?_))|(refine yN hK ?_;clear hK K))|refine wG ?_|(refine yR ?_;intro K hK)|fail)
 exact aiA rfl rfl (Ext.refl _) (λ _ _ _ h=>h)
theorem xaA (f:Bool→Bool→Bool) (what:Int) (xs ys:List Int) (h:Inc xs) (h':Inc ys) (hl:Low xs) (hl':Low ys) (hm:∀ z,z ∈ b6A f xs ys↔ozA what (decide (z ∈ xs)) (decide (z ∈ ys))=true) (hff:ozA what false false=false) :
 b6A f xs ys=aeA (λ i=>ozA what (bxA xs i) (bxA ys i)) 65536:=by
 refine h1A (qcA _ _ _ h h') (bzA _ _) λ z=>?_
 rw [hm,byA]
 constructor
 ·intro hz
  have:0≤z∧z<65536:=by
   by_cases h1:z ∈ xs
   ·exact hl z h1
   ·by_cases h2:z ∈ ys
    ·exact hl' z h2
    ·rw [decide_eq_false h1,decide_eq_false h2,hff] at hz;cases hz
  exact ⟨z.toNat,by omega,by simp only [bxA,show ((z.toNat:Nat):Int)=z by omega];exact hz,by omega⟩
 ·rintro ⟨i,g1,g2,rfl⟩
  exact g2
section
variable {xs ys:List Int} (h:Inc xs) (h':Inc ys) (hl:Low xs) (hl':Low ys)
include h h' hl hl'
theorem z2A:b6A fOr xs ys=aeA (λ i=>ozA 2 (bxA xs i) (bxA ys i)) 65536:=xaA _ _ _ _ h h' hl hl' (λ z=>by rw [z7A h h'];simp [ozA]) rfl
end
end Go.Proofs.YtbokphkfojijoaaGreatDoor
end
