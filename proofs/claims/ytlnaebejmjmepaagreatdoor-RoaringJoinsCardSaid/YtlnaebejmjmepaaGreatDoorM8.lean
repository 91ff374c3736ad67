import Derived.Test.YtlnaebejmjmepaaGreatDoorM5
import Derived.Test.YtlnaebejmjmepaaGreatDoorM7
set_option linter.unusedSimpArgs false
set_option linter.unusedVariables false
set_option maxRecDepth 3000
set_option maxHeartbeats 16000000
section
namespace Go.Proofs.YtlnaebejmjmepaaGreatDoor
open Go.LA Go.ArrP Go.RowKit
section
variable (w:World) (v u:Value) (p q:Nat→Bool) (h:SlI .u64 w v (wordsOf p))
theorem kqA (n:Nat) (hn:n≤65536):cnt (cdA (wordsOf p)) n=cnt p n:=cnA n λ i hi=>ceA p oZ
theorem jhA:adA (cdA (wordsOf p)) 65536=adA p 65536:=cyA 65536 λ i hi=>ceA p hi
include h
theorem wlenP:Fc Tryz.prog 116 #[v] w (Ret w (.val (.int .i64 (cnt p 65536)))):=by
 have:=peA w v _ h (bqA p) (by rw [boA];decide);rwa [boA,kqA p _ dZ] at this
theorem a7B (x:Int) (hx:-9223372036854775808≤x∧x<9223372036854775808):Fc Tryz.prog 164 #[v,.int .i64 x] w (Ret w (.val (.int .i64 (cnt p (min (max x 0) 65536).toNat)))):=by
 have:=wwA w v _ x h (bqA p) (by rw [boA];decide) hx;rw [boA] at this;have e:(min (max x 0) (64*((1024:Nat):Int))).toNat=(min (max x 0) 65536).toNat:=oZ;rwa [e,kqA p _ oZ] at this
def hjA (k:Int):Int × Bool:=if 0≤k∧k<cnt p 65536 then ((adA p 65536).getD k.toNat 0,true) else (0,false)
omit h in
theorem ajB (k:Int):svA (wordsOf p) k=hjA p k:=by
 unfold svA hjA;rw [boA,show 64*min 1024 1024=65536 by decide,kqA p _ (Nat.le_refl _),jhA]
theorem wselP (hT:Tab w) (k:Int) (hk:-9223372036854775808≤k∧k<9223372036854775808):Fc Tryz.prog 167 #[v,.int .i64 k] w (Ret w (.tup2 (.val (.int .u16 (hjA p k).1)) (.val (.bool (hjA p k).2)))):=by
 have:=a5B w v _ k h (bqA p) hT hk;rwa [ajB] at this
theorem abB (hT:Tab w):Fc Tryz.prog 79 #[v] w (Ret w (.pred (bnA w.heap.size 40 .u16 (adA p 65536)))):=by
 have:=wyA w v _ h (bqA p) hT;rwa [boA,show 64*min 1024 1024=65536 by decide,jhA] at this
theorem whasP (x:Nat) (hx:x<65536):Fc Tryz.prog 169 #[v,.int .u16 x] w (Ret w (.val (.bool (p x)))):=by
 have:=acB w v _ x h (bqA p) hx;rwa [ceA p hx] at this
theorem a6B:Fc Tryz.prog 118 #[v] w (Ret w (.val (.int .i64 (cnt (bcA p) 65536)))):=by
 have:=wvA w v _ h (bqA p) (by rw [boA];decide);have e:cnt (bcA (cdA (wordsOf p))) (64*1024)=cnt (bcA p) 65536:=cnA 65536 λ i hi=>by
  unfold bcA;rw [ceA p hi]
  by_cases h0:i=0
  ·subst h0;rfl
  ·rw [ceA p oZ]
 rwa [boA,e] at this
theorem n0A (lo hi:Int) (hlo:-9223372036854775808≤lo∧lo<9223372036854775808) (hhi:-9223372036854775808≤hi∧hi<9223372036854775808) :
 Fc Tryz.prog 42 #[v,.int .i64 lo,.int .i64 hi] w (Ret w (.pred (bnA w.heap.size 39 .u64 (wordsOf (lpA p lo hi))))):=by
 have:=wzA w v _ lo hi h (bqA p) hlo hhi;rwa [byA (q:=lpA p lo hi) (λ i hi=>by unfold mjA lpA;rw [ceA p hi])] at this
omit h in
theorem knA (F:Bool→Bool→Bool):wordsOf (h2A F (wordsOf p) (wordsOf q))=wordsOf (λ i=>F (p i) (q i)):=byA λ i hi=>by
 unfold h2A;rw [boA,boA,ceA p hi,ceA q hi,decide_eq_true oZ];rfl
variable (h':SlI .u64 w u (wordsOf q))
include h'
theorem wandP:Fc Tryz.prog 101 #[v,u] w (Ret w (.pred (bnA w.heap.size 39 .u64 (wordsOf (λ i=>p i && q i))))):=by
 have:=aeB w v u _ _ h h' (bqA p) (bqA q);rwa [knA p q (λ x y=>x && y)] at this
theorem worP:Fc Tryz.prog 92 #[v,u] w (Ret w (.pred (bnA w.heap.size 39 .u64 (wordsOf (λ i=>p i || q i))))):=by
 have:=wor_c w v u _ _ h h' (bqA p) (bqA q);rwa [knA p q (λ x y=>x || y)] at this
theorem wnotP:Fc Tryz.prog 105 #[v,u] w (Ret w (.pred (bnA w.heap.size 39 .u64 (wordsOf (λ i=>p i && !q i))))):=by
 have:=aaB w v u _ _ h h' (bqA p) (bqA q);rwa [knA p q (λ x y=>x && !y)] at this
theorem wxorP:Fc Tryz.prog 108 #[v,u] w (Ret w (.pred (bnA w.heap.size 39 .u64 (wordsOf (λ i=>!(p i == q i)))))):=by
 have:=a4B w v u _ _ h h' (bqA p) (bqA q);rwa [knA p q (λ x y=>!(x == y))] at this
end
structure Hid (P:Prop):Prop where
 out:P
theorem otA {w:World} {base base' e:Nat} {xs ys:List Int} {k:IntKind} (hb:base'≤base) (hx:xs=ys) (en:Ending) (w':World) (h:Ret w (.pred (bnA base e k xs)) en w'):Ret w (.pred (bnA base' e k ys)) en w':=hx▸aaA hb en w' h
theorem tpA {f:FuncId} {args:Array Value} {w:World} {a b a' b':Value} (ha:a=a') (hb:b=b') (h:Fc Tryz.prog f args w (Ret w (.tup2 (.val a) (.val b)))):Fc Tryz.prog f args w (Ret w (.tup2 (.val a') (.val b'))):=by
 subst ha;subst hb;exact h
theorem bdB (w:World) (v:Value) (xs:List Int) (h:SlI .u16 w v xs):Fc Tryz.prog 38 #[v] w (Ret w (.val (.bool (decide (Inc xs))))):=by
 have hl:=h.len;refine Fc.of (args:=[_]) Tryz.func38 rfl rfl Tryz.ntmps38 nZ ?_
 repeat' (first|(refine yL ?_;first|refine a0A rfl ?_|refine yO ?_|(refine yC ?_ ?_<;>intro hc)|(refine yN hK ?_;clear hK K))|refine wG ?_|(refine yR ?_;intro K hK)|fail)
 refine b5A (ι:=Nat) (λ k=>[(0,.val v),(3,.val (.int .i64 k))]) (λ k=>1≤k∧∀ i,1≤i→i<k→i<xs.length→xs.getD (i-1) 0<xs.getD i 0) (λ k=>xs.length-k) 1 ⟨by omega,λ i h1 h2=>by omega⟩ (Sub.same rfl (Sub.same rfl Sub.nil)) ?_
 rintro k ⟨hk,hin⟩;have ek:((k:Int)-1).toNat=k-1:=oZ
 repeat' (first|(refine yL ?_;first|refine a0A rfl ?_|refine yO ?_|(refine yC ?_ ?_<;>intro hc)|(refine yN hK ?_;clear hK K))|refine wG ?_|(refine yR ?_;intro K hK)|fail)
 ·refine a9A rfl rfl (Ext.refl _) ?_
  rw [ek] at hc;have:¬ Inc xs:=λ hi=>by have:=hi.at (i:=k-1) (j:=k) oZ oZ;omega
  simp [this]
 ·refine bpA (k+1) ⟨by omega,λ i h1 h2 h3=>?_⟩ oZ (Sub.same rfl (Sub.val rfl (by simp) Sub.nil))
  rw [ek] at hc
  rcases Nat.lt_or_ge i k with h4|h4
  ·exact hin i h1 h4 h3
  ·obtain rfl:i=k:=oZ
   omega
 ·refine a9A rfl rfl (Ext.refl _) ?_
  have:Inc xs:=r8A λ i h1 h2=>hin i h1 oZ h2
  simp [this]
theorem ypA (w:World) (a:Int):Fc Tryz.prog 192 #[.int .u16 a] w (Ret w (.val (.bool false))):=by
 refine Fc.of (args:=[_]) Tryz.func192 rfl rfl Tryz.ntmps192 nZ ?_
 repeat' (first|(refine yL ?_;first|refine a0A rfl ?_|refine yO ?_|(refine yC ?_ ?_<;>intro hc)|(refine yN hK ?_;clear hK K))|refine wG ?_|(refine yR ?_;intro K hK)|fail)
 exact a9A rfl rfl (Ext.refl _) rfl
theorem yoA (w:World) (a:Int):Fc Tryz.prog 172 #[.int .u16 a] w (Ret w (.val (.bool false))):=by
 refine Fc.of (args:=[_]) Tryz.func172 rfl rfl Tryz.ntmps172 nZ ?_
 repeat' (first|(refine yL ?_;first|refine a0A rfl ?_|refine yO ?_|(refine yC ?_ ?_<;>intro hc)|(refine yN hK ?_;clear hK K))|refine wG ?_|(refine yR ?_;intro K hK)|fail)
 exact a9A rfl rfl (Ext.refl _) rfl
theorem bfB (w:World) (a b:Int):Fc Tryz.prog 171 #[.int .u16 a,.int .u16 b] w (Ret w (.val (.bool (decide (a<b))))):=by
 refine Fc.of (args:=[_,_]) Tryz.func171 rfl rfl Tryz.ntmps171 nZ ?_
 repeat' (first|(refine yL ?_;first|refine a0A rfl ?_|refine yO ?_|(refine yC ?_ ?_<;>intro hc)|(refine yV ?_;first|(refine oC 192 ?_;refine a2A (f:=192) rfl rfl rfl  (.val (.bool false)) (by intro u1 w e hu1;(try obtain rfl:u1=_:=hu1);exact ypA _ _) ?_))|(refine yN hK ?_;clear hK K))|refine wG ?_|(refine yR ?_;intro K hK)|fail)
 all_goals (refine a9A rfl rfl (Ext.refl _) ?_;simp [hc])
theorem bs_c (w:World) (v:Value) (xs:List Int) (x:Int) (h:SlI .u16 w v xs) (hb:xs.length≤4611686018427387903):Fc Tryz.prog 126 #[v,.int .u16 x] w (Ret w (.tup2 (.val (.int .i64 (bsS xs x))) (.val (.bool (dcA xs x))))):=by
 refine Fc.of (args:=[_,_]) Tryz.func126 rfl rfl Tryz.ntmps126 nZ ?_
 repeat' (first|(refine yL ?_;first|refine a0A rfl ?_|refine yO ?_|(refine yC ?_ ?_<;>intro hc)|(refine yN hK ?_;clear hK K))|refine wG ?_|(refine yR ?_;intro K hK)|fail)
 refine b5A (ι:=Nat × Nat) (λ k=>[(0,.val v),(1,.val (.int .u16 x)),(6,.val (.int .i64 xs.length)),(7,.val (.int .i64 k.1)),(8,.val (.int .i64 k.2))]) (λ k=>k.1≤k.2∧k.2≤xs.length∧bsGo xs x k.1 k.2=bsS xs x) (λ k=>k.2-k.1) (0,xs.length)
  ⟨by simp,by simp,rfl⟩ (Sub.same rfl (Sub.same rfl (Sub.same rfl (Sub.same rfl (Sub.same rfl Sub.nil))))) ?_
 rintro ⟨i,j⟩ ⟨h1,h2,h3⟩;dsimp only at h1 h2 h3 ⊢;have em:(((i:Int)+j) / 2).toNat=(i+j) / 2:=oZ
 repeat' (first|(refine yL ?_;first|refine a0A rfl ?_|refine yO ?_|(refine yC ?_ ?_<;>intro hc)|(refine yV ?_;first|(refine oC 171 ?_;refine a3A (f:=171) rfl rfl rfl rfl  (.val (.bool (decide (xs.getD ((i+j) / 2) 0<x)))) (by intro u1 u2 w e hu1 hu2;(try obtain rfl:u1=_:=hu1);(try obtain rfl:u2=_:=hu2);exact (by rw [em];exact bfB _ _ _)) ?_)|(refine oC 172 ?_;refine a2A (f:=172) rfl rfl rfl  (.val (.bool false)) (by intro u1 w e hu1;(try obtain rfl:u1=_:=hu1);exact yoA _ _) ?_))|(refine yN hK ?_;clear hK K))|refine wG ?_|(refine yR ?_;intro K hK)|(refine oCX ?_;first|refine omA rfl (λ hc=>?_) (λ hc=>?_))|fail)
 ·rw [decide_eq_true_eq] at hc
  rename_i hc1
  refine bpA ((i+j) / 2+1,j) ⟨?_,h2,?_⟩ ?_ sZ
  ·dsimp only;omega
  ·rw [← h3];conv=>rhs;rw [bsGo,if_pos oZ,if_pos hc]
  ·dsimp only;omega
 ·rw [decide_eq_false_iff_not] at hc
  rename_i hc1
  refine bpA (i,(i+j) / 2) ⟨?_,?_,?_⟩ ?_ sZ
  ·dsimp only;omega
  ·dsimp only;omega
  ·rw [← h3];conv=>rhs;rw [bsGo,if_pos oZ,if_neg hc]
  ·dsimp only;omega
 all_goals
  rename_i hc1
  have e1:i=bsS xs x:=by rw [← h3,bsGo,if_neg oZ]
  refine bgA rfl rfl rfl (Ext.refl _) (by rw [e1]) ?_
  unfold dcA;rw [← e1]
 ·have:i<xs.length:=oZ
  rw [awA this] at hc;simp [this,hc]
 ·have h7:i<xs.length:=oZ
  rw [awA h7] at hc;simp [h7,hc]
 ·have:¬ i<xs.length:=oZ
  simp [this]
theorem woA (w:World) (v:Value) (xs:List Int) (x:Int) (h:SlI .u16 w v xs) (hb:xs.length≤4611686018427387903):Fc Tryz.prog 163 #[v,.int .u16 x] w (Ret w (.tup2 (.val (.int .i64 (bsS xs x))) (.val (.bool (dcA xs x))))):=by
 refine Fc.of (args:=[_,_]) Tryz.func163 rfl rfl Tryz.ntmps163 nZ ?_
 repeat' (first|(refine yL ?_;first|refine a0A rfl ?_|refine yO ?_|(refine yC ?_ ?_<;>intro hc)|(refine yV ?_;first|(refine oC 126 ?_;refine a3A (f:=126) rfl rfl rfl rfl  (.tup2 (.val (.int .i64 (bsS xs x))) (.val (.bool (dcA xs x)))) (by intro u1 u2 w e hu1 hu2;(try obtain rfl:u1=_:=hu1);(try obtain rfl:u2=_:=hu2);exact bs_c _ _ _ _ (by first|exact hu1|exact hu2|exact hu3|exact hu4|exact hu5|exact OwnI.slI hu1|exact OwnI.slI hu2|exact OwnI.slI hu3|exact SlI.ext (by assumption) e|exact OwnI.slI (OwnI.ext (by assumption) e)) hb) ?_))|(refine yN hK ?_;clear hK K))|refine wG ?_|(refine yR ?_;intro K hK)|fail)
 exact bgA rfl rfl rfl (Ext.refl _) rfl rfl
theorem w3A (n:Int):IntKind.u16.wrap n=n % 65536:=by simp [IntKind.wrap,IntKind.bits,IntKind.signed]
theorem anB (w:World) (v:Value) (xs:List Int) (h:SlI .u16 w v xs):Fc Tryz.prog 119 #[v] w (Ret w (.val (.int .i64 (xeA xs)))):=by
 have hl:=h.len;refine Fc.of (args:=[_]) Tryz.func119 rfl rfl Tryz.ntmps119 nZ ?_
 repeat' (first|(refine yL ?_;first|refine a0A rfl ?_|refine yO ?_|(refine yC ?_ ?_<;>intro hc)|(refine yN hK ?_;clear hK K))|refine wG ?_|(refine yR ?_;intro K hK)|fail)
 refine b5A (ι:=Nat) (λ k=>[(0,.val v),(6,.val v),(7,.val (.int .i64 xs.length)),(8,.val (.int .i64 k)),(3,.val (.int .i64 (hdA xs k)))]) (λ k=>k≤xs.length) (λ k=>xs.length-k) 0 oZ sZ ?_
 intro k hk;have hr:=pxA xs k;have hs:=i4A xs k;have ek:((k:Int)-1).toNat=k-1:=oZ
 repeat' (first|(refine yL ?_;first|refine a0A rfl ?_|refine yO ?_|(refine yC ?_ ?_<;>intro hc)|(refine yN hK ?_;clear hK K))|refine wG ?_|(refine yR ?_;intro K hK)|fail)
 ·rename_i hc1
  obtain rfl:k=0:=oZ;simp only [i7A,true_or,decide_true,if_true] at hs;refine bpA 1 ?_ ?_ sZ
  ·omega
  ·omega
 ·rename_i hc1 hc2
  rw [w3A,ek] at hc;have e:i7A xs k=true:=by simp only [i7A,decide_eq_true_eq];exact .inr hc
  rw [e] at hs;simp only [if_true] at hs;refine bpA (k+1) ?_ ?_ sZ
  ·omega
  ·omega
 ·rename_i hc1 hc2
  rw [w3A,ek] at hc;have e:i7A xs k=false:=by
   simp only [i7A,decide_eq_false_iff_not,not_or];exact ⟨λ h=>hc2 oZ,hc⟩
  rw [e] at hs;simp only [Bool.false_eq_true,if_false] at hs;refine bpA (k+1) ?_ ?_ sZ
  ·omega
  ·omega
 ·refine a9A rfl rfl (Ext.refl _) ?_
  obtain rfl:k=xs.length:=oZ;rfl
theorem or1_c (x y:Bool) (w:World):Fc Tryz.prog 132 #[.bool x,.bool y] w (Ret w (.val (.bool (fOr x y)))):=by
 refine Fc.of (args:=[_,_]) Tryz.func132 rfl rfl Tryz.ntmps132 nZ ?_
 repeat' (first|(refine yL ?_;first|refine a0A rfl ?_|refine yO ?_|(refine yC ?_ ?_<;>intro hc)|(refine yN hK ?_;clear hK K))|refine wG ?_|(refine yR ?_;intro K hK)|fail)
 exact a9A rfl rfl (Ext.refl _) rfl
theorem byB (x y:Bool) (w:World):Fc Tryz.prog 143 #[.bool x,.bool y] w (Ret w (.val (.bool (uuA x y)))):=by
 cases x <;> cases y
 all_goals
  refine Fc.of (args:=[_,_]) Tryz.func143 rfl rfl Tryz.ntmps143 nZ ?_
  repeat' (first|(refine yL ?_;first|refine a0A rfl ?_|refine yO ?_|(refine yC ?_ ?_<;>intro hc)|(refine yN hK ?_;clear hK K))|refine wG ?_|(refine yR ?_;intro K hK)|fail)
  exact a9A rfl rfl (Ext.refl _) rfl
theorem a3B (x y:Bool) (w:World):Fc Tryz.prog 149 #[.bool x,.bool y] w (Ret w (.val (.bool (usA x y)))):=by
 refine Fc.of (args:=[_,_]) Tryz.func149 rfl rfl Tryz.ntmps149 nZ ?_
 repeat' (first|(refine yL ?_;first|refine a0A rfl ?_|refine yO ?_|(refine yC ?_ ?_<;>intro hc)|(refine yN hK ?_;clear hK K))|refine wG ?_|(refine yR ?_;intro K hK)|fail)
 exact a9A rfl rfl (Ext.refl _) rfl
theorem b9B (x y:Bool) (w:World):Fc Tryz.prog 146 #[.bool x,.bool y] w (Ret w (.val (.bool (sxA x y)))):=by
 refine Fc.of (args:=[_,_]) Tryz.func146 rfl rfl Tryz.ntmps146 nZ ?_
 repeat' (first|(refine yL ?_;first|refine a0A rfl ?_|refine yO ?_|(refine yC ?_ ?_<;>intro hc)|(refine yN hK ?_;clear hK K))|refine wG ?_|(refine yR ?_;intro K hK)|fail)
 exact a9A rfl rfl (Ext.refl _) rfl
theorem kbA (F:Bool→Bool→Bool) (ft:FuncId) (hT:∀ x y w,Fc Tryz.prog ft #[.bool x,.bool y] w (Ret w (.val (.bool (F x y))))) (w:World) (va vb:Value) (xs ys:List Int) (ha:SlI .u16 w va xs) (hb:SlI .u16 w vb ys) (hlen:xs.length+ys.length≤70368744177663) :
 Fc Tryz.prog 131 #[va,vb,.func (.func ft) #[] #[]] w (Ret w (.pred (bnA w.heap.size 40 .u16 (axA F xs ys)))):=by
 refine Fc.of (args:=[_,_,_]) Tryz.func131 rfl rfl Tryz.ntmps131 nZ ?_
 repeat' (first|(refine yL ?_;first|refine a0A rfl ?_|refine yO ?_|(refine yC ?_ ?_<;>intro hc)|(refine yN hK ?_;clear hK K))|refine wG ?_|(refine yR ?_;intro K hK)|fail)
 refine agA (ι:=(List Int × List Int × List Int) × Value × Value × Value) (λ i=>[(0,.val i.2.1),(1,.val i.2.2.1),(2,.val (.func (.func ft) #[] #[])),(7,.val i.2.2.2)])
  (λ i wr=>Ext w wr∧SlI .u16 w i.2.1 i.1.1∧SlI .u16 w i.2.2.1 i.1.2.1∧OwnI w.heap.size 40 .u16 wr i.2.2.2 i.1.2.2∧axA F xs ys=i.1.2.2++axA F i.1.1 i.1.2.1∧i.1.2.2.length+i.1.1.length+i.1.2.1.length≤xs.length+ys.length)
  (λ i=>i.1.1.length+i.1.2.1.length) ?_ ?_
 ·exact λ wr he=>⟨((xs,ys,[]),va,vb,.slice none 0 0),⟨he,ha,hb,OwnI.nil,rfl,by simp⟩,sZ⟩
 ·rintro ⟨⟨l1,l2,l3⟩,a,b,o⟩ wb ⟨he,h1,h2,h3,h4,h5⟩
  dsimp only at h1 h2 h3 h4 h5 ⊢;have h1':=h1.ext he;have h2':=h2.ext he;have ho:=h3
  repeat' (first|(refine yL ?_;first|refine a0A rfl ?_|refine hiA rfl haA rfl rfl ?_|(refine a4A (hK _ _ (duA rfl dZ haA rfl ho rfl oZ oZ he (λ v' w' he' ho'=>?_)));clear hK K;dsimp only [vals];refine aiA kZ (λ K hK=>?_))|refine yO ?_|(refine yC ?_ ?_<;>intro hc)|(refine yV ?_;first|refine a3A (f:=ft) (r1:=.val (.bool _)) (r2:=.val (.bool _)) rfl rfl rfl rfl (.val (.bool (F _ _))) (by intro u1 u2 w e hu1 hu2;obtain rfl:u1=_:=hu1;obtain rfl:u2=_:=hu2;exact hT _ _ _) ?_)|(refine yN hK ?_;clear hK K))|refine wG ?_|(refine yR ?_;intro K hK)|(refine oCX ?_;first|refine omA rfl (λ hc=>?_) (λ hc=>?_))|fail)
  ·refine a6A ((l1.drop 1,l2,l3++[l1.getD 0 0]),epA a 1 l1.length 1,b,v') (λ w2 e2=>⟨he'.trans e2,h1.drop oZ,h2,ho'.ext e2,?_,?_⟩) ?_ sZ
   ·dsimp only;rw [h4,qsA F oZ oZ,hc];simp
   ·dsimp only;simp only [List.length_append,List.length_drop,List.length_cons,List.length_nil];omega
   ·dsimp only;simp only [List.length_drop];omega
  ·refine a6A ((l1.drop 1,l2,l3),epA a 1 l1.length 1,b,o) (λ w2 e2=>⟨he.trans e2,h1.drop oZ,h2,ho.ext e2,?_,?_⟩) ?_ sZ
   ·dsimp only;rw [h4,qsA F oZ oZ,hc];simp
   ·dsimp only;simp only [List.length_append,List.length_drop,List.length_cons,List.length_nil];omega
   ·dsimp only;simp only [List.length_drop];omega
  ·refine a6A ((l1.drop 1,l2.drop 1,l3++[l2.getD 0 0]),epA a 1 l1.length 1,epA b 1 l2.length 1,v') (λ w2 e2=>⟨he'.trans e2,h1.drop oZ,h2.drop oZ,ho'.ext e2,?_,?_⟩) ?_ sZ
   ·dsimp only;rw [h4,noA F oZ oZ oZ,hc];simp
   ·dsimp only;simp only [List.length_append,List.length_drop,List.length_cons,List.length_nil];omega
   ·dsimp only;simp only [List.length_drop];omega
  ·refine a6A ((l1.drop 1,l2.drop 1,l3),epA a 1 l1.length 1,epA b 1 l2.length 1,o) (λ w2 e2=>⟨he.trans e2,h1.drop oZ,h2.drop oZ,ho.ext e2,?_,?_⟩) ?_ sZ
   ·dsimp only;rw [h4,noA F oZ oZ oZ,hc];simp
   ·dsimp only;simp only [List.length_append,List.length_drop,List.length_cons,List.length_nil];omega
   ·dsimp only;simp only [List.length_drop];omega
  ·refine a6A ((l1.drop 1,l2,l3++[l1.getD 0 0]),epA a 1 l1.length 1,b,v') (λ w2 e2=>⟨he'.trans e2,h1.drop oZ,h2,ho'.ext e2,?_,?_⟩) ?_ sZ
   ·dsimp only;rw [h4,nmA F oZ oZ oZ,hc];simp
   ·dsimp only;simp only [List.length_append,List.length_drop,List.length_cons,List.length_nil];omega
   ·dsimp only;simp only [List.length_drop];omega
  ·refine a6A ((l1.drop 1,l2,l3),epA a 1 l1.length 1,b,o) (λ w2 e2=>⟨he.trans e2,h1.drop oZ,h2,ho.ext e2,?_,?_⟩) ?_ sZ
   ·dsimp only;rw [h4,nmA F oZ oZ oZ,hc];simp
   ·dsimp only;simp only [List.length_append,List.length_drop,List.length_cons,List.length_nil];omega
   ·dsimp only;simp only [List.length_drop];omega
  ·refine a6A ((l1,l2.drop 1,l3++[l2.getD 0 0]),a,epA b 1 l2.length 1,v') (λ w2 e2=>⟨he'.trans e2,h1,h2.drop oZ,ho'.ext e2,?_,?_⟩) ?_ sZ
   ·dsimp only;rw [h4,nnA F oZ oZ oZ,hc];simp
   ·dsimp only;simp only [List.length_append,List.length_drop,List.length_cons,List.length_nil];omega
   ·dsimp only;simp only [List.length_drop];omega
  ·refine a6A ((l1,l2.drop 1,l3),a,epA b 1 l2.length 1,o) (λ w2 e2=>⟨he.trans e2,h1,h2.drop oZ,ho.ext e2,?_,?_⟩) ?_ sZ
   ·dsimp only;rw [h4,nnA F oZ oZ oZ,hc];simp
   ·dsimp only;simp only [List.length_append,List.length_drop,List.length_cons,List.length_nil];omega
   ·dsimp only;simp only [List.length_drop];omega
  ·refine a6A ((l1,l2.drop 1,l3++[l2.getD 0 0]),a,epA b 1 l2.length 1,v') (λ w2 e2=>⟨he'.trans e2,h1,h2.drop oZ,ho'.ext e2,?_,?_⟩) ?_ sZ
   ·dsimp only;rw [h4,qrA F oZ oZ,hc];simp
   ·dsimp only;simp only [List.length_append,List.length_drop,List.length_cons,List.length_nil];omega
   ·dsimp only;simp only [List.length_drop];omega
  ·refine a6A ((l1,l2.drop 1,l3),a,epA b 1 l2.length 1,o) (λ w2 e2=>⟨he.trans e2,h1,h2.drop oZ,ho.ext e2,?_,?_⟩) ?_ sZ
   ·dsimp only;rw [h4,qrA F oZ oZ,hc];simp
   ·dsimp only;simp only [List.length_append,List.length_drop,List.length_cons,List.length_nil];omega
   ·dsimp only;simp only [List.length_drop];omega
  ·refine ajA rfl rfl he (λ u w2 e2 hu=>?_)
   obtain rfl:u=o:=hu;have e1:l1=[]:=List.eq_nil_of_length_eq_zero oZ;have e3:l2=[]:=List.eq_nil_of_length_eq_zero oZ;have e4:axA F xs ys=l3:=by rw [h4,e1,e3];simp [axA]
   rw [e4];exact ho.ext e2
theorem or_c (w:World) (va vb:Value) (xs ys:List Int) (ha:SlI .u16 w va xs) (hb:SlI .u16 w vb ys) (hlen:xs.length+ys.length≤70368744177663) :
 Fc Tryz.prog 91 #[va,vb] w (Ret w (.pred (bnA w.heap.size 40 .u16 (axA fOr xs ys)))):=by
 refine Fc.of (args:=[_,_]) Tryz.func91 rfl rfl Tryz.ntmps91 nZ ?_
 repeat' (first|(refine yL ?_;first|refine a0A rfl ?_|refine yO ?_|(refine yC ?_ ?_<;>intro hc)|(refine yV ?_;first|(refine oC 131 ?_;refine alA (f:=131) rfl rfl rfl rfl rfl  (.pred (bnA w.heap.size 40 .u16 (axA fOr xs ys))) (by intro u1 u2 u3 w e hu1 hu2 hu3;(try obtain rfl:u1=_:=hu1);(try obtain rfl:u2=_:=hu2);(try obtain rfl:u3=_:=hu3);exact (kbA fOr _ or1_c _ _ _ xs ys (by first|exact hu1|exact hu2|exact hu3|exact hu4|exact hu5|exact OwnI.slI hu1|exact OwnI.slI hu2|exact OwnI.slI hu3|exact SlI.ext (by assumption) e|exact OwnI.slI (OwnI.ext (by assumption) e)) (by first|exact hu1|exact hu2|exact hu3|exact hu4|exact hu5|exact OwnI.slI hu1|exact OwnI.slI hu2|exact OwnI.slI hu3|exact SlI.ext (by assumption) e|exact OwnI.slI (OwnI.ext (by assumption) e)) hlen).mono (aaA e.size)) ?_))|(refine yN hK ?_;clear hK K))|refine wG ?_|(refine yR ?_;intro K hK)|fail)
 exact ajA rfl rfl (Ext.refl _) (λ _ _ _ h=>h)
theorem and_c (w:World) (va vb:Value) (xs ys:List Int) (ha:SlI .u16 w va xs) (hb:SlI .u16 w vb ys) (hlen:xs.length+ys.length≤70368744177663) :
 Fc Tryz.prog 100 #[va,vb] w (Ret w (.pred (bnA w.heap.size 40 .u16 (axA uuA xs ys)))):=by
 refine Fc.of (args:=[_,_]) Tryz.func100 rfl rfl Tryz.ntmps100 nZ ?_
 repeat' (first|(refine yL ?_;first|refine a0A rfl ?_|refine yO ?_|(refine yC ?_ ?_<;>intro hc)|(refine yV ?_;first|(refine oC 131 ?_;refine alA (f:=131) rfl rfl rfl rfl rfl  (.pred (bnA w.heap.size 40 .u16 (axA uuA xs ys))) (by intro u1 u2 u3 w e hu1 hu2 hu3;(try obtain rfl:u1=_:=hu1);(try obtain rfl:u2=_:=hu2);(try obtain rfl:u3=_:=hu3);exact (kbA uuA _ byB _ _ _ xs ys (by first|exact hu1|exact hu2|exact hu3|exact hu4|exact hu5|exact OwnI.slI hu1|exact OwnI.slI hu2|exact OwnI.slI hu3|exact SlI.ext (by assumption) e|exact OwnI.slI (OwnI.ext (by assumption) e)) (by first|exact hu1|exact hu2|exact hu3|exact hu4|exact hu5|exact OwnI.slI hu1|exact OwnI.slI hu2|exact OwnI.slI hu3|exact SlI.ext (by assumption) e|exact OwnI.slI (OwnI.ext (by assumption) e)) hlen).mono (aaA e.size)) ?_))|(refine yN hK ?_;clear hK K))|refine wG ?_|(refine yR ?_;intro K hK)|fail)
 exact ajA rfl rfl (Ext.refl _) (λ _ _ _ h=>h)
theorem xor_c (w:World) (va vb:Value) (xs ys:List Int) (ha:SlI .u16 w va xs) (hb:SlI .u16 w vb ys) (hlen:xs.length+ys.length≤70368744177663) :
 Fc Tryz.prog 107 #[va,vb] w (Ret w (.pred (bnA w.heap.size 40 .u16 (axA usA xs ys)))):=by
 refine Fc.of (args:=[_,_]) Tryz.func107 rfl rfl Tryz.ntmps107 nZ ?_
 repeat' (first|(refine yL ?_;first|refine a0A rfl ?_|refine yO ?_|(refine yC ?_ ?_<;>intro hc)|(refine yV ?_;first|(refine oC 131 ?_;refine alA (f:=131) rfl rfl rfl rfl rfl  (.pred (bnA w.heap.size 40 .u16 (axA usA xs ys))) (by intro u1 u2 u3 w e hu1 hu2 hu3;(try obtain rfl:u1=_:=hu1);(try obtain rfl:u2=_:=hu2);(try obtain rfl:u3=_:=hu3);exact (kbA usA _ a3B _ _ _ xs ys (by first|exact hu1|exact hu2|exact hu3|exact hu4|exact hu5|exact OwnI.slI hu1|exact OwnI.slI hu2|exact OwnI.slI hu3|exact SlI.ext (by assumption) e|exact OwnI.slI (OwnI.ext (by assumption) e)) (by first|exact hu1|exact hu2|exact hu3|exact hu4|exact hu5|exact OwnI.slI hu1|exact OwnI.slI hu2|exact OwnI.slI hu3|exact SlI.ext (by assumption) e|exact OwnI.slI (OwnI.ext (by assumption) e)) hlen).mono (aaA e.size)) ?_))|(refine yN hK ?_;clear hK K))|refine wG ?_|(refine yR ?_;intro K hK)|fail)
 exact ajA rfl rfl (Ext.refl _) (λ _ _ _ h=>h)
theorem veA (w:World) (va vb:Value) (xs ys:List Int) (ha:SlI .u16 w va xs) (hb:SlI .u16 w vb ys) (hlen:xs.length+ys.length≤70368744177663) :
 Fc Tryz.prog 104 #[va,vb] w (Ret w (.pred (bnA w.heap.size 40 .u16 (axA sxA xs ys)))):=by
 refine Fc.of (args:=[_,_]) Tryz.func104 rfl rfl Tryz.ntmps104 nZ ?_
 repeat' (first|(refine yL ?_;first|refine a0A rfl ?_|refine yO ?_|(refine yC ?_ ?_<;>intro hc)|(refine yV ?_;first|(refine oC 131 ?_;refine alA (f:=131) rfl rfl rfl rfl rfl  (.pred (bnA w.heap.size 40 .u16 (axA sxA xs ys))) (by intro u1 u2 u3 w e hu1 hu2 hu3;(try obtain rfl:u1=_:=hu1);(try obtain rfl:u2=_:=hu2);(try obtain rfl:u3=_:=hu3);exact (kbA sxA _ b9B _ _ _ xs ys (by first|exact hu1|exact hu2|exact hu3|exact hu4|exact hu5|exact OwnI.slI hu1|exact OwnI.slI hu2|exact OwnI.slI hu3|exact SlI.ext (by assumption) e|exact OwnI.slI (OwnI.ext (by assumption) e)) (by first|exact hu1|exact hu2|exact hu3|exact hu4|exact hu5|exact OwnI.slI hu1|exact OwnI.slI hu2|exact OwnI.slI hu3|exact SlI.ext (by assumption) e|exact OwnI.slI (OwnI.ext (by assumption) e)) hlen).mono (aaA e.size)) ?_))|(refine yN hK ?_;clear hK K))|refine wG ?_|(refine yR ?_;intro K hK)|fail)
 exact ajA rfl rfl (Ext.refl _) (λ _ _ _ h=>h)
theorem kkA (f:Bool→Bool→Bool) (what:Int) (xs ys:List Int) (h:Inc xs) (h':Inc ys) (hl:Low xs) (hl':Low ys) (hm:∀ z,z ∈ axA f xs ys↔geA what (decide (z ∈ xs)) (decide (z ∈ ys))=true) (hff:geA what false false=false) :
 axA f xs ys=adA (λ i=>geA what (buA xs i) (buA ys i)) 65536:=by
 refine gbA (qqA _ _ _ h h') (bjA _ _) λ z=>?_
 rw [hm,c9A]
 constructor
 ·intro hz
  have:0≤z∧z<65536:=by
   by_cases h1:z ∈ xs
   ·exact hl z h1
   ·by_cases h2:z ∈ ys
    ·exact hl' z h2
    ·rw [decide_eq_false h1,decide_eq_false h2,hff] at hz;cases hz
  exact ⟨z.toNat,by omega,by simp only [buA,show ((z.toNat:Nat):Int)=z by omega];exact hz,by omega⟩
 ·rintro ⟨i,g1,g2,rfl⟩
  exact g2
section
variable {xs ys:List Int} (h:Inc xs) (h':Inc ys) (hl:Low xs) (hl':Low ys)
include h h' hl hl'
theorem bxB:axA uuA xs ys=adA (λ i=>geA 1 (buA xs i) (buA ys i)) 65536:=kkA _ _ _ _ h h' hl hl' (λ z=>by rw [yhA h h'];simp [geA]) rfl
theorem b2B:axA fOr xs ys=adA (λ i=>geA 2 (buA xs i) (buA ys i)) 65536:=kkA _ _ _ _ h h' hl hl' (λ z=>by rw [bcB h h'];simp [geA]) rfl
theorem b7B:axA sxA xs ys=adA (λ i=>geA 3 (buA xs i) (buA ys i)) 65536:=kkA _ _ _ _ h h' hl hl' (λ z=>by rw [ygA h h'];simp [geA]) rfl
theorem a1B:axA usA xs ys=adA (λ i=>geA 4 (buA xs i) (buA ys i)) 65536:=kkA _ _ _ _ h h' hl hl' (λ z=>by rw [yfA h h'];simp [geA]) rfl
end
end Go.Proofs.YtlnaebejmjmepaaGreatDoor
end
