import Derived.Test.YtbokphkfojijoaaGreatDoorM6
import Derived.Test.YtbokphkfojijoaaGreatDoorM8
section
set_option linter.unusedSimpArgs false
set_option linter.unusedVariables false
set_option maxRecDepth 3000
namespace Go.Proofs.YtbokphkfojijoaaGreatDoor
open Go.LA Go.ArrP Go.RowKit
section
variable (w:World) (v u:Value) (p q:Nat → Bool) (h:SlI .u64 w v (wordsOf p))
theorem oeA (n:Nat) (hn:n ≤ 65536):cnt (coA (wordsOf p)) n=cnt p n:=cvA n fun i hi=>cfA p (by omega)
theorem p3A:ahA (coA (wordsOf p)) 65536=ahA p 65536:=dgA 65536 fun i hi=>cfA p hi
include h
theorem wlenP:Fc Tryz.prog 130 #[v] w (Ret w (.val (.int .i64 (cnt p 65536)))):=by
  have:=ppA w v _ h (c0A p) (by rw [b6A];decide)
  rwa [b6A,oeA p _ (by decide)] at this
theorem zgA (x:Int) (hx:-9223372036854775808 ≤ x ∧ x < 9223372036854775808):Fc Tryz.prog 184 #[v,.int .i64 x] w (Ret w (.val (.int .i64 (cnt p (min (max x 0) 65536).toNat)))):=by
  have:=wlA w v _ x h (c0A p) (by rw [b6A];decide) hx
  rw [b6A] at this
  have e:(min (max x 0) (64 * ((1024:Nat):Int))).toNat=(min (max x 0) 65536).toNat:=by omega
  rwa [e,oeA p _ (by omega)] at this
theorem zkA (hT:Tab w):Fc Tryz.prog 128 #[v] w (Ret w (.pred (bfA w.heap.size 31 .u16 (ahA p 65536)))):=by
  have:=woA w v _ h (c0A p) hT
  rwa [b6A,show 64 * min 1024 1024=65536 by decide,p3A] at this
theorem whasP (x:Nat) (hx:x < 65536):Fc Tryz.prog 180 #[v,.int .u16 x] w (Ret w (.val (.bool (p x)))):=by
  have:=zlA w v _ x h (c0A p) hx
  rwa [cfA p hx] at this
theorem zfA:Fc Tryz.prog 174 #[v] w (Ret w (.val (.int .i64 (cnt (bkA p) 65536)))):=by
  have:=wkA w v _ h (c0A p) (by rw [b6A];decide)
  have e:cnt (bkA (coA (wordsOf p))) (64 * 1024)=cnt (bkA p) 65536:=cvA 65536 fun i hi=>by
    unfold bkA
    rw [cfA p hi]
    by_cases h0:i=0
    · subst h0;rfl
    · rw [cfA p (by omega)]
  rwa [b6A,e] at this
theorem zmA (lo hi:Int) (hlo:-9223372036854775808 ≤ lo ∧ lo < 9223372036854775808) (hhi:-9223372036854775808 ≤ hi ∧ hi < 9223372036854775808) :
    Fc Tryz.prog 117 #[v,.int .i64 lo,.int .i64 hi] w (Ret w (.pred (bfA w.heap.size 61 .u64 (wordsOf (rcA p lo hi))))):=by
  have:=wpA w v _ lo hi h (c0A p) hlo hhi
  rwa [c1A (q:=rcA p lo hi) (fun i hi=>by unfold mjA rcA;rw [cfA p hi])] at this
omit h in
theorem rgA (F:Bool → Bool → Bool):wordsOf (kiA F (wordsOf p) (wordsOf q))=wordsOf (fun i=>F (p i) (q i)):=c1A fun i hi=>by
  unfold kiA
  rw [b6A,b6A,cfA p hi,cfA q hi,decide_eq_true (by omega)];rfl
variable (h':SlI .u64 w u (wordsOf q))
include h'
theorem worP:Fc Tryz.prog 114 #[v,u] w (Ret w (.pred (bfA w.heap.size 61 .u64 (wordsOf (fun i=>p i || q i))))):=by
  have:=wor_c w v u _ _ h h' (c0A p) (c0A q)
  rwa [rgA p q (fun x y=>x || y)] at this
theorem wnotP:Fc Tryz.prog 146 #[v,u] w (Ret w (.pred (bfA w.heap.size 61 .u64 (wordsOf (fun i=>p i && !q i))))):=by
  have:=zjA w v u _ _ h h' (c0A p) (c0A q)
  rwa [rgA p q (fun x y=>x && !y)] at this
end
structure Hid (P:Prop):Prop where
  out:P
theorem x9A {w:World} {base base' e:Nat} {xs ys:List Int} {k:IntKind} (hb:base' ≤ base) (hx:xs=ys) (en:Ending) (w':World) (h:Ret w (.pred (bfA base e k xs)) en w'):Ret w (.pred (bfA base' e k ys)) en w':=hx ▸ aaA hb en w' h
theorem tdA {f:FuncId} {args:Array Value} {w:World} {a b a' b':Value} (ha:a=a') (hb:b=b') (h:Fc Tryz.prog f args w (Ret w (.tup2 (.val a) (.val b)))):Fc Tryz.prog f args w (Ret w (.tup2 (.val a') (.val b'))):=by
  subst ha;subst hb;exact h
theorem may_c (w:World) (v:Value) (xs:List Int) (h:SlI .u16 w v xs):Fc Tryz.prog 172 #[v] w (Ret w (.val (.bool (decide (Inc xs))))):=by
  have hl:=h.len
  refine Fc.of (args:=[_]) Tryz.func172 rfl rfl Tryz.ntmps172 (Nat.le_of_ble_eq_true rfl) ?_
  repeat' (first|(refine oLA ?_;first|refine a0A rfl ?_|refine wOp ?_|(refine wCm ?_ ?_<;>intro hc)|(refine wNl hK ?_;clear hK K))|refine wG ?_|(refine wCR ?_;intro K hK)|fail)
  refine bjA (ι:=Nat) (fun k=>[(0,.val v),(3,.val (.int .i64 k))]) (fun k=>1 ≤ k ∧ ∀ i,1 ≤ i → i < k → i < xs.length → xs.getD (i - 1) 0 < xs.getD i 0) (fun k=>xs.length - k) 1 ⟨by omega,fun i h1 h2=>by omega⟩ (Sub.same rfl (Sub.same rfl Sub.nil)) ?_
  rintro k ⟨hk,hin⟩
  have ek:((k:Int) - 1).toNat=k - 1:=by omega
  repeat' (first|(refine oLA ?_;first|refine a0A rfl ?_|refine wOp ?_|(refine wCm ?_ ?_<;>intro hc)|(refine wNl hK ?_;clear hK K))|refine wG ?_|(refine wCR ?_;intro K hK)|fail)
  · refine abA rfl rfl (Ext.refl _) ?_
    rw [ek] at hc
    have:¬ Inc xs:=fun hi=>by have:=hi.at (i:=k - 1) (j:=k) (by omega) (by omega);omega
    simp [this]
  · refine chA (k + 1) ⟨by omega,fun i h1 h2 h3=>?_⟩ (by omega) (Sub.same rfl (Sub.val rfl (by simp) Sub.nil))
    rw [ek] at hc
    rcases Nat.lt_or_ge i k with h4 | h4
    · exact hin i h1 h4 h3
    · obtain rfl:i=k:=by omega
      omega
  · refine abA rfl rfl (Ext.refl _) ?_
    have:Inc xs:=amB fun i h1 h2=>hin i h1 (by omega) h2
    simp [this]
theorem xzA (w:World) (a:Int):Fc Tryz.prog 212 #[.int .u16 a] w (Ret w (.val (.bool false))):=by
  refine Fc.of (args:=[_]) Tryz.func212 rfl rfl Tryz.ntmps212 (Nat.le_of_ble_eq_true rfl) ?_
  repeat' (first|(refine oLA ?_;first|refine a0A rfl ?_|refine wOp ?_|(refine wCm ?_ ?_<;>intro hc)|(refine wNl hK ?_;clear hK K))|refine wG ?_|(refine wCR ?_;intro K hK)|fail)
  exact abA rfl rfl (Ext.refl _) rfl
theorem xyA (w:World) (a:Int):Fc Tryz.prog 192 #[.int .u16 a] w (Ret w (.val (.bool false))):=by
  refine Fc.of (args:=[_]) Tryz.func192 rfl rfl Tryz.ntmps192 (Nat.le_of_ble_eq_true rfl) ?_
  repeat' (first|(refine oLA ?_;first|refine a0A rfl ?_|refine wOp ?_|(refine wCm ?_ ?_<;>intro hc)|(refine wNl hK ?_;clear hK K))|refine wG ?_|(refine wCR ?_;intro K hK)|fail)
  exact abA rfl rfl (Ext.refl _) rfl
theorem agB (w:World) (a b:Int):Fc Tryz.prog 191 #[.int .u16 a,.int .u16 b] w (Ret w (.val (.bool (decide (a < b))))):=by
  refine Fc.of (args:=[_,_]) Tryz.func191 rfl rfl Tryz.ntmps191 (Nat.le_of_ble_eq_true rfl) ?_
  repeat' (first|(refine oLA ?_;first|refine a0A rfl ?_|refine wOp ?_|(refine wCm ?_ ?_<;>intro hc)|(refine oCv ?_;first|(refine oC 212 ?_;refine a2A (f:=212) rfl rfl rfl  (.val (.bool false)) (by intro u1 w e hu1;(try obtain rfl:u1=_:=hu1);exact xzA _ _) ?_))|(refine wNl hK ?_;clear hK K))|refine wG ?_|(refine wCR ?_;intro K hK)|fail)
  all_goals (refine abA rfl rfl (Ext.refl _) ?_;simp [hc])
theorem bs_c (w:World) (v:Value) (xs:List Int) (x:Int) (h:SlI .u16 w v xs) (hb:xs.length ≤ 4611686018427387903):Fc Tryz.prog 148 #[v,.int .u16 x] w (Ret w (.tup2 (.val (.int .i64 (bsS xs x))) (.val (.bool (dcA xs x))))):=by
  refine Fc.of (args:=[_,_]) Tryz.func148 rfl rfl Tryz.ntmps148 (Nat.le_of_ble_eq_true rfl) ?_
  repeat' (first|(refine oLA ?_;first|refine a0A rfl ?_|refine wOp ?_|(refine wCm ?_ ?_<;>intro hc)|(refine wNl hK ?_;clear hK K))|refine wG ?_|(refine wCR ?_;intro K hK)|fail)
  refine bjA (ι:=Nat × Nat) (fun k=>[(0,.val v),(1,.val (.int .u16 x)),(6,.val (.int .i64 xs.length)),(7,.val (.int .i64 k.1)),(8,.val (.int .i64 k.2))]) (fun k=>k.1 ≤ k.2 ∧ k.2 ≤ xs.length ∧ bsGo xs x k.1 k.2=bsS xs x) (fun k=>k.2 - k.1) (0,xs.length)
    ⟨by simp,by simp,rfl⟩ (Sub.same rfl (Sub.same rfl (Sub.same rfl (Sub.same rfl (Sub.same rfl Sub.nil))))) ?_
  rintro ⟨i,j⟩ ⟨h1,h2,h3⟩
  dsimp only at h1 h2 h3 ⊢
  have em:(((i:Int) + j) / 2).toNat=(i + j) / 2:=by omega
  repeat' (first|(refine oLA ?_;first|refine a0A rfl ?_|refine wOp ?_|(refine wCm ?_ ?_<;>intro hc)|(refine oCv ?_;first|(refine oC 191 ?_;refine a3A (f:=191) rfl rfl rfl rfl  (.val (.bool (decide (xs.getD ((i + j) / 2) 0 < x)))) (by intro u1 u2 w e hu1 hu2;(try obtain rfl:u1=_:=hu1);(try obtain rfl:u2=_:=hu2);exact (by rw [em];exact agB _ _ _)) ?_)|(refine oC 192 ?_;refine a2A (f:=192) rfl rfl rfl  (.val (.bool false)) (by intro u1 w e hu1;(try obtain rfl:u1=_:=hu1);exact xyA _ _) ?_))|(refine wNl hK ?_;clear hK K))|refine wG ?_|(refine wCR ?_;intro K hK)|(refine oCX ?_;first|refine oxA rfl (fun hc=>?_) (fun hc=>?_))|fail)
  · rw [decide_eq_true_eq] at hc
    rename_i hc1
    refine chA ((i + j) / 2 + 1,j) ⟨?_,h2,?_⟩ ?_ (by repeat' (first | exact Sub.nil | refine Sub.val rfl (by first | with_reducible rfl | (congr 1;omega)) ?_ | refine Sub.same rfl ?_))
    · dsimp only;omega
    · rw [← h3];conv=>rhs;rw [bsGo,if_pos (by omega),if_pos hc]
    · dsimp only;omega
  · rw [decide_eq_false_iff_not] at hc
    rename_i hc1
    refine chA (i,(i + j) / 2) ⟨?_,?_,?_⟩ ?_ (by repeat' (first | exact Sub.nil | refine Sub.val rfl (by first | with_reducible rfl | (congr 1;omega)) ?_ | refine Sub.same rfl ?_))
    · dsimp only;omega
    · dsimp only;omega
    · rw [← h3];conv=>rhs;rw [bsGo,if_pos (by omega),if_neg hc]
    · dsimp only;omega
  all_goals
    rename_i hc1
    have e1:i=bsS xs x:=by rw [← h3,bsGo,if_neg (by omega)]
    refine c2A rfl rfl rfl (Ext.refl _) (by rw [e1]) ?_
    unfold dcA
    rw [← e1]
  · have:i < xs.length:=by omega
    rw [b1A this] at hc
    simp [this,hc]
  · have h7:i < xs.length:=by omega
    rw [b1A h7] at hc
    simp [h7,hc]
  · have:¬ i < xs.length:=by omega
    simp [this]
theorem w9A (w:World) (v:Value) (xs:List Int) (x:Int) (h:SlI .u16 w v xs) (hb:xs.length ≤ 4611686018427387903):Fc Tryz.prog 179 #[v,.int .u16 x] w (Ret w (.tup2 (.val (.int .i64 (bsS xs x))) (.val (.bool (dcA xs x))))):=by
  refine Fc.of (args:=[_,_]) Tryz.func179 rfl rfl Tryz.ntmps179 (Nat.le_of_ble_eq_true rfl) ?_
  repeat' (first|(refine oLA ?_;first|refine a0A rfl ?_|refine wOp ?_|(refine wCm ?_ ?_<;>intro hc)|(refine oCv ?_;first|(refine oC 148 ?_;refine a3A (f:=148) rfl rfl rfl rfl  (.tup2 (.val (.int .i64 (bsS xs x))) (.val (.bool (dcA xs x)))) (by intro u1 u2 w e hu1 hu2;(try obtain rfl:u1=_:=hu1);(try obtain rfl:u2=_:=hu2);exact bs_c _ _ _ _ (by first | exact hu1 | exact hu2 | exact hu3 | exact hu4 | exact hu5 | exact OwnI.slI hu1 | exact OwnI.slI hu2 | exact OwnI.slI hu3 | exact SlI.ext (by assumption) e | exact OwnI.slI (OwnI.ext (by assumption) e)) hb) ?_))|(refine wNl hK ?_;clear hK K))|refine wG ?_|(refine wCR ?_;intro K hK)|fail)
  exact c2A rfl rfl rfl (Ext.refl _) rfl rfl
theorem vnA (n:Int):IntKind.u16.wrap n=n % 65536:=by simp [IntKind.wrap,IntKind.bits,IntKind.signed]
theorem zvA (w:World) (v:Value) (xs:List Int) (h:SlI .u16 w v xs):Fc Tryz.prog 175 #[v] w (Ret w (.val (.int .i64 (wxA xs)))):=by
  have hl:=h.len
  refine Fc.of (args:=[_]) Tryz.func175 rfl rfl Tryz.ntmps175 (Nat.le_of_ble_eq_true rfl) ?_
  repeat' (first|(refine oLA ?_;first|refine a0A rfl ?_|refine wOp ?_|(refine wCm ?_ ?_<;>intro hc)|(refine wNl hK ?_;clear hK K))|refine wG ?_|(refine wCR ?_;intro K hK)|fail)
  refine bjA (ι:=Nat) (fun k=>[(0,.val v),(6,.val v),(7,.val (.int .i64 xs.length)),(8,.val (.int .i64 k)),(3,.val (.int .i64 (h6A xs k)))]) (fun k=>k ≤ xs.length) (fun k=>xs.length - k) 0 (by omega) (by repeat' (first | exact Sub.nil | refine Sub.val rfl (by first | with_reducible rfl | (congr 1;omega)) ?_ | refine Sub.same rfl ?_)) ?_
  intro k hk
  have hr:=q2A xs k
  have hs:=hzA xs k
  have ek:((k:Int) - 1).toNat=k - 1:=by omega
  repeat' (first|(refine oLA ?_;first|refine a0A rfl ?_|refine wOp ?_|(refine wCm ?_ ?_<;>intro hc)|(refine wNl hK ?_;clear hK K))|refine wG ?_|(refine wCR ?_;intro K hK)|fail)
  · rename_i hc1
    obtain rfl:k=0:=by omega
    simp only [i3A,true_or,decide_true,if_true] at hs
    refine chA 1 ?_ ?_ (by repeat' (first | exact Sub.nil | refine Sub.val rfl (by first | with_reducible rfl | (congr 1;omega)) ?_ | refine Sub.same rfl ?_))
    · omega
    · omega
  · rename_i hc1 hc2
    rw [vnA,ek] at hc
    have e:i3A xs k=true:=by simp only [i3A,decide_eq_true_eq];exact .inr hc
    rw [e] at hs;simp only [if_true] at hs
    refine chA (k + 1) ?_ ?_ (by repeat' (first | exact Sub.nil | refine Sub.val rfl (by first | with_reducible rfl | (congr 1;omega)) ?_ | refine Sub.same rfl ?_))
    · omega
    · omega
  · rename_i hc1 hc2
    rw [vnA,ek] at hc
    have e:i3A xs k=false:=by
      simp only [i3A,decide_eq_false_iff_not,not_or]
      exact ⟨fun h=>hc2 (by omega),hc⟩
    rw [e] at hs;simp only [Bool.false_eq_true,if_false] at hs
    refine chA (k + 1) ?_ ?_ (by repeat' (first | exact Sub.nil | refine Sub.val rfl (by first | with_reducible rfl | (congr 1;omega)) ?_ | refine Sub.same rfl ?_))
    · omega
    · omega
  · refine abA rfl rfl (Ext.refl _) ?_
    obtain rfl:k=xs.length:=by omega
    rfl
theorem or1_c (x y:Bool) (w:World):Fc Tryz.prog 154 #[.bool x,.bool y] w (Ret w (.val (.bool (fOr x y)))):=by
  refine Fc.of (args:=[_,_]) Tryz.func154 rfl rfl Tryz.ntmps154 (Nat.le_of_ble_eq_true rfl) ?_
  repeat' (first|(refine oLA ?_;first|refine a0A rfl ?_|refine wOp ?_|(refine wCm ?_ ?_<;>intro hc)|(refine wNl hK ?_;clear hK K))|refine wG ?_|(refine wCR ?_;intro K hK)|fail)
  exact abA rfl rfl (Ext.refl _) rfl
theorem abB (x y:Bool) (w:World):Fc Tryz.prog 188 #[.bool x,.bool y] w (Ret w (.val (.bool (syA x y)))):=by
  refine Fc.of (args:=[_,_]) Tryz.func188 rfl rfl Tryz.ntmps188 (Nat.le_of_ble_eq_true rfl) ?_
  repeat' (first|(refine oLA ?_;first|refine a0A rfl ?_|refine wOp ?_|(refine wCm ?_ ?_<;>intro hc)|(refine wNl hK ?_;clear hK K))|refine wG ?_|(refine wCR ?_;intro K hK)|fail)
  exact abA rfl rfl (Ext.refl _) rfl
theorem qoA (F:Bool → Bool → Bool) (ft:FuncId) (hT:∀ x y w,Fc Tryz.prog ft #[.bool x,.bool y] w (Ret w (.val (.bool (F x y))))) (w:World) (va vb:Value) (xs ys:List Int) (ha:SlI .u16 w va xs) (hb:SlI .u16 w vb ys) (hlen:xs.length + ys.length ≤ 70368744177663) :
    Fc Tryz.prog 153 #[va,vb,.func (.func ft) #[] #[]] w (Ret w (.pred (bfA w.heap.size 31 .u16 (b0A F xs ys)))):=by
  refine Fc.of (args:=[_,_,_]) Tryz.func153 rfl rfl Tryz.ntmps153 (Nat.le_of_ble_eq_true rfl) ?_
  repeat' (first|(refine oLA ?_;first|refine a0A rfl ?_|refine wOp ?_|(refine wCm ?_ ?_<;>intro hc)|(refine wNl hK ?_;clear hK K))|refine wG ?_|(refine wCR ?_;intro K hK)|fail)
  refine adA (ι:=(List Int × List Int × List Int) × Value × Value × Value) (fun i=>[(0,.val i.2.1),(1,.val i.2.2.1),(2,.val (.func (.func ft) #[] #[])),(7,.val i.2.2.2)])
    (fun i wr=>Ext w wr ∧ SlI .u16 w i.2.1 i.1.1 ∧ SlI .u16 w i.2.2.1 i.1.2.1 ∧ OwnI w.heap.size 31 .u16 wr i.2.2.2 i.1.2.2 ∧ b0A F xs ys=i.1.2.2 ++ b0A F i.1.1 i.1.2.1 ∧ i.1.2.2.length + i.1.1.length + i.1.2.1.length ≤ xs.length + ys.length)
    (fun i=>i.1.1.length + i.1.2.1.length) ?_ ?_
  · exact fun wr he=>⟨((xs,ys,[]),va,vb,.slice none 0 0),⟨he,ha,hb,OwnI.nil,rfl,by simp⟩,(by repeat' (first | exact Sub.nil | refine Sub.val rfl (by first | with_reducible rfl | (congr 1;omega)) ?_ | refine Sub.same rfl ?_))⟩
  · rintro ⟨⟨l1,l2,l3⟩,a,b,o⟩ wb ⟨he,h1,h2,h3,h4,h5⟩
    dsimp only at h1 h2 h3 h4 h5 ⊢
    have h1':=h1.ext he
    have h2':=h2.ext he
    have ho:=h3
    repeat' (first|(refine oLA ?_;first|refine a0A rfl ?_|refine iuA rfl j9A rfl rfl ?_|(refine a4A (hK _ _ (h0A rfl (by decide) j9A rfl ho rfl (by omega) (by omega) he (fun v' w' he' ho'=>?_)));clear hK K;dsimp only [vals];refine aeA (by kernel_rfl) (fun K hK=>?_))|refine wOp ?_|(refine wCm ?_ ?_<;>intro hc)|(refine oCv ?_;first|refine a3A (f:=ft) (r1:=.val (.bool _)) (r2:=.val (.bool _)) rfl rfl rfl rfl (.val (.bool (F _ _))) (by intro u1 u2 w e hu1 hu2;obtain rfl:u1=_:=hu1;obtain rfl:u2=_:=hu2;exact hT _ _ _) ?_)|(refine wNl hK ?_;clear hK K))|refine wG ?_|(refine wCR ?_;intro K hK)|(refine oCX ?_;first|refine oxA rfl (fun hc=>?_) (fun hc=>?_))|fail)
    · refine a6A ((l1.drop 1,l2,l3 ++ [l1.getD 0 0]),eoA a 1 l1.length 1,b,v') (fun w2 e2=>⟨he'.trans e2,h1.drop (by omega),h2,ho'.ext e2,?_,?_⟩) ?_ (by repeat' (first | exact Sub.nil | refine Sub.val rfl (by first | with_reducible rfl | (congr 1;omega)) ?_ | refine Sub.same rfl ?_))
      · dsimp only;rw [h4,qqA F (by omega) (by omega),hc];simp
      · dsimp only;simp only [List.length_append,List.length_drop,List.length_cons,List.length_nil];omega
      · dsimp only;simp only [List.length_drop];omega
    · refine a6A ((l1.drop 1,l2,l3),eoA a 1 l1.length 1,b,o) (fun w2 e2=>⟨he.trans e2,h1.drop (by omega),h2,ho.ext e2,?_,?_⟩) ?_ (by repeat' (first | exact Sub.nil | refine Sub.val rfl (by first | with_reducible rfl | (congr 1;omega)) ?_ | refine Sub.same rfl ?_))
      · dsimp only;rw [h4,qqA F (by omega) (by omega),hc];simp
      · dsimp only;simp only [List.length_append,List.length_drop,List.length_cons,List.length_nil];omega
      · dsimp only;simp only [List.length_drop];omega
    · refine a6A ((l1.drop 1,l2.drop 1,l3 ++ [l2.getD 0 0]),eoA a 1 l1.length 1,eoA b 1 l2.length 1,v') (fun w2 e2=>⟨he'.trans e2,h1.drop (by omega),h2.drop (by omega),ho'.ext e2,?_,?_⟩) ?_ (by repeat' (first | exact Sub.nil | refine Sub.val rfl (by first | with_reducible rfl | (congr 1;omega)) ?_ | refine Sub.same rfl ?_))
      · dsimp only;rw [h4,nxA F (by omega) (by omega) (by omega),hc];simp
      · dsimp only;simp only [List.length_append,List.length_drop,List.length_cons,List.length_nil];omega
      · dsimp only;simp only [List.length_drop];omega
    · refine a6A ((l1.drop 1,l2.drop 1,l3),eoA a 1 l1.length 1,eoA b 1 l2.length 1,o) (fun w2 e2=>⟨he.trans e2,h1.drop (by omega),h2.drop (by omega),ho.ext e2,?_,?_⟩) ?_ (by repeat' (first | exact Sub.nil | refine Sub.val rfl (by first | with_reducible rfl | (congr 1;omega)) ?_ | refine Sub.same rfl ?_))
      · dsimp only;rw [h4,nxA F (by omega) (by omega) (by omega),hc];simp
      · dsimp only;simp only [List.length_append,List.length_drop,List.length_cons,List.length_nil];omega
      · dsimp only;simp only [List.length_drop];omega
    · refine a6A ((l1.drop 1,l2,l3 ++ [l1.getD 0 0]),eoA a 1 l1.length 1,b,v') (fun w2 e2=>⟨he'.trans e2,h1.drop (by omega),h2,ho'.ext e2,?_,?_⟩) ?_ (by repeat' (first | exact Sub.nil | refine Sub.val rfl (by first | with_reducible rfl | (congr 1;omega)) ?_ | refine Sub.same rfl ?_))
      · dsimp only;rw [h4,nvA F (by omega) (by omega) (by omega),hc];simp
      · dsimp only;simp only [List.length_append,List.length_drop,List.length_cons,List.length_nil];omega
      · dsimp only;simp only [List.length_drop];omega
    · refine a6A ((l1.drop 1,l2,l3),eoA a 1 l1.length 1,b,o) (fun w2 e2=>⟨he.trans e2,h1.drop (by omega),h2,ho.ext e2,?_,?_⟩) ?_ (by repeat' (first | exact Sub.nil | refine Sub.val rfl (by first | with_reducible rfl | (congr 1;omega)) ?_ | refine Sub.same rfl ?_))
      · dsimp only;rw [h4,nvA F (by omega) (by omega) (by omega),hc];simp
      · dsimp only;simp only [List.length_append,List.length_drop,List.length_cons,List.length_nil];omega
      · dsimp only;simp only [List.length_drop];omega
    · refine a6A ((l1,l2.drop 1,l3 ++ [l2.getD 0 0]),a,eoA b 1 l2.length 1,v') (fun w2 e2=>⟨he'.trans e2,h1,h2.drop (by omega),ho'.ext e2,?_,?_⟩) ?_ (by repeat' (first | exact Sub.nil | refine Sub.val rfl (by first | with_reducible rfl | (congr 1;omega)) ?_ | refine Sub.same rfl ?_))
      · dsimp only;rw [h4,nwA F (by omega) (by omega) (by omega),hc];simp
      · dsimp only;simp only [List.length_append,List.length_drop,List.length_cons,List.length_nil];omega
      · dsimp only;simp only [List.length_drop];omega
    · refine a6A ((l1,l2.drop 1,l3),a,eoA b 1 l2.length 1,o) (fun w2 e2=>⟨he.trans e2,h1,h2.drop (by omega),ho.ext e2,?_,?_⟩) ?_ (by repeat' (first | exact Sub.nil | refine Sub.val rfl (by first | with_reducible rfl | (congr 1;omega)) ?_ | refine Sub.same rfl ?_))
      · dsimp only;rw [h4,nwA F (by omega) (by omega) (by omega),hc];simp
      · dsimp only;simp only [List.length_append,List.length_drop,List.length_cons,List.length_nil];omega
      · dsimp only;simp only [List.length_drop];omega
    · refine a6A ((l1,l2.drop 1,l3 ++ [l2.getD 0 0]),a,eoA b 1 l2.length 1,v') (fun w2 e2=>⟨he'.trans e2,h1,h2.drop (by omega),ho'.ext e2,?_,?_⟩) ?_ (by repeat' (first | exact Sub.nil | refine Sub.val rfl (by first | with_reducible rfl | (congr 1;omega)) ?_ | refine Sub.same rfl ?_))
      · dsimp only;rw [h4,qpA F (by omega) (by omega),hc];simp
      · dsimp only;simp only [List.length_append,List.length_drop,List.length_cons,List.length_nil];omega
      · dsimp only;simp only [List.length_drop];omega
    · refine a6A ((l1,l2.drop 1,l3),a,eoA b 1 l2.length 1,o) (fun w2 e2=>⟨he.trans e2,h1,h2.drop (by omega),ho.ext e2,?_,?_⟩) ?_ (by repeat' (first | exact Sub.nil | refine Sub.val rfl (by first | with_reducible rfl | (congr 1;omega)) ?_ | refine Sub.same rfl ?_))
      · dsimp only;rw [h4,qpA F (by omega) (by omega),hc];simp
      · dsimp only;simp only [List.length_append,List.length_drop,List.length_cons,List.length_nil];omega
      · dsimp only;simp only [List.length_drop];omega
    · refine akA rfl rfl he (fun u w2 e2 hu=>?_)
      obtain rfl:u=o:=hu
      have e1:l1=[]:=List.eq_nil_of_length_eq_zero (by omega)
      have e3:l2=[]:=List.eq_nil_of_length_eq_zero (by omega)
      have e4:b0A F xs ys=l3:=by rw [h4,e1,e3];simp [b0A]
      rw [e4]
      exact ho.ext e2
theorem or_c (w:World) (va vb:Value) (xs ys:List Int) (ha:SlI .u16 w va xs) (hb:SlI .u16 w vb ys) (hlen:xs.length + ys.length ≤ 70368744177663) :
    Fc Tryz.prog 113 #[va,vb] w (Ret w (.pred (bfA w.heap.size 31 .u16 (b0A fOr xs ys)))):=by
  refine Fc.of (args:=[_,_]) Tryz.func113 rfl rfl Tryz.ntmps113 (Nat.le_of_ble_eq_true rfl) ?_
  repeat' (first|(refine oLA ?_;first|refine a0A rfl ?_|refine wOp ?_|(refine wCm ?_ ?_<;>intro hc)|(refine oCv ?_;first|(refine oC 153 ?_;refine beA (f:=153) rfl rfl rfl rfl rfl  (.pred (bfA w.heap.size 31 .u16 (b0A fOr xs ys))) (by intro u1 u2 u3 w e hu1 hu2 hu3;(try obtain rfl:u1=_:=hu1);(try obtain rfl:u2=_:=hu2);(try obtain rfl:u3=_:=hu3);exact (qoA fOr _ or1_c _ _ _ xs ys (by first | exact hu1 | exact hu2 | exact hu3 | exact hu4 | exact hu5 | exact OwnI.slI hu1 | exact OwnI.slI hu2 | exact OwnI.slI hu3 | exact SlI.ext (by assumption) e | exact OwnI.slI (OwnI.ext (by assumption) e)) (by first | exact hu1 | exact hu2 | exact hu3 | exact hu4 | exact hu5 | exact OwnI.slI hu1 | exact OwnI.slI hu2 | exact OwnI.slI hu3 | exact SlI.ext (by assumption) e | exact OwnI.slI (OwnI.ext (by assumption) e)) hlen).mono (aaA e.size)) ?_))|(refine wNl hK ?_;clear hK K))|refine wG ?_|(refine wCR ?_;intro K hK)|fail)
  exact akA rfl rfl (Ext.refl _) (fun _ _ _ h=>h)
theorem urA (w:World) (va vb:Value) (xs ys:List Int) (ha:SlI .u16 w va xs) (hb:SlI .u16 w vb ys) (hlen:xs.length + ys.length ≤ 70368744177663) :
    Fc Tryz.prog 145 #[va,vb] w (Ret w (.pred (bfA w.heap.size 31 .u16 (b0A syA xs ys)))):=by
  refine Fc.of (args:=[_,_]) Tryz.func145 rfl rfl Tryz.ntmps145 (Nat.le_of_ble_eq_true rfl) ?_
  repeat' (first|(refine oLA ?_;first|refine a0A rfl ?_|refine wOp ?_|(refine wCm ?_ ?_<;>intro hc)|(refine oCv ?_;first|(refine oC 153 ?_;refine beA (f:=153) rfl rfl rfl rfl rfl  (.pred (bfA w.heap.size 31 .u16 (b0A syA xs ys))) (by intro u1 u2 u3 w e hu1 hu2 hu3;(try obtain rfl:u1=_:=hu1);(try obtain rfl:u2=_:=hu2);(try obtain rfl:u3=_:=hu3);exact (qoA syA _ abB _ _ _ xs ys (by first | exact hu1 | exact hu2 | exact hu3 | exact hu4 | exact hu5 | exact OwnI.slI hu1 | exact OwnI.slI hu2 | exact OwnI.slI hu3 | exact SlI.ext (by assumption) e | exact OwnI.slI (OwnI.ext (by assumption) e)) (by first | exact hu1 | exact hu2 | exact hu3 | exact hu4 | exact hu5 | exact OwnI.slI hu1 | exact OwnI.slI hu2 | exact OwnI.slI hu3 | exact SlI.ext (by assumption) e | exact OwnI.slI (OwnI.ext (by assumption) e)) hlen).mono (aaA e.size)) ?_))|(refine wNl hK ?_;clear hK K))|refine wG ?_|(refine wCR ?_;intro K hK)|fail)
  exact akA rfl rfl (Ext.refl _) (fun _ _ _ h=>h)
theorem rbA (f:Bool → Bool → Bool) (what:Int) (xs ys:List Int) (h:Inc xs) (h':Inc ys) (hl:Low xs) (hl':Low ys) (hm:∀ z,z ∈ b0A f xs ys ↔ kmA what (decide (z ∈ xs)) (decide (z ∈ ys))=true) (hff:kmA what false false=false) :
    b0A f xs ys=ahA (fun i=>kmA what (c7A xs i) (c7A ys i)) 65536:=by
  refine guA (qnA _ _ _ h h') (bvA _ _) fun z=>?_
  rw [hm,c9A]
  constructor
  · intro hz
    have:0 ≤ z ∧ z < 65536:=by
      by_cases h1:z ∈ xs
      · exact hl z h1
      · by_cases h2:z ∈ ys
        · exact hl' z h2
        · rw [decide_eq_false h1,decide_eq_false h2,hff] at hz;cases hz
    exact ⟨z.toNat,by omega,by simp only [c7A,show ((z.toNat:Nat):Int)=z by omega];exact hz,by omega⟩
  · rintro ⟨i,g1,g2,rfl⟩
    exact g2
section
variable {xs ys:List Int} (h:Inc xs) (h':Inc ys) (hl:Low xs) (hl':Low ys)
include h h' hl hl'
theorem a6B:b0A fOr xs ys=ahA (fun i=>kmA 2 (c7A xs i) (c7A ys i)) 65536:=rbA _ _ _ _ h h' hl hl' (fun z=>by rw [aeB h h'];simp [kmA]) rfl
theorem a9B:b0A syA xs ys=ahA (fun i=>kmA 3 (c7A xs i) (c7A ys i)) 65536:=rbA _ _ _ _ h h' hl hl' (fun z=>by rw [xoA h h'];simp [kmA]) rfl
end
end Go.Proofs.YtbokphkfojijoaaGreatDoor
end
