import Derived.Laws.StructEq
import Derived.Test.YtlnaebejmjmepaaGreatDoorM5
import Derived.Test.YtlnaebejmjmepaaGreatDoorM9
set_option linter.unusedSimpArgs false
set_option linter.unusedVariables false
set_option maxRecDepth 3000
set_option maxHeartbeats 16000000
section
namespace Go.Proofs.YtlnaebejmjmepaaGreatDoor
open Go.LA Go.ArrP Go.RowKit
theorem aqB (x y:Bool) (w:World):Fc Tryz.prog 137 #[.bool x,.bool y] w (Ret w (.val (.bool (x || y)))):=by
 cases x <;> cases y
 all_goals
  refine Fc.of (args:=[_,_]) Tryz.func137 rfl rfl Tryz.ntmps137 nZ ?_
  repeat' (first|(refine yL ?_;first|refine a0A rfl ?_|refine yO ?_|(refine yC ?_ ?_<;>intro hc)|(refine yN hK ?_;clear hK K))|refine wG ?_|(refine yR ?_;intro K hK)|fail)
  exact a9A rfl rfl (Ext.refl _) rfl
theorem xzA (x y:Bool) (w:World):Fc Tryz.prog 145 #[.bool x,.bool y] w (Ret w (.val (.bool (x && y)))):=by
 cases x <;> cases y
 all_goals
  refine Fc.of (args:=[_,_]) Tryz.func145 rfl rfl Tryz.ntmps145 nZ ?_
  repeat' (first|(refine yL ?_;first|refine a0A rfl ?_|refine yO ?_|(refine yC ?_ ?_<;>intro hc)|(refine yN hK ?_;clear hK K))|refine wG ?_|(refine yR ?_;intro K hK)|fail)
  exact a9A rfl rfl (Ext.refl _) rfl
theorem xlA (x y:Bool) (w:World):Fc Tryz.prog 148 #[.bool x,.bool y] w (Ret w (.val (.bool (x && !y)))):=by
 cases x <;> cases y
 all_goals
  refine Fc.of (args:=[_,_]) Tryz.func148 rfl rfl Tryz.ntmps148 nZ ?_
  repeat' (first|(refine yL ?_;first|refine a0A rfl ?_|refine yO ?_|(refine yC ?_ ?_<;>intro hc)|(refine yN hK ?_;clear hK K))|refine wG ?_|(refine yR ?_;intro K hK)|fail)
  exact a9A rfl rfl (Ext.refl _) rfl
theorem xdA (x y:Bool) (w:World):Fc Tryz.prog 151 #[.bool x,.bool y] w (Ret w (.val (.bool (!(x == y))))):=by
 cases x <;> cases y
 all_goals
  refine Fc.of (args:=[_,_]) Tryz.func151 rfl rfl Tryz.ntmps151 nZ ?_
  repeat' (first|(refine yL ?_;first|refine a0A rfl ?_|refine yO ?_|(refine yC ?_ ?_<;>intro hc)|(refine yN hK ?_;clear hK K))|refine wG ?_|(refine yR ?_;intro K hK)|fail)
  exact a9A rfl rfl (Ext.refl _) rfl
theorem toA (x y:Bool) (w:World):Fc Tryz.prog 138 #[.bool x,.bool y] w (Ret w (.val (.bool (!(x == y))))):=by
 cases x <;> cases y
 all_goals
  refine Fc.of (args:=[_,_]) Tryz.func138 rfl rfl Tryz.ntmps138 nZ ?_
  repeat' (first|(refine yL ?_;first|refine a0A rfl ?_|refine yO ?_|(refine yC ?_ ?_<;>intro hc)|(refine yN hK ?_;clear hK K))|refine wG ?_|(refine yR ?_;intro K hK)|fail)
  exact a9A rfl rfl (Ext.refl _) rfl
theorem lgA {w:World} {base base' e s n:Nat} {cs:List Value} (hb:base'≤base) (en:Ending) (w':World) (h:Ret w (.pred (hqA base e s n cs)) en w'):Ret w (.pred (hqA base' e s n cs)) en w':=by
 obtain ⟨v,h1,h2,h3⟩:=h;exact ⟨v,h1,h2,Own.base h3 hb⟩
theorem dbA (p:Nat→Bool):(avA p).length≤65536:=by
 unfold avA;rw [hsA];exact cnt_le _ _
theorem row_of (w:World) (v:Value) (p:Nat→Bool) (hp:p 65536=false) (h:SlR w v (avA p)):Fc Tryz.prog 136 #[v] w (Ret w (.pred (bnA w.heap.size 3 .i64 (adA (chg p) 65537)))):=by
 have:=row_c w v (avA p) h (dkA p) (by have:=dbA p;omega);rwa [tkA hp] at this
section
variable (w:World) (va vb:Value) (p q:Nat→Bool) (hp:p 65536=false) (hq:q 65536=false) (ha:SlR w va (avA p)) (hb:SlR w vb (avA q))
include hp hq ha hb
theorem ayB:Fc Tryz.prog 102 #[va,vb] w (Ret w (.pred (erA w.heap.size 79 (avA (two (λ x y=>x && y) p q))))):=by
 refine Fc.of (args:=[_,_]) Tryz.func102 rfl rfl Tryz.ntmps102 nZ ?_
 repeat' (first|(refine yL ?_;first|refine a0A rfl ?_|(refine oD 6 ?_;refine oC 136 ?_;refine a2A (f:=136) rfl rfl rfl  (.pred (bnA w.heap.size 3 .i64 (adA (chg p) 65537))) (by intro u1 w e hu1;(try obtain rfl:u1=_:=hu1);exact (row_of _ _ p hp (ha.ext e)).mono (aaA e.size)) ?_)|(refine oD 8 ?_;refine oC 136 ?_;refine a2A (f:=136) rfl rfl rfl  (.pred (bnA w.heap.size 3 .i64 (adA (chg q) 65537))) (by intro u1 w e hu1;(try obtain rfl:u1=_:=hu1);exact (row_of _ _ q hq (hb.ext e)).mono (aaA e.size)) ?_)|(refine oC 135 ?_;refine alA (f:=135) rfl rfl rfl rfl rfl  (.pred (erA w.heap.size 79 (avA (two (λ x y=>x && y) p q)))) (by intro u1 u2 u3 w e hu1 hu2 hu3;(try obtain rfl:u1=_:=hu1);(try obtain rfl:u2=_:=hu2);(try obtain rfl:u3=_:=hu3);exact (itA (λ x y=>x && y) _ xzA rfl _ _ _ p q hp hq (OwnI.slI hu1) (OwnI.slI hu2)).mono (b1A e.size rfl)) ?_)|refine yO ?_|(refine yC ?_ ?_<;>intro hc)|(refine yN hK ?_;clear hK K))|refine wG ?_|(refine yR ?_;intro K hK)|fail)
 exact ajA rfl rfl (Ext.refl _) (λ _ _ _ h=>h)
theorem ror_c:Fc Tryz.prog 93 #[va,vb] w (Ret w (.pred (erA w.heap.size 79 (avA (two (λ x y=>x || y) p q))))):=by
 refine Fc.of (args:=[_,_]) Tryz.func93 rfl rfl Tryz.ntmps93 nZ ?_
 repeat' (first|(refine yL ?_;first|refine a0A rfl ?_|(refine oD 6 ?_;refine oC 136 ?_;refine a2A (f:=136) rfl rfl rfl  (.pred (bnA w.heap.size 3 .i64 (adA (chg p) 65537))) (by intro u1 w e hu1;(try obtain rfl:u1=_:=hu1);exact (row_of _ _ p hp (ha.ext e)).mono (aaA e.size)) ?_)|(refine oD 8 ?_;refine oC 136 ?_;refine a2A (f:=136) rfl rfl rfl  (.pred (bnA w.heap.size 3 .i64 (adA (chg q) 65537))) (by intro u1 w e hu1;(try obtain rfl:u1=_:=hu1);exact (row_of _ _ q hq (hb.ext e)).mono (aaA e.size)) ?_)|(refine oC 135 ?_;refine alA (f:=135) rfl rfl rfl rfl rfl  (.pred (erA w.heap.size 79 (avA (two (λ x y=>x || y) p q)))) (by intro u1 u2 u3 w e hu1 hu2 hu3;(try obtain rfl:u1=_:=hu1);(try obtain rfl:u2=_:=hu2);(try obtain rfl:u3=_:=hu3);exact (itA (λ x y=>x || y) _ aqB rfl _ _ _ p q hp hq (OwnI.slI hu1) (OwnI.slI hu2)).mono (b1A e.size rfl)) ?_)|refine yO ?_|(refine yC ?_ ?_<;>intro hc)|(refine yN hK ?_;clear hK K))|refine wG ?_|(refine yR ?_;intro K hK)|fail)
 exact ajA rfl rfl (Ext.refl _) (λ _ _ _ h=>h)
theorem arB:Fc Tryz.prog 106 #[va,vb] w (Ret w (.pred (erA w.heap.size 79 (avA (two (λ x y=>x && !y) p q))))):=by
 refine Fc.of (args:=[_,_]) Tryz.func106 rfl rfl Tryz.ntmps106 nZ ?_
 repeat' (first|(refine yL ?_;first|refine a0A rfl ?_|(refine oD 6 ?_;refine oC 136 ?_;refine a2A (f:=136) rfl rfl rfl  (.pred (bnA w.heap.size 3 .i64 (adA (chg p) 65537))) (by intro u1 w e hu1;(try obtain rfl:u1=_:=hu1);exact (row_of _ _ p hp (ha.ext e)).mono (aaA e.size)) ?_)|(refine oD 8 ?_;refine oC 136 ?_;refine a2A (f:=136) rfl rfl rfl  (.pred (bnA w.heap.size 3 .i64 (adA (chg q) 65537))) (by intro u1 w e hu1;(try obtain rfl:u1=_:=hu1);exact (row_of _ _ q hq (hb.ext e)).mono (aaA e.size)) ?_)|(refine oC 135 ?_;refine alA (f:=135) rfl rfl rfl rfl rfl  (.pred (erA w.heap.size 79 (avA (two (λ x y=>x && !y) p q)))) (by intro u1 u2 u3 w e hu1 hu2 hu3;(try obtain rfl:u1=_:=hu1);(try obtain rfl:u2=_:=hu2);(try obtain rfl:u3=_:=hu3);exact (itA (λ x y=>x && !y) _ xlA rfl _ _ _ p q hp hq (OwnI.slI hu1) (OwnI.slI hu2)).mono (b1A e.size rfl)) ?_)|refine yO ?_|(refine yC ?_ ?_<;>intro hc)|(refine yN hK ?_;clear hK K))|refine wG ?_|(refine yR ?_;intro K hK)|fail)
 exact ajA rfl rfl (Ext.refl _) (λ _ _ _ h=>h)
theorem amB:Fc Tryz.prog 109 #[va,vb] w (Ret w (.pred (erA w.heap.size 79 (avA (two (λ x y=>!(x == y)) p q))))):=by
 refine Fc.of (args:=[_,_]) Tryz.func109 rfl rfl Tryz.ntmps109 nZ ?_
 repeat' (first|(refine yL ?_;first|refine a0A rfl ?_|(refine oD 6 ?_;refine oC 136 ?_;refine a2A (f:=136) rfl rfl rfl  (.pred (bnA w.heap.size 3 .i64 (adA (chg p) 65537))) (by intro u1 w e hu1;(try obtain rfl:u1=_:=hu1);exact (row_of _ _ p hp (ha.ext e)).mono (aaA e.size)) ?_)|(refine oD 8 ?_;refine oC 136 ?_;refine a2A (f:=136) rfl rfl rfl  (.pred (bnA w.heap.size 3 .i64 (adA (chg q) 65537))) (by intro u1 w e hu1;(try obtain rfl:u1=_:=hu1);exact (row_of _ _ q hq (hb.ext e)).mono (aaA e.size)) ?_)|(refine oC 135 ?_;refine alA (f:=135) rfl rfl rfl rfl rfl  (.pred (erA w.heap.size 79 (avA (two (λ x y=>!(x == y)) p q)))) (by intro u1 u2 u3 w e hu1 hu2 hu3;(try obtain rfl:u1=_:=hu1);(try obtain rfl:u2=_:=hu2);(try obtain rfl:u3=_:=hu3);exact (itA (λ x y=>!(x == y)) _ xdA rfl _ _ _ p q hp hq (OwnI.slI hu1) (OwnI.slI hu2)).mono (b1A e.size rfl)) ?_)|refine yO ?_|(refine yC ?_ ?_<;>intro hc)|(refine yN hK ?_;clear hK K))|refine wG ?_|(refine yR ?_;intro K hK)|fail)
 exact ajA rfl rfl (Ext.refl _) (λ _ _ _ h=>h)
end
def drA (lo hi:Int) (i:Nat):Bool:=decide (lo≤i) && decide ((i:Int)<hi) && decide (i<65536)
def gpA (x y:Bool):Bool:=!(x == y)
theorem fpA (P:Nat→Bool) {a:Nat}:∀ b,a≤b→(∀ i,a≤i→i<b→P i=false)→adA P b=adA P a
 | 0,h,_=>by obtain rfl:a=0:=oZ
             rfl
 | b+1,h,hf=>by
   rcases Nat.lt_or_ge b a with h1|h1
   ·obtain rfl:a=b+1:=oZ
    rfl
   ·rw [adA,fpA P b h1 (λ i g1 g2=>hf i g1 oZ),hf b h1 oZ];simp
theorem t7A (L H:Nat) (h1:L<H) (h2:H≤65536):adA (chg (drA L H)) 65537=[(L:Int),(H:Int)]:=by
 have hb:∀ i,bel (drA L H) i=(decide (L<i) && decide (i≤H)):=λ i=>by
  cases i with
  | zero=>rfl
  | succ i =>
    show drA L H i=_
    unfold drA;rw [Bool.eq_iff_iff];simp;omega
 have hc:∀ i,chg (drA L H) i=(decide (i=L) || decide (i=H)):=λ i=>by
  unfold chg;rw [hb];unfold drA
  by_cases e1:i=L
  ·subst e1
   rw [decide_eq_true (by omega:((i:Nat):Int)≤i),decide_eq_true (by omega:((i:Nat):Int)<(H:Int)),decide_eq_true (by omega:i<65536),decide_eq_false (by omega:¬ i<i)];simp
  ·by_cases e2:i=H
   ·subst e2
    rw [decide_eq_false (by omega:¬ ((i:Nat):Int)<(i:Int)),decide_eq_true (by omega:L<i)];simp
   ·rw [decide_eq_false e1,decide_eq_false e2,show decide ((L:Int)≤i)=decide (L<i) by rw [decide_eq_decide];omega,show decide ((i:Int)<(H:Int))=decide (i≤H) by rw [decide_eq_decide];omega]
    by_cases e3:i≤H
    ·rw [decide_eq_true (by omega:i<65536)];simp
    ·rw [decide_eq_false e3];simp
 rw [fpA _ (a:=H+1) 65537 oZ (λ i g1 _=>by rw [hc,decide_eq_false oZ,decide_eq_false oZ];rfl),adA,hc,decide_eq_true (rfl:H=H),Bool.or_true,if_pos rfl];rw [fpA _ (a:=L+1) H oZ (λ i g1 g2=>by rw [hc,decide_eq_false oZ,decide_eq_false oZ];rfl),adA,hc,decide_eq_true (rfl:L=L),Bool.true_or,if_pos rfl];rw [fpA _ (a:=0) L oZ (λ i _ g2=>by rw [hc,decide_eq_false oZ,decide_eq_false oZ];rfl)];rfl
theorem n4A (lo hi:Int):drA lo hi 65536=false:=by simp [drA]
theorem t8A (lo hi:Int):∀ i,drA lo hi i=drA (max lo 0) (min hi 65536) i:=λ i=>by
 unfold drA;rw [Bool.eq_iff_iff];simp;omega
theorem bmB:El Tryz.prog 30 79 (q0A 0 0) 2 4:=⟨rfl,rfl,rfl,by decide⟩
theorem lsA (w:World) (v:Value) (n:Nat) (cs:List Value) (h:SlC w v n 2 cs) (h1:∀ u ∈ cs,u.oneCell'=true) (hb:n*4≤140737488355328):Fc Tryz.prog 44 #[v] w (Ret w (.pred (hqA w.heap.size 79 2 n cs))):=by
 obtain ⟨h0,a,cap,rfl,hc,hm,hn,hcs⟩:=id h;have hlen:=h.len;cases a with
 | none =>
   obtain rfl:=hn rfl;obtain rfl:n=0:=oZ;obtain rfl:cs=[]:=List.eq_nil_of_length_eq_zero oZ;refine Fc.of (args:=[_]) Tryz.func44 rfl rfl Tryz.ntmps44 nZ ?_
   repeat' (first|(refine yL ?_;first|refine a0A rfl ?_|refine blA (c:=.bool true) rfl rfl rfl (λ _=>rfl) ?_|refine yO ?_|(refine yC ?_ ?_<;>intro hc)|(refine yN hK ?_;clear hK K))|refine wG ?_|(refine yR ?_;intro K hK)|(refine oPX ?_;first|exact ajA rfl rfl (Ext.refl _) (λ u w2 e2 hu=>by obtain rfl:u=_:=hu;exact Own.nil))|fail)
 | some a =>
   refine Fc.of (args:=[_]) Tryz.func44 rfl rfl Tryz.ntmps44 nZ ?_
   repeat' (first|(refine yL ?_;first|refine a0A rfl ?_|refine blA (c:=.bool false) rfl rfl rfl (λ _=>rfl) ?_|refine ghA 79 (s:=2) rfl (λ _=>by kernel_rfl) ?_|(refine a4A (hK _ _ (bkA 5 rfl (λ v5 w5 e5 h5=>?_)));clear hK K;have h6:=h.ext e5;have ho:Own w.heap.size _ _ w5 v5 0 []:=h5;refine aiA kZ (λ K hK=>?_))|(refine a4A (hK _ _ (cpA rfl dZ bmB rfl ho rfl (HasC.val h6) h1 (by rw [Nat.zero_add];unfold maxLen;omega) (by rw [Nat.zero_add];exact hb) e5.size (λ v' w2 w3 he2 ho3 hg3=>?_)));clear hK K;dsimp only [vals];refine aiA kZ (λ K hK=>?_))|refine yO ?_|(refine yC ?_ ?_<;>intro hc)|(refine yN hK ?_;clear hK K))|refine wG ?_|(refine yR ?_;intro K hK)|fail)
   exact ajA rfl rfl ((e5.trans he2).grown hg3 (λ q hq=>(Own.lt ho q hq).1)) (λ u w4 e4 hu=>by
    obtain rfl:u=_:=hu;have h9:Own w.heap.size 79 2 w3 u n cs:=by simpa using ho3
    exact h9.ext e4)
theorem k2A (w:World) (v:Value) (p:Nat→Bool) (lo hi:Int) (hp:p 65536=false) (h:SlR w v (avA p)) (hlo:-9223372036854775808≤lo∧lo<9223372036854775808) (hhi:-9223372036854775808≤hi∧hi<9223372036854775808) :
 Fc Tryz.prog 95 #[v,.int .i64 lo,.int .i64 hi] w (Ret w (.pred (erA w.heap.size 79 (avA (two gpA p (drA lo hi)))))):=by
 refine Fc.of (args:=[_,_,_]) Tryz.func95 rfl rfl Tryz.ntmps95 nZ ?_
 obtain ⟨L,hL⟩:∃ L:Nat,max lo 0=L:=⟨(max lo 0).toNat,by omega⟩;obtain ⟨H,hH⟩:∃ H:Int,min hi 65536=H:=⟨_,rfl⟩;have hsp:∀ i,drA lo hi i=drA L H i:=λ i=>by rw [t8A,hL,hH]
 have hlen:=dbA p
 by_cases hLH:(L:Int) ≥ H
 ·have e:avA (two gpA p (drA lo hi))=avA p:=f2A λ i _=>by
   have:drA lo hi i=false:=by
    rw [hsp];unfold drA
    by_cases h1:(L:Int)≤i
    ·rw [decide_eq_false (by omega:¬ (i:Int)<H)];simp
    ·rw [decide_eq_false h1];simp
   unfold two gpA;rw [this];cases p i <;> rfl
  rw [e]
  repeat' (first|(refine yL ?_;first|refine a0A rfl ?_|(refine f7A rfl rfl rfl ?_;rw [hL])|(refine cwA rfl rfl rfl ?_;rw [hH])|refine yO ?_|(refine yC ?_ ?_<;>intro hc)|(refine yV ?_;first|(refine oC 44 ?_;refine a2A (f:=44) rfl rfl rfl  (.pred (hqA w.heap.size 79 2 (avA p).length (d0A (avA p)))) (by intro u1 w e hu1;(try obtain rfl:u1=_:=hu1);exact (lsA _ _ _ _ (h.ext e) (h3A _) oZ).mono (lgA e.size)) ?_))|(refine yN hK ?_;clear hK K))|refine wG ?_|(refine yR ?_;intro K hK)|fail)
  exact ajA rfl rfl (Ext.refl _) (λ _ _ _ h=>h)
 ·obtain ⟨H',rfl⟩:=Int.eq_ofNat_of_zero_le (by omega:0≤H)
  have er:=t7A L H' oZ oZ;have hsc:drA L H' 65536=false:=n4A _ _;have e:avA (two gpA p (drA lo hi))=avA (two gpA p (drA L H')):=f2A λ i _=>by unfold two;rw [hsp]
  rw [e]
  repeat' (first|(refine yL ?_;first|refine a0A rfl ?_|(refine f7A rfl rfl rfl ?_;rw [hL])|(refine cwA rfl rfl rfl ?_;rw [hH])|refine oiA rfl r7A rfl rfl rfl rfl ?_|(refine oC 135 ?_;refine alA (f:=135) rfl rfl rfl rfl rfl  (.pred (erA w.heap.size 79 (avA (two gpA p (drA L H'))))) (by intro u1 u2 u3 w e hu1 hu2 hu3;(try obtain rfl:u1=_:=hu1);(try obtain rfl:u2=_:=hu2);(try obtain rfl:u3=_:=hu3);exact (itA gpA _ toA rfl _ _ _ p (drA L H') hp hsc (OwnI.slI hu1) (by rw [er];exact Own.slC hu2)).mono (b1A e.size rfl)) ?_)|refine yO ?_|(refine yC ?_ ?_<;>intro hc)|(refine yV ?_;first|(refine oC 136 ?_;refine a2A (f:=136) rfl rfl rfl  (.pred (bnA w.heap.size 3 .i64 (adA (chg p) 65537))) (by intro u1 w e hu1;(try obtain rfl:u1=_:=hu1);exact (row_of _ _ p hp (h.ext e)).mono (aaA e.size)) ?_))|(refine yN hK ?_;clear hK K))|refine wG ?_|(refine yR ?_;intro K hK)|fail)
  exact ajA rfl rfl (Ext.refl _) (λ _ _ _ h=>h)
theorem gwA {a:List Rn} {f m:Int}:d0A (a++[(f,m)])=d0A a++[.int .u16 f,.int .u16 m]:=by rw [h4A];rfl
theorem last_at {cur:Array Value} {a:List Rn} {f m:Int} (h:cur.toList.take ((a++[(f,m)]).length*2)=d0A (a++[(f,m)])):cur[a.length*2+1]?=some (.int .u16 m):=by
 rw [gwA,List.length_append] at h;have h1:=congrArg (λ l=>l[a.length*2+1]?) h;simp only [List.getElem?_take] at h1;rw [if_pos (by simp;omega),List.getElem?_append_right (by rw [dtA];omega),dtA,show a.length*2+1-a.length*2=1 by omega] at h1;rw [← Array.getElem?_toList,h1];rfl
theorem OwnR.bump {base e b cap:Nat} {w:World} {cur:Array Value} {a:List Rn} {f m:Int} (hb:base≤b) (hg:w.heap[b]?=some (.cells cur e (0,0))) (hnc:(a++[(f,m)]).length≤cap) (hm:cap≤maxLen) (hsz:cur.size=cap*2) (ht:cur.toList.take ((a++[(f,m)]).length*2)=d0A (a++[(f,m)])) (c:Int) :
 OwnR base e (w.setRow b (cur.setIfInBounds (a.length*2+1) (.int .u16 c))) (.slice (some ⟨b,0,none⟩) (a++[(f,m)]).length cap) (a++[(f,c)]):=by
 have hl:(a++[(f,c)]).length=(a++[(f,m)]).length:=by simp
 unfold OwnR;rw [hl];refine ⟨by rw [dtA,hl],.inr ⟨b,cap,cur.setIfInBounds (a.length*2+1) (.int .u16 c),rfl,hb,setRow_heap w b cur _ e _ hg,hnc,hm,by simpa using hsz,?_⟩⟩;rw [Array.toList_setIfInBounds,List.take_set,ht,gwA,gwA,List.set_append_right _ _ (by rw [dtA];omega),dtA,show a.length*2+1-a.length*2=1 by omega];rfl
def Tk (xs:List Int):Nat→Nat
 | 0=>0
 | k+1=>(xs.getD k 0).toNat+1
theorem r9A {xs:List Int} (h:Inc xs) (hl:Low xs) {k:Nat} (hk:k<xs.length):Tk xs k≤(xs.getD k 0).toNat∧(∀ z,Tk xs k≤z→z<(xs.getD k 0).toNat→buA xs z=false)∧buA xs (xs.getD k 0).toNat=true:=by
 have hb:∀ j,j<xs.length→0≤xs.getD j 0∧xs.getD j 0<65536:=λ j hj=>by rw [awA hj];exact hl _ (List.getElem_mem hj)
 have hlt:∀ i j,i<j→j<xs.length→xs.getD i 0<xs.getD j 0:=λ i j hij hj=>by
  rw [awA hj,awA oZ];exact List.pairwise_iff_getElem.1 h i j oZ hj hij
 refine ⟨?_,λ z h1 h2=>?_,?_⟩
 ·cases k with
  | zero=>exact Nat.zero_le _
  | succ k=>have:=hlt k (k+1) oZ hk;have:=hb k oZ;simp only [Tk];omega
 ·unfold buA
  refine decide_eq_false λ hm=>?_
  obtain ⟨j,hj,he⟩:=List.getElem_of_mem hm;have he':xs.getD j 0=z:=by rw [awA hj];exact he
  rcases Nat.lt_or_ge j k with h3|h3
  ·obtain ⟨k',rfl⟩:∃ k',k=k'+1:=⟨k-1,by omega⟩
   simp only [Tk] at h1
   rcases Nat.lt_or_ge j k' with h4|h4
   ·have:=hlt j k' h4 oZ;have:=hb k' oZ;omega
   ·obtain rfl:j=k':=oZ
    omega
  ·rcases Nat.lt_or_ge k j with h4|h4
   ·have:=hlt k j h4 hj;have:=hb k hk;omega
   ·obtain rfl:j=k:=oZ
    omega
 ·unfold buA
  have:=hb k hk;rw [show (((xs.getD k 0).toNat:Nat):Int)=xs.getD k 0 by omega];exact decide_eq_true (by rw [awA hk];exact List.getElem_mem hk)
theorem waA (w:World) (v:Value) (xs:List Int) (h:SlI .u16 w v xs) (hi:Inc xs) (hl:Low xs):Fc Tryz.prog 45 #[v] w (Ret w (.pred (erA w.heap.size 79 (avA (buA xs))))):=by
 have hlen:=h.len;refine Fc.of (args:=[_]) Tryz.func45 rfl rfl Tryz.ntmps45 nZ ?_
 repeat' (first|(refine yL ?_;first|refine a0A rfl ?_|refine yO ?_|(refine yC ?_ ?_<;>intro hc)|(refine yN hK ?_;clear hK K))|refine wG ?_|(refine yR ?_;intro K hK)|fail)
 refine agA (ι:=Nat × Value) (λ i=>[(0,.val v),(3,.val i.2),(6,.val v),(7,.val (.int .i64 xs.length)),(8,.val (.int .i64 i.1))]) (λ i w'=>Ext w w'∧i.1≤xs.length∧OwnR w.heap.size 79 w' i.2 (opn (buA xs) (Tk xs i.1))) (λ i=>xs.length-i.1)
  (λ w2 e2=>⟨(0,.slice none 0 0),⟨e2,Nat.zero_le _,OwnR.nil⟩,sZ⟩) ?_
 rintro ⟨k,so⟩ w1 ⟨he,hk,ho⟩;dsimp only at hk ho ⊢;have h1:=h.ext he
 by_cases hkl:k<xs.length
 ·obtain ⟨g1,g2,g3⟩:=r9A hi hl hkl
  have hxb:0≤xs.getD k 0∧xs.getD k 0<65536:=by rw [awA hkl];exact hl _ (List.getElem_mem hkl)
  obtain ⟨X,hX⟩:=Int.eq_ofNat_of_zero_le hxb.1;have hXb:X<65536:=oZ;have hTs:Tk xs (k+1)=X+1:=by simp only [Tk];rw [hX];rfl
  rw [hX,Int.toNat_natCast] at g1 g2 g3;have hof:=fyA X g1 g2;rw [← hof] at ho
  by_cases hA:0<k∧Tk xs k=X
  ·obtain ⟨j,rfl⟩:∃ j,k=j+1:=⟨k-1,by omega⟩
   have hjb:0≤xs.getD j 0∧xs.getD j 0<65536:=by rw [awA oZ];exact hl _ (List.getElem_mem _)
   have hjX:xs.getD j 0+1=X:=by have:=hA.2;simp only [Tk] at this;omega
   have hji:(((j+1:Nat):Int)-1)=(j:Int):=oZ;obtain ⟨Y,rfl⟩:∃ Y,X=Y+1:=⟨X-1,by omega⟩;have hbl:bel (buA xs) (Y+1)=true:=by
    show buA xs Y=true
    have:=(r9A hi hl (k:=j) oZ).2.2;rwa [show (xs.getD j 0).toNat=Y by omega] at this
   have hfl:=frA (buA xs) (Y+1) hbl;rw [euA hbl] at ho;have hnew:=elA g3 hbl;obtain ⟨f,hf⟩:∃ f:Int,f=frm (buA xs) (Y+1):=⟨_,rfl⟩;obtain ⟨a,ha⟩:∃ a,a=rnC (buA xs) (Y+1):=⟨_,rfl⟩;obtain ⟨m,hm⟩:∃ m:Int,m=((Y+1:Nat):Int)-f-1:=⟨_,rfl⟩;rw [← hf,← ha,← hm] at ho;rw [← hf,← ha,show ((Y+1:Nat):Int)-f=m+1 by omega,← hTs] at hnew;have hal:a.length≤Y+1:=ha▸mbA _ _;have hfb:0≤f∧f<Y+1:=oZ;obtain ⟨gb,cap,cur,rfl,hgb,hgc,hgn,hgm,hgs,hgt⟩:=ho.row (by simp);have hra:=last_at hgt;have hln:((a++[(f,m)]).length:Int)=(a.length:Int)+1:=by simp
   have hlN:(a++[(f,m)]).length=a.length+1:=by simp
   repeat' (first|(refine yL ?_;first|refine a0A rfl ?_|(refine oD 19 ?_;refine abA rfl rfl rfl fZ ?_;rw [hji])|(refine oD 12 ?_;refine esA rfl (λ _=>rfl) rfl ?_;rw [hX])|(refine oD 27 ?_;refine btA rfl _ rfl rfl (HasR.ownV ho) ?_;rw [hln])|(refine oD 28 ?_;refine abA rfl rfl rfl fZ ?_;rw [Int.add_sub_cancel])|(refine oD 29 ?_;refine d2A (s:=2) rfl rfl (λ _=>rfl) rfl rfl oZ oZ ?_;rw [Int.toNat_natCast])|(refine oD 33 ?_;refine d2A (s:=2) rfl rfl (λ _=>rfl) rfl rfl oZ oZ ?_;rw [Int.toNat_natCast])|(refine oF 1 ?_;refine a1A (a:=⟨gb,0+a.length*2,none⟩) (a':=⟨gb,a.length*2+1,none⟩) rfl rfl (λ w=>by rw [Nat.zero_add];rfl) ?_)|(refine oD 31 ?_;refine a5A rfl (λ _=>rfl) rfl hgc hra ?_)|(refine a4A (hK _ _ (d1A rfl rfl rfl hgc (λ _=>rfl) oZ rfl rfl (λ w4 e4=>?_)));clear hK K;dsimp only [vals];refine aiA kZ (λ K hK=>?_))|refine yO ?_|(refine yC ?_ ?_<;>intro hc)|(refine yN hK ?_;clear hK K))|refine wG ?_|(refine yR ?_;intro K hK)|fail)
   refine a6A (j+1+1,_) (λ w5 e5=>⟨((he.trans e4).setRow hgb _).trans e5,hkl,?_⟩) eZ sZ;dsimp only;rw [hnew];exact OwnR.ext (OwnR.bump hgb (e4.block hgc) hgn hgm hgs hgt (m+1)) e5
  ·have hbl:bel (buA xs) X=false:=by
    cases X with
    | zero=>rfl
    | succ Y =>
      show buA xs Y=false
      cases k with
      | zero=>exact g2 Y (Nat.zero_le _) oZ
      | succ j=>exact g2 Y (by have:¬ Tk xs (j+1)=Y+1:=λ e=>hA ⟨by omega,e⟩;omega) oZ
   have hnew:=flA g3 hbl;rw [← hTs] at hnew;have hol:(opn (buA xs) X).length≤X:=by rw [hsA];exact cnt_le _ _
   by_cases hk0:0<k
   ·obtain ⟨j,rfl⟩:∃ j,k=j+1:=⟨k-1,by omega⟩
    have hjb:0≤xs.getD j 0∧xs.getD j 0<65536:=by rw [awA oZ];exact hl _ (List.getElem_mem _)
    have hjX:¬ (X:Int)=xs.getD j 0+1:=λ e=>hA ⟨by omega,by simp only [Tk];omega⟩
    have hjl:xs.getD j 0+1≤X:=by have:=g1;simp only [Tk] at this;omega
    have hji:(((j+1:Nat):Int)-1)=(j:Int):=oZ
    repeat' (first|(refine yL ?_;first|refine a0A rfl ?_|(refine oD 19 ?_;refine abA rfl rfl rfl fZ ?_;rw [hji])|(refine oD 12 ?_;refine esA rfl (λ _=>rfl) rfl ?_;rw [hX])|refine m1A (c:=q0A X 0) rfl rfl (λ w=>run_build w _ _ _ kZ) ?_|refine e3A rfl jgA rfl rfl dZ ?_|(refine a4A (hK _ _ (h7A rfl dZ jgA rfl ho rfl oZ oZ he (λ v' w' he' ho'=>?_)));clear hK K;dsimp only [vals];refine aiA kZ (λ K hK=>?_))|refine yO ?_|(refine yC ?_ ?_<;>intro hc)|(refine yN hK ?_;clear hK K))|refine wG ?_|(refine yR ?_;intro K hK)|fail)
    exact a6A (j+1+1,v') (λ w5 e5=>⟨he'.trans e5,hkl,by dsimp only;rw [hnew];exact ho'.ext e5⟩) eZ sZ
   ·obtain rfl:k=0:=oZ
    repeat' (first|(refine yL ?_;first|refine a0A rfl ?_|(refine oD 12 ?_;refine esA rfl (λ _=>rfl) rfl ?_;rw [hX])|refine m1A (c:=q0A X 0) rfl rfl (λ w=>run_build w _ _ _ kZ) ?_|refine e3A rfl jgA rfl rfl dZ ?_|(refine a4A (hK _ _ (h7A rfl dZ jgA rfl ho rfl oZ oZ he (λ v' w' he' ho'=>?_)));clear hK K;dsimp only [vals];refine aiA kZ (λ K hK=>?_))|refine yO ?_|(refine yC ?_ ?_<;>intro hc)|(refine yN hK ?_;clear hK K))|refine wG ?_|(refine yR ?_;intro K hK)|fail)
    exact a6A (0+1,v') (λ w5 e5=>⟨he'.trans e5,hkl,by dsimp only;rw [hnew];exact ho'.ext e5⟩) eZ sZ
 ·obtain rfl:k=xs.length:=oZ
  have hend:opn (buA xs) (Tk xs xs.length)=avA (buA xs):=by
   have hT:Tk xs xs.length≤65536:=by
    cases hxl:xs.length with
    | zero=>exact Nat.zero_le _
    | succ j =>
      have:0≤xs.getD j 0∧xs.getD j 0<65536:=by rw [awA oZ];exact hl _ (List.getElem_mem _)
      simp only [Tk];omega
   unfold avA;refine (fyA 65536 hT λ z h1 h2=>?_).symm;unfold buA;refine decide_eq_false λ hm=>?_
   obtain ⟨j,hj,hej⟩:=List.getElem_of_mem hm;cases hxl:xs.length with
   | zero=>omega
   | succ n =>
     rw [hxl] at h1 hj;simp only [Tk] at h1;have e1:xs.getD j 0=z:=by rw [awA oZ];exact hej
     rcases Nat.lt_or_ge j n with h4|h4
     ·have:=List.pairwise_iff_getElem.1 hi j n oZ oZ h4
      rw [← awA oZ,← awA oZ] at this;omega
     ·obtain rfl:j=n:=oZ
      omega
  rw [hend] at ho
  repeat' (first|(refine yL ?_;first|refine a0A rfl ?_|refine yO ?_|(refine yC ?_ ?_<;>intro hc)|(refine yN hK ?_;clear hK K))|refine wG ?_|(refine yR ?_;intro K hK)|fail)
  exact ajA rfl rfl he (λ u w5 e5 hu'=>by obtain rfl:u=_:=hu';exact ho.ext e5)
theorem tlA (f:Int):ncA f (-1)=[]:=by simp [ncA]
theorem mhA {w w':World} {b:Nat} {row:Option Nat} {o:Obj} (h:w.grownBy w' row) (hb:w.heap[b]?=some o) (hne:row≠some b):w'.heap[b]?=some o:=by
 rw [h.block b (Array.getElem?_eq_some_iff.1 hb).1 (λ e=>hne e.symm)];exact hb
theorem tnA (w:World) (v:Value) (rs:List Rn) (h:SlR w v rs) (hu:U16 rs) (hr:Right rs) (hn:rs.length≤70000):Fc Tryz.prog 80 #[v] w (Ret w (.pred (bnA w.heap.size 40 .u16 (ecA rs)))):=by
 have hlen:=h.len;refine Fc.of (args:=[_]) Tryz.func80 rfl rfl Tryz.ntmps80 nZ ?_
 repeat' (first|(refine yL ?_;first|refine a0A rfl ?_|(refine oI ?_;refine azA rfl _ rfl (λ _=>rfl) rfl jZ rfl oZ ?_)|(refine oLt 79 ?_;refine akA rfl (λ _=>rfl) (λ _=>rfl) rfl ?_)|(show LA _ _ _ _ (⟨some 99,.alloc _,_,_,_,_⟩::_) _;refine a4A (hK _ _ (c5A rfl rfl dZ (λ _=>rfl) (λ _=>rfl) (λ _=>rfl) rfl (by intro u hu;simp [Value.cells] at hu;rcases hu with rfl|rfl <;> rfl) (λ bx wx ex hbx hbc=>?_)));clear hK K;refine aiA kZ (λ K hK=>?_))|(refine oF 0 ?_;refine a1A (a:=⟨bx,0,none⟩) (a':=⟨bx,0,none⟩) rfl rfl (λ _=>rfl) ?_)|(refine oF 1 ?_;refine a1A (a:=⟨bx,0,none⟩) (a':=⟨bx,1,none⟩) rfl rfl (λ _=>rfl) ?_)|(refine oLt 79 ?_;refine b2A rfl (λ _=>rfl) (λ _=>rfl) rfl hbc ?_)|(refine oLt 40 ?_;refine a5A rfl (λ _=>rfl) rfl hbc rfl ?_)|(refine c7A ?_;refine btA rfl _ rfl rfl jZ ?_)|refine yO ?_|(refine yC ?_ ?_<;>intro hc)|(refine yN hK ?_;clear hK K))|refine wG ?_|(refine yR ?_;intro K hK)|fail)
 refine agA (ι:=Nat × Value) (λ i=>[(3,.val i.2),(7,.val v),(8,.val (.int .i64 rs.length)),(9,.val (.int .i64 i.1))]) (λ i w'=>Ext w w'∧i.1≤rs.length∧OwnI w.heap.size 40 .u16 w' i.2 (ecA (rs.take i.1))) (λ i=>rs.length-i.1)
  (λ w2 e2=>⟨(0,.slice none 0 0),⟨e2,Nat.zero_le _,OwnI.nil⟩,sZ⟩) ?_
 rintro ⟨k,so⟩ w1 ⟨he,hk,ho⟩;dsimp only at hk ho ⊢;have h1:=h.ext he
 by_cases hkl:k<rs.length
 ·obtain ⟨u1,u2,u3,u4⟩:=hu.at k
  obtain ⟨-,hr2⟩:=hr k hkl;have hlk:((ecA (rs.take k)).length:Int)=jcA (rs.take k):=iiA _ (λ x hx=>(hu x (List.mem_of_mem_take hx)).2.2.1);have hb:=gkA (λ x=>x.2+1) 65536 (λ x h1 h2=>⟨by omega,by omega⟩) hu k hk;have hb:0≤jcA (rs.take k)∧jcA (rs.take k)≤65536*k:=hb;obtain ⟨LK,hLK⟩:∃ LK,LK=(ecA (rs.take k)).length:=⟨_,rfl⟩;have hLKb:LK≤65536*70000:=oZ;clear hlk hb;obtain ⟨F,hF⟩:=Int.eq_ofNat_of_zero_le u1;obtain ⟨M,hM⟩:=Int.eq_ofNat_of_zero_le u3;rw [hF] at u2 hr2;rw [hM] at u4 hr2;have hmin:min ((F:Int)+M+1) 65536=(F:Int)+M+1:=oZ
  repeat' (first|(refine yL ?_;first|refine a0A rfl ?_|(refine oD 12 ?_;refine akA rfl (λ _=>rfl) (λ _=>rfl) rfl ?_;rw [hF,hM])|(refine oI ?_;refine azA rfl _ rfl (λ _=>rfl) rfl jZ rfl oZ ?_)|(refine oLt 79 ?_;refine akA rfl (λ _=>rfl) (λ _=>rfl) rfl ?_)|(show LA _ _ _ _ (⟨some 5,.alloc _,_,_,_,_⟩::_) _;refine a4A (hK _ _ (c5A rfl rfl dZ (λ _=>rfl) (λ _=>rfl) (λ _=>rfl) rfl (by intro u hu;simp [Value.cells] at hu;rcases hu with rfl|rfl <;> rfl) (λ bx wx ex hbx hbc=>?_)));clear hK K;refine aiA kZ (λ K hK=>?_))|(refine oF 0 ?_;refine a1A (a:=⟨bx,0,none⟩) (a':=⟨bx,0,none⟩) rfl rfl (λ _=>rfl) ?_)|(refine oF 1 ?_;refine a1A (a:=⟨bx,0,none⟩) (a':=⟨bx,1,none⟩) rfl rfl (λ _=>rfl) ?_)|(refine oLt 79 ?_;refine b2A rfl (λ _=>rfl) (λ _=>rfl) rfl hbc ?_)|(refine oLt 40 ?_;refine a5A rfl (λ _=>rfl) rfl hbc rfl ?_)|(refine c7A ?_;refine btA rfl _ rfl rfl jZ ?_)|refine yO ?_|(refine yC ?_ ?_<;>intro hc)|(refine yN hK ?_;clear hK K))|refine wG ?_|(refine yR ?_;intro K hK)|fail)
  have ho5:=ho.ext ex;have x5:=he.trans ex
  refine agA (ι:=Nat × Value) (λ i=>[(3,.val i.2),(5,.val (.pointer (some ⟨bx,0,none⟩))),(6,.val (.int .i64 ((F:Int)+i.1))),(7,.val v),(8,.val (.int .i64 rs.length)),(9,.val (.int .i64 k))])
   (λ i w'=>Ext w w'∧i.1≤M+1∧OwnI w.heap.size 40 .u16 w' i.2 (ecA (rs.take k)++ncA F ((i.1:Int)-1))∧w'.heap[bx]?=some (.cells (q0A F M).cells 79 (0,0))) (λ i=>M+1-i.1)
   (λ w2 e2=>⟨(0,so),⟨x5.trans e2,Nat.zero_le _,by dsimp only;rw [show (((0:Nat):Int)-1)=-1 from rfl,tlA,List.append_nil];exact ho5.ext e2,e2.block hbc⟩,by dsimp only;rw [show (F:Int)+((0:Nat):Int)=F by omega];exact sZ⟩) ?_
  rintro ⟨j,sj⟩ w6 ⟨he6,hj6,ho6,hbc6⟩;dsimp only at hj6 ho6 hbc6 ⊢;have hrl:(ecA (rs.take k)++ncA F ((j:Int)-1)).length=LK+j:=by rw [List.length_append,glA,← hLK];omega
  have hne:sj.ownBlock≠some bx:=λ e=>by
   rcases ho6.2 with ⟨e0,-⟩|⟨g,cap,cur,e0,-,hg,-⟩
   ·rw [e0] at e;cases e
   ·rw [e0] at e
    have:g=bx:=by simpa [Value.ownBlock] using e
    subst this;rw [hbc6] at hg;simp only [Option.some.injEq,Obj.cells.injEq] at hg;exact absurd hg.2.1 dZ
  by_cases hjl:j<M+1
  ·have hsucc:=ldA F j
   repeat' (first|(refine yL ?_;first|refine a0A rfl ?_|(refine cwA rfl rfl rfl ?_;rw [hmin])|(refine oLt 79 ?_;refine b2A rfl (λ _=>rfl) (λ _=>rfl) rfl hbc6 ?_)|refine hiA rfl haA rfl rfl ?_|(refine a4A (hK _ _ (cpA rfl dZ haA rfl ho6 rfl HasC.pred (by intro u hu9;simp at hu9;subst hu9;rfl) (by rw [hrl];unfold maxLen;omega) (by rw [hrl];omega) he6.size (λ v' w7 w8 e7 ho8 hg8=>?_)));clear hK K;dsimp only [vals];refine aiA kZ (λ K hK=>?_))|refine yO ?_|(refine yC ?_ ?_<;>intro hc)|(refine yV ?_;first|(refine oC 78 ?_;refine a2A (f:=78) rfl rfl rfl  (.val (.int .i64 ((F:Int)+M+1))) (by intro u1 w e hu1;(try obtain rfl:u1=_:=hu1);exact p1A _ F M ⟨by omega,by omega⟩ ⟨by omega,by omega⟩) ?_))|(refine yN hK ?_;clear hK K))|refine wG ?_|(refine yR ?_;intro K hK)|fail)
   refine a6A (j+1,v') (λ w9 e9=>⟨((he6.trans e7).grown hg8 (λ q hq=>(Own.lt ho6 q hq).1)).trans e9,by dsimp only;omega,?_,e9.block (mhA hg8 (e7.block hbc6) hne)⟩) eZ sZ;dsimp only;rw [show (((j+1:Nat):Int)-1)=(j:Int) by omega,hsucc,← List.append_assoc];refine OwnI.ext ?_ e9;unfold OwnI;rw [List.map_append,List.length_append];exact ho8
  ·obtain rfl:j=M+1:=oZ
   repeat' (first|(refine yL ?_;first|refine a0A rfl ?_|(refine cwA rfl rfl rfl ?_;rw [hmin])|(refine oLt 79 ?_;refine b2A rfl (λ _=>rfl) (λ _=>rfl) rfl hbc6 ?_)|refine yO ?_|(refine yC ?_ ?_<;>intro hc)|(refine yV ?_;first|(refine oC 78 ?_;refine a2A (f:=78) rfl rfl rfl  (.val (.int .i64 ((F:Int)+M+1))) (by intro u1 w e hu1;(try obtain rfl:u1=_:=hu1);exact p1A _ F M ⟨by omega,by omega⟩ ⟨by omega,by omega⟩) ?_))|(refine yN hK ?_;clear hK K))|refine wG ?_|(refine yR ?_;intro K hK)|fail)
   refine a6A (k+1,sj) (λ w9 e9=>⟨he6.trans e9,hkl,?_⟩) eZ sZ;dsimp only;rw [gjA hkl,fqA,hF,hM];have hlr:ecA [((F:Int),(M:Int))]=ncA F M:=by simp [ecA]
   rw [hlr];rw [show (((M+1:Nat):Int)-1)=(M:Int) by omega] at ho6;exact ho6.ext e9
 ·obtain rfl:k=rs.length:=oZ
  rw [List.take_length] at ho
  repeat' (first|(refine yL ?_;first|refine a0A rfl ?_|refine yO ?_|(refine yC ?_ ?_<;>intro hc)|(refine yN hK ?_;clear hK K))|refine wG ?_|(refine yR ?_;intro K hK)|fail)
  exact ajA rfl rfl he (λ u w5 e5 hu'=>by obtain rfl:u=_:=hu';exact ho.ext e5)
theorem i9A {f:FuncId} {args:Array Value} {w:World} {a b a' b':Value} (ha:a=a') (hb:b=b') (h:Fc Tryz.prog f args w (Ret w (.tup2 (.val a) (.val b)))):Fc Tryz.prog f args w (Ret w (.tup2 (.val a') (.val b'))):=by
 subst ha;subst hb;exact h
theorem nrA (w:World) (f m x:Int) (hf:0≤f∧f<65536) (hx:0≤x∧x<65536):Fc Tryz.prog 191 #[q0A f m,.int .u16 x] w (Ret w (.val (.int .i64 (f-x)))):=by
 refine Fc.of (args:=[_,_]) Tryz.func191 rfl rfl Tryz.ntmps191 nZ ?_
 repeat' (first|(refine yL ?_;first|refine a0A rfl ?_|refine j3A rfl rfl ?_|(refine oD 5 ?_;refine a4A (hK _ _ (bkA 2 rfl (λ v1 w1 e1 h1=>?_)));clear hK K;obtain ⟨bx,hbx,rfl,hbc⟩:=h1;refine aiA kZ (λ K hK=>?_))|(refine oI ?_;refine azA rfl _ rfl (λ _=>rfl) rfl jZ rfl oZ ?_)|(refine oLt 79 ?_;refine akA rfl (λ _=>rfl) (λ _=>rfl) rfl ?_)|(show LA _ _ _ _ (⟨some 99,.alloc _,_,_,_,_⟩::_) _;refine a4A (hK _ _ (c5A rfl rfl dZ (λ _=>rfl) (λ _=>rfl) (λ _=>rfl) rfl (by intro u hu;simp [Value.cells] at hu;rcases hu with rfl|rfl <;> rfl) (λ bx wx ex hbx hbc=>?_)));clear hK K;refine aiA kZ (λ K hK=>?_))|(refine oF 0 ?_;refine a1A (a:=⟨bx,0,none⟩) (a':=⟨bx,0,none⟩) rfl rfl (λ _=>rfl) ?_)|(refine oF 1 ?_;refine a1A (a:=⟨bx,0,none⟩) (a':=⟨bx,1,none⟩) rfl rfl (λ _=>rfl) ?_)|(refine oLt 79 ?_;refine b2A rfl (λ _=>rfl) (λ _=>rfl) rfl hbc ?_)|(refine oLt 40 ?_;refine a5A rfl (λ _=>rfl) rfl hbc rfl ?_)|(refine c7A ?_;refine btA rfl _ rfl rfl jZ ?_)|refine yO ?_|(refine yC ?_ ?_<;>intro hc)|(refine yN hK ?_;clear hK K))|refine wG ?_|(refine yR ?_;intro K hK)|fail)
 exact a9A rfl rfl e1 rfl
theorem zbA (w:World) (v:Value) (rs:List Rn) (x:Int) (h:SlR w v rs) (hu:U16 rs) (hx:0≤x∧x<65536) (hb:rs.length≤4611686018427387903) :
 Fc Tryz.prog 190 #[v,.int .u16 x,.func (.func 191) #[] #[]] w (Ret w (.tup2 (.val (.int .i64 (bsS (rs.map Prod.fst) x))) (.val (.bool (dcA (rs.map Prod.fst) x))))):=by
 refine Fc.of (args:=[_,_,_]) Tryz.func190 rfl rfl Tryz.ntmps190 nZ ?_
 obtain ⟨xs,hxs⟩:∃ xs,xs=rs.map Prod.fst:=⟨_,rfl⟩;have hxl:xs.length=rs.length:=by rw [hxs,List.length_map]
 have hget:∀ k,k<rs.length→xs.getD k 0=fst rs k:=λ k hk=>by rw [hxs];exact h1A hk
 rw [← hxs];clear hxs
 repeat' (first|(refine yL ?_;first|refine a0A rfl ?_|(refine oI ?_;refine azA rfl _ rfl (λ _=>rfl) rfl jZ rfl oZ ?_)|(refine oLt 79 ?_;refine akA rfl (λ _=>rfl) (λ _=>rfl) rfl ?_)|(show LA _ _ _ _ (⟨some 99,.alloc _,_,_,_,_⟩::_) _;refine a4A (hK _ _ (c5A rfl rfl dZ (λ _=>rfl) (λ _=>rfl) (λ _=>rfl) rfl (by intro u hu;simp [Value.cells] at hu;rcases hu with rfl|rfl <;> rfl) (λ bx wx ex hbx hbc=>?_)));clear hK K;refine aiA kZ (λ K hK=>?_))|(refine oF 0 ?_;refine a1A (a:=⟨bx,0,none⟩) (a':=⟨bx,0,none⟩) rfl rfl (λ _=>rfl) ?_)|(refine oF 1 ?_;refine a1A (a:=⟨bx,0,none⟩) (a':=⟨bx,1,none⟩) rfl rfl (λ _=>rfl) ?_)|(refine oLt 79 ?_;refine b2A rfl (λ _=>rfl) (λ _=>rfl) rfl hbc ?_)|(refine oLt 40 ?_;refine a5A rfl (λ _=>rfl) rfl hbc rfl ?_)|(refine c7A ?_;refine btA rfl _ rfl rfl jZ ?_)|refine yO ?_|(refine yC ?_ ?_<;>intro hc)|(refine yN hK ?_;clear hK K))|refine wG ?_|(refine yR ?_;intro K hK)|fail)
 refine b5A (ι:=Nat × Nat) (λ k=>[(0,.val v),(1,.val (.int .u16 x)),(2,.val (.func (.func 191) #[] #[])),(8,.val (.int .i64 rs.length)),(9,.val (.int .i64 k.1)),(10,.val (.int .i64 k.2))]) (λ k=>k.1≤k.2∧k.2≤rs.length∧bsGo xs x k.1 k.2=bsS xs x) (λ k=>k.2-k.1) (0,rs.length)
  ⟨by simp,by simp,by rw [← hxl];rfl⟩ sZ ?_
 rintro ⟨i,j⟩ ⟨h1,h2,h3⟩;dsimp only at h1 h2 h3 ⊢
 by_cases hij:i<j
 ·obtain ⟨m,hm⟩:∃ m,m=(i+j) / 2:=⟨_,rfl⟩
  have hmi:((i:Int)+j) / 2=(m:Int):=oZ;have hml:m<rs.length:=oZ;have hgm:=hget m hml;obtain ⟨u1,u2,u3,u4⟩:=hu.at m
  by_cases hlt:fst rs m<x
  ·skip
   repeat' (first|(refine yL ?_;first|refine a0A rfl ?_|(refine oD 22 ?_;refine f0A rfl rfl rfl oZ (by dsimp only [IntKind.bits];omega) ?_;dsimp only [Int.reduceToNat,Int.reducePow];rw [hmi])|(refine oD 30 ?_;refine a3A (f:=191) (r1:=.val _) (r2:=.val _) rfl rfl rfl rfl (.val (.int .i64 (fst rs m-x))) (by intro a1 a2 w e ha1 ha2;obtain rfl:a1=_:=ha1;obtain rfl:a2=_:=ha2;exact nrA _ _ _ _ ⟨u1,u2⟩ hx) ?_)|(refine oI ?_;refine azA rfl _ rfl (λ _=>rfl) rfl jZ rfl oZ ?_)|(refine oLt 79 ?_;refine akA rfl (λ _=>rfl) (λ _=>rfl) rfl ?_)|(show LA _ _ _ _ (⟨some 99,.alloc _,_,_,_,_⟩::_) _;refine a4A (hK _ _ (c5A rfl rfl dZ (λ _=>rfl) (λ _=>rfl) (λ _=>rfl) rfl (by intro u hu;simp [Value.cells] at hu;rcases hu with rfl|rfl <;> rfl) (λ bx wx ex hbx hbc=>?_)));clear hK K;refine aiA kZ (λ K hK=>?_))|(refine oF 0 ?_;refine a1A (a:=⟨bx,0,none⟩) (a':=⟨bx,0,none⟩) rfl rfl (λ _=>rfl) ?_)|(refine oF 1 ?_;refine a1A (a:=⟨bx,0,none⟩) (a':=⟨bx,1,none⟩) rfl rfl (λ _=>rfl) ?_)|(refine oLt 79 ?_;refine b2A rfl (λ _=>rfl) (λ _=>rfl) rfl hbc ?_)|(refine oLt 40 ?_;refine a5A rfl (λ _=>rfl) rfl hbc rfl ?_)|(refine c7A ?_;refine btA rfl _ rfl rfl jZ ?_)|refine yO ?_|(refine yC ?_ ?_<;>intro hc)|(refine yN hK ?_;clear hK K))|refine wG ?_|(refine yR ?_;intro K hK)|fail)
   refine bpA (m+1,j) ⟨by dsimp only;omega,h2,?_⟩ eZ sZ;rw [← h3];conv=>rhs;rw [bsGo,if_pos hij,← hm,if_pos (by rw [hgm];exact hlt)]
  ·skip
   repeat' (first|(refine yL ?_;first|refine a0A rfl ?_|(refine oD 22 ?_;refine f0A rfl rfl rfl oZ (by dsimp only [IntKind.bits];omega) ?_;dsimp only [Int.reduceToNat,Int.reducePow];rw [hmi])|(refine oD 30 ?_;refine a3A (f:=191) (r1:=.val _) (r2:=.val _) rfl rfl rfl rfl (.val (.int .i64 (fst rs m-x))) (by intro a1 a2 w e ha1 ha2;obtain rfl:a1=_:=ha1;obtain rfl:a2=_:=ha2;exact nrA _ _ _ _ ⟨u1,u2⟩ hx) ?_)|(refine oI ?_;refine azA rfl _ rfl (λ _=>rfl) rfl jZ rfl oZ ?_)|(refine oLt 79 ?_;refine akA rfl (λ _=>rfl) (λ _=>rfl) rfl ?_)|(show LA _ _ _ _ (⟨some 99,.alloc _,_,_,_,_⟩::_) _;refine a4A (hK _ _ (c5A rfl rfl dZ (λ _=>rfl) (λ _=>rfl) (λ _=>rfl) rfl (by intro u hu;simp [Value.cells] at hu;rcases hu with rfl|rfl <;> rfl) (λ bx wx ex hbx hbc=>?_)));clear hK K;refine aiA kZ (λ K hK=>?_))|(refine oF 0 ?_;refine a1A (a:=⟨bx,0,none⟩) (a':=⟨bx,0,none⟩) rfl rfl (λ _=>rfl) ?_)|(refine oF 1 ?_;refine a1A (a:=⟨bx,0,none⟩) (a':=⟨bx,1,none⟩) rfl rfl (λ _=>rfl) ?_)|(refine oLt 79 ?_;refine b2A rfl (λ _=>rfl) (λ _=>rfl) rfl hbc ?_)|(refine oLt 40 ?_;refine a5A rfl (λ _=>rfl) rfl hbc rfl ?_)|(refine c7A ?_;refine btA rfl _ rfl rfl jZ ?_)|refine yO ?_|(refine yC ?_ ?_<;>intro hc)|(refine yN hK ?_;clear hK K))|refine wG ?_|(refine yR ?_;intro K hK)|fail)
   refine bpA (i,m) ⟨by dsimp only;omega,by dsimp only;omega,?_⟩ eZ sZ;rw [← h3];conv=>rhs;rw [bsGo,if_pos hij,← hm,if_neg (by rw [hgm];exact hlt)]
 ·have e1:i=bsS xs x:=by rw [← h3,bsGo,if_neg oZ]
  by_cases hil:i<rs.length
  ·have hgi:=hget i hil
   obtain ⟨u1,u2,u3,u4⟩:=hu.at i
   by_cases heq:fst rs i=x
   ·have hf:dcA xs x=true:=by unfold dcA;rw [← e1,decide_eq_true ⟨by omega,by rw [hgi];exact heq⟩]
    rw [hf]
    repeat' (first|(refine yL ?_;first|refine a0A rfl ?_|(refine oD 46 ?_;refine a3A (f:=191) (r1:=.val _) (r2:=.val _) rfl rfl rfl rfl (.val (.int .i64 (fst rs i-x))) (by intro a1 a2 w e ha1 ha2;obtain rfl:a1=_:=ha1;obtain rfl:a2=_:=ha2;exact nrA _ _ _ _ ⟨u1,u2⟩ hx) ?_)|(refine oI ?_;refine azA rfl _ rfl (λ _=>rfl) rfl jZ rfl oZ ?_)|(refine oLt 79 ?_;refine akA rfl (λ _=>rfl) (λ _=>rfl) rfl ?_)|(show LA _ _ _ _ (⟨some 99,.alloc _,_,_,_,_⟩::_) _;refine a4A (hK _ _ (c5A rfl rfl dZ (λ _=>rfl) (λ _=>rfl) (λ _=>rfl) rfl (by intro u hu;simp [Value.cells] at hu;rcases hu with rfl|rfl <;> rfl) (λ bx wx ex hbx hbc=>?_)));clear hK K;refine aiA kZ (λ K hK=>?_))|(refine oF 0 ?_;refine a1A (a:=⟨bx,0,none⟩) (a':=⟨bx,0,none⟩) rfl rfl (λ _=>rfl) ?_)|(refine oF 1 ?_;refine a1A (a:=⟨bx,0,none⟩) (a':=⟨bx,1,none⟩) rfl rfl (λ _=>rfl) ?_)|(refine oLt 79 ?_;refine b2A rfl (λ _=>rfl) (λ _=>rfl) rfl hbc ?_)|(refine oLt 40 ?_;refine a5A rfl (λ _=>rfl) rfl hbc rfl ?_)|(refine c7A ?_;refine btA rfl _ rfl rfl jZ ?_)|refine yO ?_|(refine yC ?_ ?_<;>intro hc)|(refine yN hK ?_;clear hK K))|refine wG ?_|(refine yR ?_;intro K hK)|(refine oPX ?_;first|exact bgA rfl rfl rfl (Ext.refl _) (by rw [e1]) rfl)|fail)
   ·have hf:dcA xs x=false:=by unfold dcA;rw [← e1];exact decide_eq_false (λ hh=>heq (by rw [← hgi];exact hh.2))
    rw [hf]
    repeat' (first|(refine yL ?_;first|refine a0A rfl ?_|(refine oD 46 ?_;refine a3A (f:=191) (r1:=.val _) (r2:=.val _) rfl rfl rfl rfl (.val (.int .i64 (fst rs i-x))) (by intro a1 a2 w e ha1 ha2;obtain rfl:a1=_:=ha1;obtain rfl:a2=_:=ha2;exact nrA _ _ _ _ ⟨u1,u2⟩ hx) ?_)|(refine oI ?_;refine azA rfl _ rfl (λ _=>rfl) rfl jZ rfl oZ ?_)|(refine oLt 79 ?_;refine akA rfl (λ _=>rfl) (λ _=>rfl) rfl ?_)|(show LA _ _ _ _ (⟨some 99,.alloc _,_,_,_,_⟩::_) _;refine a4A (hK _ _ (c5A rfl rfl dZ (λ _=>rfl) (λ _=>rfl) (λ _=>rfl) rfl (by intro u hu;simp [Value.cells] at hu;rcases hu with rfl|rfl <;> rfl) (λ bx wx ex hbx hbc=>?_)));clear hK K;refine aiA kZ (λ K hK=>?_))|(refine oF 0 ?_;refine a1A (a:=⟨bx,0,none⟩) (a':=⟨bx,0,none⟩) rfl rfl (λ _=>rfl) ?_)|(refine oF 1 ?_;refine a1A (a:=⟨bx,0,none⟩) (a':=⟨bx,1,none⟩) rfl rfl (λ _=>rfl) ?_)|(refine oLt 79 ?_;refine b2A rfl (λ _=>rfl) (λ _=>rfl) rfl hbc ?_)|(refine oLt 40 ?_;refine a5A rfl (λ _=>rfl) rfl hbc rfl ?_)|(refine c7A ?_;refine btA rfl _ rfl rfl jZ ?_)|refine yO ?_|(refine yC ?_ ?_<;>intro hc)|(refine yN hK ?_;clear hK K))|refine wG ?_|(refine yR ?_;intro K hK)|(refine oPX ?_;first|exact bgA rfl rfl rfl (Ext.refl _) (by rw [e1]) rfl)|fail)
  ·have hf:dcA xs x=false:=by unfold dcA;rw [← e1];exact decide_eq_false (λ hh=>hil oZ)
   rw [hf]
   repeat' (first|(refine yL ?_;first|refine a0A rfl ?_|(refine oI ?_;refine azA rfl _ rfl (λ _=>rfl) rfl jZ rfl oZ ?_)|(refine oLt 79 ?_;refine akA rfl (λ _=>rfl) (λ _=>rfl) rfl ?_)|(show LA _ _ _ _ (⟨some 99,.alloc _,_,_,_,_⟩::_) _;refine a4A (hK _ _ (c5A rfl rfl dZ (λ _=>rfl) (λ _=>rfl) (λ _=>rfl) rfl (by intro u hu;simp [Value.cells] at hu;rcases hu with rfl|rfl <;> rfl) (λ bx wx ex hbx hbc=>?_)));clear hK K;refine aiA kZ (λ K hK=>?_))|(refine oF 0 ?_;refine a1A (a:=⟨bx,0,none⟩) (a':=⟨bx,0,none⟩) rfl rfl (λ _=>rfl) ?_)|(refine oF 1 ?_;refine a1A (a:=⟨bx,0,none⟩) (a':=⟨bx,1,none⟩) rfl rfl (λ _=>rfl) ?_)|(refine oLt 79 ?_;refine b2A rfl (λ _=>rfl) (λ _=>rfl) rfl hbc ?_)|(refine oLt 40 ?_;refine a5A rfl (λ _=>rfl) rfl hbc rfl ?_)|(refine c7A ?_;refine btA rfl _ rfl rfl jZ ?_)|refine yO ?_|(refine yC ?_ ?_<;>intro hc)|(refine yN hK ?_;clear hK K))|refine wG ?_|(refine yR ?_;intro K hK)|(refine oPX ?_;first|exact bgA rfl rfl rfl (Ext.refl _) (by rw [e1]) rfl)|fail)
theorem xtA (w:World) (v:Value) (rs:List Rn) (x:Nat) (h:SlR w v rs) (hu:U16 rs) (hr:Right rs) (hx:x<65536) (hb:rs.length≤70000):Fc Tryz.prog 170 #[v,.int .u16 x] w (Ret w (.val (.bool (inR rs x)))):=by
 rw [← has_eq hr hu x];obtain ⟨i,hi⟩:∃ i,i=bsS (rs.map Prod.fst) (x:Int):=⟨_,rfl⟩;obtain ⟨f,hf⟩:∃ f,f=dcA (rs.map Prod.fst) (x:Int):=⟨_,rfl⟩;have hil:i≤rs.length:=by have:=oaA (rs.map Prod.fst) (x:Int);rw [List.length_map] at this;omega
 have hH:hasR rs x=(f || (decide (0<i) && decide ((x:Int)<fst rs (i-1)+mor rs (i-1)+1))):=by unfold hasR;rw [← hi,← hf]
 rw [hH];clear hH;obtain ⟨u1,u2,u3,u4⟩:=hu.at (i-1);refine Fc.of (args:=[_,_]) Tryz.func170 rfl rfl Tryz.ntmps170 nZ ?_
 cases hfv:f
 ·by_cases hi0:0<i
  ·obtain ⟨j,rfl⟩:∃ j,i=j+1:=⟨i-1,by omega⟩
   rw [Nat.add_sub_cancel] at u1 u2 u3 u4 ⊢;have hji:(((j+1:Nat):Int)-1)=(j:Int):=oZ
   by_cases hin:(x:Int)<fst rs j+mor rs j+1
   all_goals
    repeat' (first|(refine yL ?_;first|refine a0A rfl ?_|(refine oD 22 ?_;refine abA rfl rfl rfl fZ ?_;rw [hji])|(refine oI ?_;refine azA rfl _ rfl (λ _=>rfl) rfl jZ rfl oZ ?_)|(refine oLt 79 ?_;refine akA rfl (λ _=>rfl) (λ _=>rfl) rfl ?_)|(show LA _ _ _ _ (⟨some 99,.alloc _,_,_,_,_⟩::_) _;refine a4A (hK _ _ (c5A rfl rfl dZ (λ _=>rfl) (λ _=>rfl) (λ _=>rfl) rfl (by intro u hu;simp [Value.cells] at hu;rcases hu with rfl|rfl <;> rfl) (λ bx wx ex hbx hbc=>?_)));clear hK K;refine aiA kZ (λ K hK=>?_))|(refine oF 0 ?_;refine a1A (a:=⟨bx,0,none⟩) (a':=⟨bx,0,none⟩) rfl rfl (λ _=>rfl) ?_)|(refine oF 1 ?_;refine a1A (a:=⟨bx,0,none⟩) (a':=⟨bx,1,none⟩) rfl rfl (λ _=>rfl) ?_)|(refine oLt 79 ?_;refine b2A rfl (λ _=>rfl) (λ _=>rfl) rfl hbc ?_)|(refine oLt 40 ?_;refine a5A rfl (λ _=>rfl) rfl hbc rfl ?_)|(refine c7A ?_;refine btA rfl _ rfl rfl jZ ?_)|refine yO ?_|(refine yC ?_ ?_<;>intro hc)|(refine yV ?_;first|(refine oC 190 ?_;refine alA (f:=190) rfl rfl rfl rfl rfl  (.tup2 (.val (.int .i64 ((j+1:Nat):Int))) (.val (.bool false))) (by intro u1 u2 u3 w e hu1 hu2 hu3;(try obtain rfl:u1=_:=hu1);(try obtain rfl:u2=_:=hu2);(try obtain rfl:u3=_:=hu3);exact i9A (by rw [hi]) (by rw [← hf,hfv]) (zbA _ _ rs x (h.ext e) hu ⟨by omega,by omega⟩ oZ)) ?_)|(refine oC 78 ?_;refine a2A (f:=78) rfl rfl rfl  (.val (.int .i64 (fst rs j+mor rs j+1))) (by intro u1 w e hu1;(try obtain rfl:u1=_:=hu1);exact p1A _ (fst rs j) (mor rs j) ⟨u1,u2⟩ ⟨u3,u4⟩) ?_))|(refine yN hK ?_;clear hK K))|refine wG ?_|(refine yR ?_;intro K hK)|(refine oPX ?_;first|exact a9A rfl rfl (Ext.refl _) (by simp [hin]))|fail)
  ·obtain rfl:i=0:=oZ
   repeat' (first|(refine yL ?_;first|refine a0A rfl ?_|refine yO ?_|(refine yC ?_ ?_<;>intro hc)|(refine yV ?_;first|(refine oC 190 ?_;refine alA (f:=190) rfl rfl rfl rfl rfl  (.tup2 (.val (.int .i64 ((0:Nat):Int))) (.val (.bool false))) (by intro u1 u2 u3 w e hu1 hu2 hu3;(try obtain rfl:u1=_:=hu1);(try obtain rfl:u2=_:=hu2);(try obtain rfl:u3=_:=hu3);exact i9A (by rw [hi]) (by rw [← hf,hfv]) (zbA _ _ rs x (h.ext e) hu ⟨by omega,by omega⟩ oZ)) ?_))|(refine yN hK ?_;clear hK K))|refine wG ?_|(refine yR ?_;intro K hK)|(refine oPX ?_;first|exact a9A rfl rfl (Ext.refl _) (by simp))|fail)
 ·skip
  repeat' (first|(refine yL ?_;first|refine a0A rfl ?_|refine yO ?_|(refine yC ?_ ?_<;>intro hc)|(refine yV ?_;first|(refine oC 190 ?_;refine alA (f:=190) rfl rfl rfl rfl rfl  (.tup2 (.val (.int .i64 (i:Int))) (.val (.bool true))) (by intro u1 u2 u3 w e hu1 hu2 hu3;(try obtain rfl:u1=_:=hu1);(try obtain rfl:u2=_:=hu2);(try obtain rfl:u3=_:=hu3);exact i9A (by rw [hi]) (by rw [← hf,hfv]) (zbA _ _ rs x (h.ext e) hu ⟨by omega,by omega⟩ oZ)) ?_))|(refine yN hK ?_;clear hK K))|refine wG ?_|(refine yR ?_;intro K hK)|(refine oPX ?_;first|exact a9A rfl rfl (Ext.refl _) (by simp))|fail)
end Go.Proofs.YtlnaebejmjmepaaGreatDoor
end
section
namespace Go.Proofs.YtlnaebejmjmepaaGreatDoor
open Go.LA Go.ArrP Go.RowKit
variable {A:Nat→Prop}
def nilS:Value:=.slice none 0 0
def OwnA (A:Nat→Prop) (e:Nat) (k:IntKind) (w:World) (v:Value) (xs:List Int):Prop:=OwnI 0 e k w v xs∧∀ b,v.ownBlock=some b→A b
theorem OwnA.ext {e:Nat} {k:IntKind} {w w':World} {v:Value} {xs:List Int} (h:OwnA A e k w v xs) (x:Ext w w'):OwnA A e k w' v xs:=⟨h.1.ext x,h.2⟩
theorem OwnA.slI {e:Nat} {k:IntKind} {w:World} {v:Value} {xs:List Int} (h:OwnA A e k w v xs):SlI k w v xs:=h.1.slI
def Fsh (A:Nat→Prop) (w:World):Prop:=∀ k,w.heap.size≤k→A k
theorem Fsh.ext {w w':World} (h:Fsh A w) (e:Ext w w'):Fsh A w':=λ k hk=>h k (Nat.le_trans e.size hk)
def TT:Nat→Prop:=λ _=>True
theorem tt {w:World}:Fsh TT w:=λ _ _=>trivial
def Cn (A:Nat→Prop) (w:World) (v:Value) (p:Nat→Bool) (kk:Int):Prop :=
 p 65536=false ∧
 ((kk=1∧∃ kd va,(kd=0∨kd=1)∧v=.agg #[.int .u8 kd,va,.slice none 0 0,.slice none 0 0]∧OwnA A 40 .u16 w va (adA p 65536)) ∨
  (kk=2∧∃ vw,v=.agg #[.int .u8 2,.slice none 0 0,vw,.slice none 0 0]∧OwnI 0 39 .u64 w vw (wordsOf p)) ∨
  (kk=3∧∃ vr,v=.agg #[.int .u8 3,.slice none 0 0,.slice none 0 0,vr]∧OwnR 0 79 w vr (avA p)))
theorem Cn.ext {w w':World} {v:Value} {p:Nat→Bool} {kk:Int} (h:Cn A w v p kk) (e:Ext w w'):Cn A w' v p kk:=by
 obtain ⟨hp,h|h|h⟩:=h
 ·obtain ⟨h1,kd,va,h2,h3,h4⟩:=h;exact ⟨hp,.inl ⟨h1,kd,va,h2,h3,h4.ext e⟩⟩
 ·obtain ⟨h1,vw,h3,h4⟩:=h;exact ⟨hp,.inr (.inl ⟨h1,vw,h3,h4.ext e⟩)⟩
 ·obtain ⟨h1,vr,h3,h4⟩:=h;exact ⟨hp,.inr (.inr ⟨h1,vr,h3,h4.ext e⟩)⟩
def cnP (A:Nat→Prop) (p:Nat→Bool) (kk:Int):AV:=⟨λ v w=>Cn A w v p kk,λ _ _ _ e h=>h.ext e⟩
theorem Cn.setRow {w:World} {v:Value} {p:Nat→Bool} {kk:Int} (h:Cn A w v p kk) {b:Nat} {cur:Array Value} {e:TypeId} {j:Nat × Nat} (hb:w.heap[b]?=some (.cells cur e j)) (he:40≠e∧39≠e∧79≠e) (cs:Array Value):Cn A (w.setRow b cs) v p kk:=by
 obtain ⟨hp,h|h|h⟩:=h
 ·obtain ⟨h1,kd,va,h2,h3,h4⟩:=h;exact ⟨hp,.inl ⟨h1,kd,va,h2,h3,Own.setRow h4.1 _ (Own.apart h4.1 hb he.1),h4.2⟩⟩
 ·obtain ⟨h1,vw,h3,h4⟩:=h;exact ⟨hp,.inr (.inl ⟨h1,vw,h3,Own.setRow h4 _ (Own.apart h4 hb he.2.1)⟩)⟩
 ·obtain ⟨h1,vr,h3,h4⟩:=h;exact ⟨hp,.inr (.inr ⟨h1,vr,h3,Own.setRow h4 _ (Own.apart h4 hb he.2.2)⟩)⟩
theorem Cn.arr {w:World} {va:Value} {p:Nat→Bool} {base:Nat} (hp:p 65536=false) {xs:List Int} (hx:xs=adA p 65536) (h:OwnI base 40 .u16 w va xs) (hA:∀ k,base≤k→A k):Cn A w (.agg #[.int .u8 1,va,.slice none 0 0,.slice none 0 0]) p 1 :=
 ⟨hp,.inl ⟨rfl,1,va,.inr rfl,rfl,hx▸Own.base h (Nat.zero_le _),λ k hk=>hA k (Own.lt h k hk).1⟩⟩
theorem Cn.wrd {w:World} {vw:Value} {p:Nat→Bool} {base:Nat} (hp:p 65536=false) {xs:List Int} (hx:xs=wordsOf p) (h:OwnI base 39 .u64 w vw xs) (hA:∀ k,base≤k→A k):Cn A w (.agg #[.int .u8 2,.slice none 0 0,vw,.slice none 0 0]) p 2 :=
 ⟨hp,.inr (.inl ⟨rfl,vw,rfl,hx▸Own.base h (Nat.zero_le _)⟩)⟩
theorem Cn.rns {w:World} {vr:Value} {p:Nat→Bool} {base:Nat} (hp:p 65536=false) {xs:List Rn} (hx:xs=avA p) (h:OwnR base 79 w vr xs) (hA:∀ k,base≤k→A k):Cn A w (.agg #[.int .u8 3,.slice none 0 0,.slice none 0 0,vr]) p 3 :=
 ⟨hp,.inr (.inr ⟨rfl,vr,rfl,hx▸Own.base h (Nat.zero_le _)⟩)⟩
theorem Cn.zero {w:World}:Cn A w (.agg #[.int .u8 0,.slice none 0 0,.slice none 0 0,.slice none 0 0]) (λ _=>false) 1 :=
 ⟨rfl,.inl ⟨rfl,0,_,.inl rfl,rfl,by rw [fpA (λ _=>false) (a:=0) 65536 dZ (λ _ _ _=>rfl)];exact ⟨OwnI.nil,λ _ h=>by cases h⟩⟩⟩
theorem Cn.parts {w:World} {v:Value} {p:Nat→Bool} {kk:Int} (h:Cn A w v p kk):∃ kd va vw vr,v=.agg #[.int .u8 kd,va,vw,vr]∧max kd 1=kk∧0≤kd∧kd≤3∧kk=max kd 1∧1≤kk∧kk≤3∧(∀ u ∈ (Value.agg #[.int .u8 kd,va,vw,vr]).cells.toList,u.oneCell'=true):=by
 obtain ⟨hp,h|h|h⟩:=h
 ·obtain ⟨h1,kd,va,h2,h3,h4⟩:=h
  refine ⟨kd,va,_,_,h3,by omega,by omega,by omega,by omega,by omega,by omega,λ u hu=>?_⟩;simp only [Value.cells,List.mem_cons,List.not_mem_nil,or_false] at hu
  rcases hu with rfl|rfl|rfl|rfl
  ·rfl
  ·exact OwnI.one h4.1
  ·rfl
  ·rfl
 ·obtain ⟨h1,vw,h3,h4⟩:=h
  refine ⟨2,_,vw,_,h3,by omega,by omega,by omega,by omega,by omega,by omega,λ u hu=>?_⟩;simp only [Value.cells,List.mem_cons,List.not_mem_nil,or_false] at hu
  rcases hu with rfl|rfl|rfl|rfl
  ·rfl
  ·rfl
  ·exact OwnI.one h4
  ·rfl
 ·obtain ⟨h1,vr,h3,h4⟩:=h
  refine ⟨3,_,_,vr,h3,by omega,by omega,by omega,by omega,by omega,by omega,λ u hu=>?_⟩;simp only [Value.cells,List.mem_cons,List.not_mem_nil,or_false] at hu
  rcases hu with rfl|rfl|rfl|rfl
  ·rfl
  ·rfl
  ·rfl
  ·obtain ⟨a,c,hv⟩:=(OwnR.slR h4).isSlice
   rw [hv];rfl
def wjA (c:Nat):Int:=if c≤4096 then 2*(c:Int) else 8192
def aoA (p:Nat→Bool):Int:=if 2+4*(cnt (bcA p) 65536:Int)<wjA (cnt p 65536) then 3 else if cnt p 65536≤4096 then 1 else 2
theorem laA {p q:Nat→Bool} (h:∀ i,i<65536→p i=q i):cnt (bcA p) 65536=cnt (bcA q) 65536:=cnA 65536 λ i hi=>by
 unfold bcA;rw [h i hi,h (i-1) oZ]
theorem meA {p q:Nat→Bool} (h:∀ i,i<65536→p i=q i):aoA p=aoA q:=by
 unfold aoA;rw [laA h,cnA 65536 h]
theorem Cn.congr {w:World} {v:Value} {p q:Nat→Bool} {kk:Int} (h:Cn A w v p kk) (hq:q 65536=false) (e:∀ i,i<65536→p i=q i):Cn A w v q kk:=by
 obtain ⟨hp,h⟩:=h;rw [cyA 65536 e,byA e,f2A e] at h;exact ⟨hq,h⟩
theorem auB {w:World} {p q:Nat→Bool} {kk:Int} (hq:q 65536=false) (e:∀ i,i<65536→p i=q i) (en:Ending) (w':World) (h:Ret w (.pred (cnP A p kk)) en w'):Ret w (.pred (cnP A q kk)) en w':=by
 obtain ⟨v,h1,h2,h3⟩:=h;exact ⟨v,h1,h2,Cn.congr h3 hq e⟩
theorem q5A {w:World} {p q:Nat→Bool} (hq:q 65536=false) (e:∀ i,i<65536→p i=q i) (en:Ending) (w':World) (h:Ret w (.pred (cnP A p (aoA p))) en w'):Ret w (.pred (cnP A q (aoA q))) en w':=by
 rw [← meA e];exact auB hq e en w' h
end Go.Proofs.YtlnaebejmjmepaaGreatDoor
end
section
namespace Go.Proofs.YtlnaebejmjmepaaGreatDoor
open Go.LA Go.ArrP Go.RowKit
variable {A:Nat→Prop}
theorem c8A:El Tryz.prog 22 40 (.int .u16 0) 1 2:=⟨rfl,rfl,rfl,by decide⟩
theorem ruA (w:World) (v:Value) (n:Nat) (cs:List Value) (h:SlC w v n 1 cs) (h1:∀ u ∈ cs,u.oneCell'=true) (hb:n*2≤140737488355328):Fc Tryz.prog 39 #[v] w (Ret w (.pred (hqA w.heap.size 40 1 n cs))):=by
 obtain ⟨h0,a,cap,rfl,hc,hm,hn,hcs⟩:=id h;have hlen:=h.len;cases a with
 | none =>
   obtain rfl:=hn rfl;obtain rfl:n=0:=oZ;obtain rfl:cs=[]:=List.eq_nil_of_length_eq_zero oZ;refine Fc.of (args:=[_]) Tryz.func39 rfl rfl Tryz.ntmps39 nZ ?_
   repeat' (first|(refine yL ?_;first|refine a0A rfl ?_|refine blA (c:=.bool true) rfl rfl rfl (λ _=>rfl) ?_|refine yO ?_|(refine yC ?_ ?_<;>intro hc)|(refine yN hK ?_;clear hK K))|refine wG ?_|(refine yR ?_;intro K hK)|(refine oPX ?_;first|exact ajA rfl rfl (Ext.refl _) (λ u w2 e2 hu=>by obtain rfl:u=_:=hu;exact Own.nil))|fail)
 | some a =>
   refine Fc.of (args:=[_]) Tryz.func39 rfl rfl Tryz.ntmps39 nZ ?_
   repeat' (first|(refine yL ?_;first|refine a0A rfl ?_|refine blA (c:=.bool false) rfl rfl rfl (λ _=>rfl) ?_|refine ghA 40 (s:=1) rfl (λ _=>by kernel_rfl) ?_|(refine a4A (hK _ _ (bkA 5 rfl (λ v5 w5 e5 h5=>?_)));clear hK K;have h6:=h.ext e5;have ho:Own w.heap.size _ _ w5 v5 0 []:=h5;refine aiA kZ (λ K hK=>?_))|(refine a4A (hK _ _ (cpA rfl dZ c8A rfl ho rfl (HasC.val h6) h1 (by rw [Nat.zero_add];unfold maxLen;omega) (by rw [Nat.zero_add];exact hb) e5.size (λ v' w2 w3 he2 ho3 hg3=>?_)));clear hK K;dsimp only [vals];refine aiA kZ (λ K hK=>?_))|refine yO ?_|(refine yC ?_ ?_<;>intro hc)|(refine yN hK ?_;clear hK K))|refine wG ?_|(refine yR ?_;intro K hK)|fail)
   exact ajA rfl rfl ((e5.trans he2).grown hg3 (λ q hq=>(Own.lt ho q hq).1)) (λ u w4 e4 hu=>by
    obtain rfl:u=_:=hu;have h9:Own w.heap.size 40 1 w3 u n cs:=by simpa using ho3
    exact h9.ext e4)
theorem bnB:El Tryz.prog 29 39 (.int .u64 0) 1 8:=⟨rfl,rfl,rfl,by decide⟩
theorem rsA (w:World) (v:Value) (n:Nat) (cs:List Value) (h:SlC w v n 1 cs) (h1:∀ u ∈ cs,u.oneCell'=true) (hb:n*8≤140737488355328):Fc Tryz.prog 40 #[v] w (Ret w (.pred (hqA w.heap.size 39 1 n cs))):=by
 obtain ⟨h0,a,cap,rfl,hc,hm,hn,hcs⟩:=id h;have hlen:=h.len;cases a with
 | none =>
   obtain rfl:=hn rfl;obtain rfl:n=0:=oZ;obtain rfl:cs=[]:=List.eq_nil_of_length_eq_zero oZ;refine Fc.of (args:=[_]) Tryz.func40 rfl rfl Tryz.ntmps40 nZ ?_
   repeat' (first|(refine yL ?_;first|refine a0A rfl ?_|refine blA (c:=.bool true) rfl rfl rfl (λ _=>rfl) ?_|refine yO ?_|(refine yC ?_ ?_<;>intro hc)|(refine yN hK ?_;clear hK K))|refine wG ?_|(refine yR ?_;intro K hK)|(refine oPX ?_;first|exact ajA rfl rfl (Ext.refl _) (λ u w2 e2 hu=>by obtain rfl:u=_:=hu;exact Own.nil))|fail)
 | some a =>
   refine Fc.of (args:=[_]) Tryz.func40 rfl rfl Tryz.ntmps40 nZ ?_
   repeat' (first|(refine yL ?_;first|refine a0A rfl ?_|refine blA (c:=.bool false) rfl rfl rfl (λ _=>rfl) ?_|refine ghA 39 (s:=1) rfl (λ _=>by kernel_rfl) ?_|(refine a4A (hK _ _ (bkA 5 rfl (λ v5 w5 e5 h5=>?_)));clear hK K;have h6:=h.ext e5;have ho:Own w.heap.size _ _ w5 v5 0 []:=h5;refine aiA kZ (λ K hK=>?_))|(refine a4A (hK _ _ (cpA rfl dZ bnB rfl ho rfl (HasC.val h6) h1 (by rw [Nat.zero_add];unfold maxLen;omega) (by rw [Nat.zero_add];exact hb) e5.size (λ v' w2 w3 he2 ho3 hg3=>?_)));clear hK K;dsimp only [vals];refine aiA kZ (λ K hK=>?_))|refine yO ?_|(refine yC ?_ ?_<;>intro hc)|(refine yN hK ?_;clear hK K))|refine wG ?_|(refine yR ?_;intro K hK)|fail)
   exact ajA rfl rfl ((e5.trans he2).grown hg3 (λ q hq=>(Own.lt ho q hq).1)) (λ u w4 e4 hu=>by
    obtain rfl:u=_:=hu;have h9:Own w.heap.size 39 1 w3 u n cs:=by simpa using ho3
    exact h9.ext e4)
theorem e5A {w:World} {v:Value} {p:Nat→Bool} {kk:Int} (h:Cn A w v p kk):Fc Tryz.prog 57 #[v] w (Ret w (.val (.int .u8 kk))):=by
 obtain ⟨kd,va,vw,vr,rfl,-,h1,h2,rfl,-⟩:=h.parts;refine Fc.of (args:=[_]) Tryz.func57 rfl rfl Tryz.ntmps57 nZ ?_
 repeat' (first|(refine yL ?_;first|refine a0A rfl ?_|refine d9A ?_|(refine f7A rfl rfl rfl ?_)|refine yO ?_|(refine yC ?_ ?_<;>intro hc)|(refine yN hK ?_;clear hK K))|refine wG ?_|(refine yR ?_;intro K hK)|fail)
 all_goals exact a9A rfl rfl (Ext.refl _) rfl
theorem vcA {w:World} {va vw vr:Value} {kd:Int} {xs:List Int} (h:SlI .u16 w va xs):Fc Tryz.prog 81 #[.agg #[.int .u8 kd,va,vw,vr]] w (Ret w (.val (.int .i64 xs.length))):=by
 have hl:=h.len;refine Fc.of (args:=[_]) Tryz.func81 rfl rfl Tryz.ntmps81 nZ ?_
 repeat' (first|(refine yL ?_;first|refine a0A rfl ?_|refine d9A ?_|refine yO ?_|(refine yC ?_ ?_<;>intro hc)|(refine yN hK ?_;clear hK K))|refine wG ?_|(refine yR ?_;intro K hK)|fail)
 all_goals exact a9A rfl rfl (Ext.refl _) rfl
theorem t2A {w:World} {va vw vr:Value} {kd:Int} {p:Nat→Bool} (h:SlI .u64 w vw (wordsOf p)):Fc Tryz.prog 82 #[.agg #[.int .u8 kd,va,vw,vr]] w (Ret w (.val (.int .i64 (cnt p 65536)))):=by
 refine Fc.of (args:=[_]) Tryz.func82 rfl rfl Tryz.ntmps82 nZ ?_
 repeat' (first|(refine yL ?_;first|refine a0A rfl ?_|refine d9A ?_|refine yO ?_|(refine yC ?_ ?_<;>intro hc)|(refine yV ?_;first|(refine oC 116 ?_;refine a2A (f:=116) rfl rfl rfl  (.val (.int .i64 (cnt p 65536))) (by intro u1 w e hu1;(try obtain rfl:u1=_:=hu1);exact wlenP _ _ p (h.ext e)) ?_))|(refine yN hK ?_;clear hK K))|refine wG ?_|(refine yR ?_;intro K hK)|fail)
 all_goals exact a9A rfl rfl (Ext.refl _) rfl
theorem tfA {w:World} {va vw vr:Value} {kd:Int} {p:Nat→Bool} (h:SlR w vr (avA p)):Fc Tryz.prog 83 #[.agg #[.int .u8 kd,va,vw,vr]] w (Ret w (.val (.int .i64 (cnt p 65536)))):=by
 have hl:jcA (avA p)=cnt p 65536:=mdA p 65536;rw [← hl];have hn:(avA p).length≤70000:=by have:=dbA p;omega
 refine Fc.of (args:=[_]) Tryz.func83 rfl rfl Tryz.ntmps83 nZ ?_
 repeat' (first|(refine yL ?_;first|refine a0A rfl ?_|refine d9A ?_|refine yO ?_|(refine yC ?_ ?_<;>intro hc)|(refine yV ?_;first|(refine oC 117 ?_;refine a2A (f:=117) rfl rfl rfl  (.val (.int .i64 (jcA (avA p)))) (by intro u1 w e hu1;(try obtain rfl:u1=_:=hu1);exact xqA _ _ (avA p) (h.ext e) (dkA p) hn) ?_))|(refine yN hK ?_;clear hK K))|refine wG ?_|(refine yR ?_;intro K hK)|fail)
 all_goals exact a9A rfl rfl (Ext.refl _) rfl
theorem hkA {w:World} {v:Value} {p:Nat→Bool} {kk:Int} (h:Cn A w v p kk):Fc Tryz.prog 47 #[v] w (Ret w (.val (.int .i64 (cnt p 65536)))):=by
 have hk:∀ w',Ext w w'→_:=λ w' e=>e5A (h.ext e)
 have hll:=baA p 65536;obtain ⟨hp,⟨rfl,kd,va,hkd,rfl,ho⟩|⟨rfl,vw,rfl,ho⟩|⟨rfl,vr,rfl,ho⟩⟩:=h
 ·skip
  refine Fc.of (args:=[_]) Tryz.func47 rfl rfl Tryz.ntmps47 nZ ?_
  repeat' (first|(refine yL ?_;first|refine a0A rfl ?_|refine d9A ?_|refine c0A (c:=.agg #[.nilFunc,.func (.func 81) #[] #[],.func (.func 82) #[] #[],.func (.func 83) #[] #[]]) rfl rfl rfl rfl (λ _=>by kernel_rfl) ?_|(refine d3A 1 (c:=.func (.func 81) #[] #[]) rfl rfl (λ _=>rfl) rfl rfl rfl dZ (λ _=>by kernel_rfl) ?_)|refine yO ?_|(refine yC ?_ ?_<;>intro hc)|(refine yV ?_;first|(refine oC 57 ?_;refine a2A (f:=57) rfl rfl rfl _ (by intro u1 w' e hu1;obtain rfl:u1=_:=hu1;exact hk w' e) ?_)|(refine a2A (f:=81) rfl rfl rfl (.val (.int .i64 (cnt p 65536))) (by intro u1 w' e hu1;obtain rfl:u1=_:=hu1;exact by rw [← hll];exact vcA (ho.ext e).slI) ?_))|(refine yN hK ?_;clear hK K))|refine wG ?_|(refine yR ?_;intro K hK)|fail)
  all_goals exact a9A rfl rfl (Ext.refl _) rfl
 ·skip
  refine Fc.of (args:=[_]) Tryz.func47 rfl rfl Tryz.ntmps47 nZ ?_
  repeat' (first|(refine yL ?_;first|refine a0A rfl ?_|refine d9A ?_|refine c0A (c:=.agg #[.nilFunc,.func (.func 81) #[] #[],.func (.func 82) #[] #[],.func (.func 83) #[] #[]]) rfl rfl rfl rfl (λ _=>by kernel_rfl) ?_|(refine d3A 2 (c:=.func (.func 82) #[] #[]) rfl rfl (λ _=>rfl) rfl rfl rfl dZ (λ _=>by kernel_rfl) ?_)|refine yO ?_|(refine yC ?_ ?_<;>intro hc)|(refine yV ?_;first|(refine oC 57 ?_;refine a2A (f:=57) rfl rfl rfl _ (by intro u1 w' e hu1;obtain rfl:u1=_:=hu1;exact hk w' e) ?_)|(refine a2A (f:=82) rfl rfl rfl (.val (.int .i64 (cnt p 65536))) (by intro u1 w' e hu1;obtain rfl:u1=_:=hu1;exact t2A (ho.ext e).slI) ?_))|(refine yN hK ?_;clear hK K))|refine wG ?_|(refine yR ?_;intro K hK)|fail)
  all_goals exact a9A rfl rfl (Ext.refl _) rfl
 ·skip
  refine Fc.of (args:=[_]) Tryz.func47 rfl rfl Tryz.ntmps47 nZ ?_
  repeat' (first|(refine yL ?_;first|refine a0A rfl ?_|refine d9A ?_|refine c0A (c:=.agg #[.nilFunc,.func (.func 81) #[] #[],.func (.func 82) #[] #[],.func (.func 83) #[] #[]]) rfl rfl rfl rfl (λ _=>by kernel_rfl) ?_|(refine d3A 3 (c:=.func (.func 83) #[] #[]) rfl rfl (λ _=>rfl) rfl rfl rfl dZ (λ _=>by kernel_rfl) ?_)|refine yO ?_|(refine yC ?_ ?_<;>intro hc)|(refine yV ?_;first|(refine oC 57 ?_;refine a2A (f:=57) rfl rfl rfl _ (by intro u1 w' e hu1;obtain rfl:u1=_:=hu1;exact hk w' e) ?_)|(refine a2A (f:=83) rfl rfl rfl (.val (.int .i64 (cnt p 65536))) (by intro u1 w' e hu1;obtain rfl:u1=_:=hu1;exact tfA (ho.ext e).slR) ?_))|(refine yN hK ?_;clear hK K))|refine wG ?_|(refine yR ?_;intro K hK)|fail)
  all_goals exact a9A rfl rfl (Ext.refl _) rfl
theorem ywA (p:Nat→Bool) (x:Nat) (hx:x<65536):dcA (adA p 65536) (x:Int)=p x:=by
 rw [exA _ (bjA p _)];exact c4A p hx
theorem vdA {w:World} {va vw vr:Value} {kd:Int} {p:Nat→Bool} {x:Nat} (h:SlI .u16 w va (adA p 65536)) (hx:x<65536):Fc Tryz.prog 123 #[.agg #[.int .u8 kd,va,vw,vr],.int .u16 x] w (Ret w (.val (.bool (p x)))):=by
 have hf:=ywA p x hx;have hn:(adA p 65536).length≤4611686018427387903:=by rw [baA];have:=cnt_le p 65536;omega
 refine Fc.of (args:=[_,_]) Tryz.func123 rfl rfl Tryz.ntmps123 nZ ?_
 repeat' (first|(refine yL ?_;first|refine a0A rfl ?_|refine d9A ?_|refine yO ?_|(refine yC ?_ ?_<;>intro hc)|(refine yV ?_;first|(refine oC 163 ?_;refine a3A (f:=163) rfl rfl rfl rfl  (.tup2 (.val (.int .i64 (bsS (adA p 65536) x))) (.val (.bool (p x)))) (by intro u1 u2 w e hu1 hu2;(try obtain rfl:u1=_:=hu1);(try obtain rfl:u2=_:=hu2);exact tpA rfl (by rw [hf]) (woA _ _ (adA p 65536) x (h.ext e) hn)) ?_))|(refine yN hK ?_;clear hK K))|refine wG ?_|(refine yR ?_;intro K hK)|fail)
 all_goals exact a9A rfl rfl (Ext.refl _) rfl
theorem t3A {w:World} {va vw vr:Value} {kd:Int} {p:Nat→Bool} {x:Nat} (h:SlI .u64 w vw (wordsOf p)) (hx:x<65536):Fc Tryz.prog 124 #[.agg #[.int .u8 kd,va,vw,vr],.int .u16 x] w (Ret w (.val (.bool (p x)))):=by
 refine Fc.of (args:=[_,_]) Tryz.func124 rfl rfl Tryz.ntmps124 nZ ?_
 repeat' (first|(refine yL ?_;first|refine a0A rfl ?_|refine d9A ?_|refine yO ?_|(refine yC ?_ ?_<;>intro hc)|(refine yV ?_;first|(refine oC 169 ?_;refine a3A (f:=169) rfl rfl rfl rfl  (.val (.bool (p x))) (by intro u1 u2 w e hu1 hu2;(try obtain rfl:u1=_:=hu1);(try obtain rfl:u2=_:=hu2);exact whasP _ _ p (h.ext e) x hx) ?_))|(refine yN hK ?_;clear hK K))|refine wG ?_|(refine yR ?_;intro K hK)|fail)
 all_goals exact a9A rfl rfl (Ext.refl _) rfl
theorem tgA {w:World} {va vw vr:Value} {kd:Int} {p:Nat→Bool} {x:Nat} (h:SlR w vr (avA p)) (hx:x<65536):Fc Tryz.prog 125 #[.agg #[.int .u8 kd,va,vw,vr],.int .u16 x] w (Ret w (.val (.bool (p x)))):=by
 rw [← huA p hx];have hn:(avA p).length≤70000:=by have:=dbA p;omega
 refine Fc.of (args:=[_,_]) Tryz.func125 rfl rfl Tryz.ntmps125 nZ ?_
 repeat' (first|(refine yL ?_;first|refine a0A rfl ?_|refine d9A ?_|refine yO ?_|(refine yC ?_ ?_<;>intro hc)|(refine yV ?_;first|(refine oC 170 ?_;refine a3A (f:=170) rfl rfl rfl rfl  (.val (.bool (inR (avA p) x))) (by intro u1 u2 w e hu1 hu2;(try obtain rfl:u1=_:=hu1);(try obtain rfl:u2=_:=hu2);exact xtA _ _ (avA p) x (h.ext e) (dkA p) (dsA p) hx hn) ?_))|(refine yN hK ?_;clear hK K))|refine wG ?_|(refine yR ?_;intro K hK)|fail)
 all_goals exact a9A rfl rfl (Ext.refl _) rfl
theorem unA {w:World} {v:Value} {p:Nat→Bool} {kk:Int} {x:Nat} (h:Cn A w v p kk) (hx:x<65536):Fc Tryz.prog 86 #[v,.int .u16 x] w (Ret w (.val (.bool (p x)))):=by
 have hk:∀ w',Ext w w'→_:=λ w' e=>e5A (h.ext e)
 obtain ⟨hp,⟨rfl,kd,va,hkd,rfl,ho⟩|⟨rfl,vw,rfl,ho⟩|⟨rfl,vr,rfl,ho⟩⟩:=h
 ·skip
  refine Fc.of (args:=[_,_]) Tryz.func86 rfl rfl Tryz.ntmps86 nZ ?_
  repeat' (first|(refine yL ?_;first|refine a0A rfl ?_|refine d9A ?_|refine c0A (c:=.agg #[.nilFunc,.func (.func 123) #[] #[],.func (.func 124) #[] #[],.func (.func 125) #[] #[]]) rfl rfl rfl rfl (λ _=>by kernel_rfl) ?_|(refine d3A 1 (c:=.func (.func 123) #[] #[]) rfl rfl (λ _=>rfl) rfl rfl rfl dZ (λ _=>by kernel_rfl) ?_)|refine yO ?_|(refine yC ?_ ?_<;>intro hc)|(refine yV ?_;first|(refine oC 57 ?_;refine a2A (f:=57) rfl rfl rfl _ (by intro u1 w' e hu1;obtain rfl:u1=_:=hu1;exact hk w' e) ?_)|(refine a3A (f:=123) rfl rfl rfl rfl (.val (.bool (p x))) (by intro u1 u2 w' e hu1 hu2;obtain rfl:u1=_:=hu1;obtain rfl:u2=_:=hu2;exact vdA (ho.ext e).slI hx) ?_))|(refine yN hK ?_;clear hK K))|refine wG ?_|(refine yR ?_;intro K hK)|fail)
  all_goals exact a9A rfl rfl (Ext.refl _) rfl
 ·skip
  refine Fc.of (args:=[_,_]) Tryz.func86 rfl rfl Tryz.ntmps86 nZ ?_
  repeat' (first|(refine yL ?_;first|refine a0A rfl ?_|refine d9A ?_|refine c0A (c:=.agg #[.nilFunc,.func (.func 123) #[] #[],.func (.func 124) #[] #[],.func (.func 125) #[] #[]]) rfl rfl rfl rfl (λ _=>by kernel_rfl) ?_|(refine d3A 2 (c:=.func (.func 124) #[] #[]) rfl rfl (λ _=>rfl) rfl rfl rfl dZ (λ _=>by kernel_rfl) ?_)|refine yO ?_|(refine yC ?_ ?_<;>intro hc)|(refine yV ?_;first|(refine oC 57 ?_;refine a2A (f:=57) rfl rfl rfl _ (by intro u1 w' e hu1;obtain rfl:u1=_:=hu1;exact hk w' e) ?_)|(refine a3A (f:=124) rfl rfl rfl rfl (.val (.bool (p x))) (by intro u1 u2 w' e hu1 hu2;obtain rfl:u1=_:=hu1;obtain rfl:u2=_:=hu2;exact t3A (ho.ext e).slI hx) ?_))|(refine yN hK ?_;clear hK K))|refine wG ?_|(refine yR ?_;intro K hK)|fail)
  all_goals exact a9A rfl rfl (Ext.refl _) rfl
 ·skip
  refine Fc.of (args:=[_,_]) Tryz.func86 rfl rfl Tryz.ntmps86 nZ ?_
  repeat' (first|(refine yL ?_;first|refine a0A rfl ?_|refine d9A ?_|refine c0A (c:=.agg #[.nilFunc,.func (.func 123) #[] #[],.func (.func 124) #[] #[],.func (.func 125) #[] #[]]) rfl rfl rfl rfl (λ _=>by kernel_rfl) ?_|(refine d3A 3 (c:=.func (.func 125) #[] #[]) rfl rfl (λ _=>rfl) rfl rfl rfl dZ (λ _=>by kernel_rfl) ?_)|refine yO ?_|(refine yC ?_ ?_<;>intro hc)|(refine yV ?_;first|(refine oC 57 ?_;refine a2A (f:=57) rfl rfl rfl _ (by intro u1 w' e hu1;obtain rfl:u1=_:=hu1;exact hk w' e) ?_)|(refine a3A (f:=125) rfl rfl rfl rfl (.val (.bool (p x))) (by intro u1 u2 w' e hu1 hu2;obtain rfl:u1=_:=hu1;obtain rfl:u2=_:=hu2;exact tgA (ho.ext e).slR hx) ?_))|(refine yN hK ?_;clear hK K))|refine wG ?_|(refine yR ?_;intro K hK)|fail)
  all_goals exact a9A rfl rfl (Ext.refl _) rfl
end Go.Proofs.YtlnaebejmjmepaaGreatDoor
end
section
namespace Go.Proofs.YtlnaebejmjmepaaGreatDoor
open Go.LA Go.ArrP Go.RowKit
variable {A:Nat→Prop}
theorem SlI.nil16 {w:World}:SlI .u16 w (.slice none 0 0) []:=⟨rfl,none,0,rfl,Nat.le_refl _,Nat.zero_le _,λ _=>rfl,.inl rfl⟩
theorem uqA {rs:List Rn} (hr:Right rs) (hu:U16 rs) {k:Nat} (hk:k<rs.length):wordsOf (lpA (inR (rs.take k)) (fst rs k) (fst rs k+mor rs k+1))=wordsOf (inR (rs.take (k+1))):=byA λ i _=>by
 have h0:=(lfA hr hu k oZ).1 i;have h1:=(hr k hk).1;rw [gjA hk,ioA,inA];unfold lpA
 by_cases h2:fst rs k≤(i:Int)
 ·rw [h0 oZ,decide_eq_true h2]
  by_cases h3:(i:Int)≤fst rs k+mor rs k
  ·rw [decide_eq_true (by omega:(i:Int)<fst rs k+mor rs k+1),decide_eq_true h3];rfl
  ·rw [decide_eq_false (by omega:¬ (i:Int)<fst rs k+mor rs k+1),decide_eq_false h3];rfl
 ·rw [decide_eq_false h2]
  cases inR (rs.take k) i <;> rfl
theorem ftA (w:World) (v:Value) (xs:List Int) (h:SlI .u16 w v xs) (hb:xs.length≤65536):Fc Tryz.prog 39 #[v] w (Ret w (.pred (bnA w.heap.size 40 .u16 xs))) :=
 ruA w v xs.length (xs.map (Value.int .u16)) h khA oZ
theorem ltA (w:World) (v:Value) (xs:List Int) (h:SlI .u64 w v xs) (hb:xs.length≤65536):Fc Tryz.prog 40 #[v] w (Ret w (.pred (bnA w.heap.size 39 .u64 xs))) :=
 rsA w v xs.length (xs.map (Value.int .u64)) h khA oZ
theorem o8A (w:World) (v:Value) (rs:List Rn) (h:SlR w v rs) (hb:rs.length≤65536):Fc Tryz.prog 44 #[v] w (Ret w (.pred (erA w.heap.size 79 rs))) :=
 lsA w v rs.length (d0A rs) h (h3A rs) oZ
theorem ijA (p:Nat→Bool):(adA p 65536).length≤65536:=by rw [baA];exact cnt_le p 65536
theorem mrA {w:World} {v:Value} {p:Nat→Bool} {kk:Int} (h:Cn A w v p kk) (hT:Tab w):Fc Tryz.prog 46 #[v] w (Ret w (.pred (bnA w.heap.size 40 .u16 (adA p 65536)))):=by
 have hl:ecA (avA p)=adA p 65536:=keA p 65536;have hn:(avA p).length≤70000:=by have:=dbA p;omega
 obtain ⟨hp,⟨rfl,kd,va,hkd,rfl,ho⟩|⟨rfl,vw,rfl,ho⟩|⟨rfl,vr,rfl,ho⟩⟩:=h
 ·refine Fc.of (args:=[_]) Tryz.func46 rfl rfl Tryz.ntmps46 nZ ?_
  repeat' (first|(refine yL ?_;first|refine a0A rfl ?_|refine d9A ?_|refine yO ?_|(refine yC ?_ ?_<;>intro hc)|(refine yV ?_;first|(refine oC 39 ?_;refine a2A (f:=39) rfl rfl rfl  (.pred (bnA _ 40 .u16 (adA p 65536))) (by intro u1 w e hu1;(try obtain rfl:u1=_:=hu1);exact (ftA _ _ _ (ho.ext e).slI (ijA p)).mono (aaA e.size)) ?_))|(refine yN hK ?_;clear hK K))|refine wG ?_|(refine yR ?_;intro K hK)|fail)
  all_goals exact ajA rfl rfl (Ext.refl _) (λ _ _ _ hv=>hv)
 ·refine Fc.of (args:=[_]) Tryz.func46 rfl rfl Tryz.ntmps46 nZ ?_
  repeat' (first|(refine yL ?_;first|refine a0A rfl ?_|refine d9A ?_|refine yO ?_|(refine yC ?_ ?_<;>intro hc)|(refine yV ?_;first|(refine oC 79 ?_;refine a2A (f:=79) rfl rfl rfl  (.pred (bnA _ 40 .u16 (adA p 65536))) (by intro u1 w e hu1;(try obtain rfl:u1=_:=hu1);exact (abB _ _ p (ho.ext e).slI (hT.ext e)).mono (aaA e.size)) ?_))|(refine yN hK ?_;clear hK K))|refine wG ?_|(refine yR ?_;intro K hK)|fail)
  all_goals exact ajA rfl rfl (Ext.refl _) (λ _ _ _ hv=>hv)
 ·refine Fc.of (args:=[_]) Tryz.func46 rfl rfl Tryz.ntmps46 nZ ?_
  repeat' (first|(refine yL ?_;first|refine a0A rfl ?_|refine d9A ?_|refine yO ?_|(refine yC ?_ ?_<;>intro hc)|(refine yV ?_;first|(refine oC 80 ?_;refine a2A (f:=80) rfl rfl rfl  (.pred (bnA _ 40 .u16 (adA p 65536))) (by intro u1 w e hu1;(try obtain rfl:u1=_:=hu1);exact by rw [← hl];exact (tnA _ _ _ (ho.ext e).slR (dkA p) (dsA p) hn).mono (aaA e.size)) ?_))|(refine yN hK ?_;clear hK K))|refine wG ?_|(refine yR ?_;intro K hK)|fail)
  all_goals exact ajA rfl rfl (Ext.refl _) (λ _ _ _ hv=>hv)
theorem beB {w:World} {v:Value} {p:Nat→Bool} {kk:Int} (h:Cn A w v p kk):Fc Tryz.prog 84 #[v] w (Ret w (.val (.int .i64 (cnt (bcA p) 65536)))):=by
 have hm:(avA p).length=cnt (bcA p) 65536:=hsA p 65536;have hr:=m9A p;obtain ⟨hp,⟨rfl,kd,va,hkd,rfl,ho⟩|⟨rfl,vw,rfl,ho⟩|⟨rfl,vr,rfl,ho⟩⟩:=h
 ·refine Fc.of (args:=[_]) Tryz.func84 rfl rfl Tryz.ntmps84 nZ ?_
  repeat' (first|(refine yL ?_;first|refine a0A rfl ?_|refine d9A ?_|refine yO ?_|(refine yC ?_ ?_<;>intro hc)|(refine yV ?_;first|(refine oC 119 ?_;refine a2A (f:=119) rfl rfl rfl  (.val (.int .i64 (cnt (bcA p) 65536))) (by intro u1 w e hu1;(try obtain rfl:u1=_:=hu1);exact arA (by rw [hr]) (anB _ _ _ (ho.ext e).slI)) ?_))|(refine yN hK ?_;clear hK K))|refine wG ?_|(refine yR ?_;intro K hK)|fail)
  all_goals exact a9A rfl rfl (Ext.refl _) rfl
 ·refine Fc.of (args:=[_]) Tryz.func84 rfl rfl Tryz.ntmps84 nZ ?_
  repeat' (first|(refine yL ?_;first|refine a0A rfl ?_|refine d9A ?_|refine yO ?_|(refine yC ?_ ?_<;>intro hc)|(refine yV ?_;first|(refine oC 118 ?_;refine a2A (f:=118) rfl rfl rfl  (.val (.int .i64 (cnt (bcA p) 65536))) (by intro u1 w e hu1;(try obtain rfl:u1=_:=hu1);exact a6B _ _ p (ho.ext e).slI) ?_))|(refine yN hK ?_;clear hK K))|refine wG ?_|(refine yR ?_;intro K hK)|fail)
  all_goals exact a9A rfl rfl (Ext.refl _) rfl
 ·have hs:=ho.slR
  rw [← hm];refine Fc.of (args:=[_]) Tryz.func84 rfl rfl Tryz.ntmps84 nZ ?_
  repeat' (first|(refine yL ?_;first|refine a0A rfl ?_|refine d9A ?_|(refine c7A ?_;refine btA rfl _ rfl rfl (HasR.val hs) ?_)|refine yO ?_|(refine yC ?_ ?_<;>intro hc)|(refine yN hK ?_;clear hK K))|refine wG ?_|(refine yR ?_;intro K hK)|fail)
  all_goals exact a9A rfl rfl (Ext.refl _) rfl
theorem kpA {w:World} {v:Value} {p:Nat→Bool} {kk:Int} (h:Cn A w v p kk) (hT:Tab w):Fc Tryz.prog 10 #[v] w (Ret w (.pred (erA w.heap.size 79 (avA p)))):=by
 have hm':=dbA p;have hmm:avA (buA (adA p 65536))=avA p:=f2A λ i hi=>c4A p hi
 have ha:∀ w',Ext w w'→_:=λ w' e=>mrA (h.ext e) (hT.ext e)
 obtain ⟨hp,⟨rfl,kd,va,hkd,rfl,ho⟩|⟨rfl,vw,rfl,ho⟩|⟨rfl,vr,rfl,ho⟩⟩:=h
 ·refine Fc.of (args:=[_]) Tryz.func10 rfl rfl Tryz.ntmps10 nZ ?_
  repeat' (first|(refine yL ?_;first|refine a0A rfl ?_|refine d9A ?_|refine yO ?_|(refine yC ?_ ?_<;>intro hc)|(refine yV ?_;first|(refine oC 46 ?_;refine a2A (f:=46) rfl rfl rfl  (.pred (bnA _ 40 .u16 (adA p 65536))) (by intro u1 w e hu1;(try obtain rfl:u1=_:=hu1);exact (ha _ e).mono (aaA e.size)) ?_)|(refine oC 45 ?_;refine a2A (f:=45) rfl rfl rfl  (.pred (erA _ 79 (avA p))) (by intro u1 w e hu1;(try obtain rfl:u1=_:=hu1);exact (waA _ _ _ (OwnI.slI hu1) (bjA p _) (chA p)).mono (b1A e.size hmm)) ?_))|(refine yN hK ?_;clear hK K))|refine wG ?_|(refine yR ?_;intro K hK)|fail)
  all_goals exact ajA rfl rfl (Ext.refl _) (λ _ _ _ hv=>hv)
 ·refine Fc.of (args:=[_]) Tryz.func10 rfl rfl Tryz.ntmps10 nZ ?_
  repeat' (first|(refine yL ?_;first|refine a0A rfl ?_|refine d9A ?_|refine yO ?_|(refine yC ?_ ?_<;>intro hc)|(refine yV ?_;first|(refine oC 46 ?_;refine a2A (f:=46) rfl rfl rfl  (.pred (bnA _ 40 .u16 (adA p 65536))) (by intro u1 w e hu1;(try obtain rfl:u1=_:=hu1);exact (ha _ e).mono (aaA e.size)) ?_)|(refine oC 45 ?_;refine a2A (f:=45) rfl rfl rfl  (.pred (erA _ 79 (avA p))) (by intro u1 w e hu1;(try obtain rfl:u1=_:=hu1);exact (waA _ _ _ (OwnI.slI hu1) (bjA p _) (chA p)).mono (b1A e.size hmm)) ?_))|(refine yN hK ?_;clear hK K))|refine wG ?_|(refine yR ?_;intro K hK)|fail)
  all_goals exact ajA rfl rfl (Ext.refl _) (λ _ _ _ hv=>hv)
 ·refine Fc.of (args:=[_]) Tryz.func10 rfl rfl Tryz.ntmps10 nZ ?_
  repeat' (first|(refine yL ?_;first|refine a0A rfl ?_|refine d9A ?_|refine yO ?_|(refine yC ?_ ?_<;>intro hc)|(refine yV ?_;first|(refine oC 44 ?_;refine a2A (f:=44) rfl rfl rfl  (.pred (erA _ 79 (avA p))) (by intro u1 w e hu1;(try obtain rfl:u1=_:=hu1);exact (o8A _ _ _ (ho.ext e).slR hm').mono (b1A e.size rfl)) ?_))|(refine yN hK ?_;clear hK K))|refine wG ?_|(refine yR ?_;intro K hK)|fail)
  all_goals exact ajA rfl rfl (Ext.refl _) (λ _ _ _ hv=>hv)
end Go.Proofs.YtlnaebejmjmepaaGreatDoor
end
